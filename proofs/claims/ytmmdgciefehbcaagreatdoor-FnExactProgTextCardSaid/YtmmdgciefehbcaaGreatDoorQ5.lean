/- Contracts of functions that the claim reaches, over data without addresses, and what follows of them (text Q5). No conditions beside those that each theorem names. -/
import Derived.Test.YtmmdgciefehbcaaGreatDoorQ2
set_option linter.unusedVariables false
set_option linter.unusedSimpArgs false
namespace Go.Proofs.YtmmdgciefehbcaaGreatDoor.Ax
def lEq : ByteArray := ⟨#[32, 61, 32]⟩
def lNl : ByteArray := ⟨#[59, 10]⟩
/-- A statement's own line. -/
def lineS (k : Int) (s : ByteArray) (a e lo hi : Ex) : ByteArray :=
  if k = 1 then ((s ++ lEq) ++ txE e) ++ lNl
  else if k = 2 then ((((s ++ ⟨#[91]⟩) ++ txE a) ++ ⟨#[93, 32, 61, 32]⟩) ++ txE e) ++ lNl
  else if k = 3 then ((((⟨#[102, 111, 114, 32]⟩ ++ s) ++ lEq) ++ txE lo) ++ ⟨#[32, 116, 111, 32]⟩) ++ txE hi ++ ⟨#[32, 123, 10]⟩
  else ((⟨#[112, 114, 105, 110, 116, 32]⟩ ++ txE e) ++ lNl)
mutual
def txS : ByteArray → Sm → ByteArray
  | pad, .mk k s a e lo hi b => if k = 3 then ((pad ++ lineS k s a e lo hi) ++ txL (pad ++ ⟨#[32, 32]⟩) b) ++ (pad ++ ⟨#[125, 10]⟩) else pad ++ lineS k s a e lo hi
def txL : ByteArray → List Sm → ByteArray
  | _, [] => ⟨#[]⟩
  | pad, x :: r => txS pad x ++ txL pad r
end
theorem txL_app (pad : ByteArray) (l m : List Sm) : txL pad (l ++ m) = txL pad l ++ txL pad m := by
  induction l with
  | nil => simp only [List.nil_append, txL]; exact (ByteArray.empty_append).symm
  | cons x r ih => simp only [List.cons_append, txL, ih, ByteArray.append_assoc]
theorem txL_one (pad : ByteArray) (l : List Sm) (j : Nat) (h : j < l.length) : txL pad (l.take (j + 1)) = txL pad (l.take j) ++ txS pad l[j] := by
  rw [List.take_succ_eq_append_getElem h, txL_app]
  congr 1
  simp only [txL]
  exact ByteArray.append_empty
theorem here_S {k : Int} {s : ByteArray} {a e lo hi : Ex} (h : hereS' k s a e lo hi = true) : (k = 1 ∨ k = 2 ∨ k = 3 ∨ k = 4) ∧ (k = 2 → okE a = true) ∧ (k ≠ 3 → okE e = true) ∧ (k = 3 → okE lo = true ∧ okE hi = true) ∧ s.size ≤ 6 := by
  simp only [hereS', Bool.and_eq_true, within, decide_eq_true_eq] at h
  obtain ⟨h1, h2, h3, h4, h5, h6⟩ := h
  refine ⟨by omega, fun hk => ?_, fun hk => ?_, fun hk => ⟨?_, ?_⟩, ?_⟩
  · rw [if_pos (by simp [flAt, hk])] at h2; exact h2
  · rw [if_pos (by simp [flE, hk])] at h3; exact h3
  · rw [if_pos (by simp [flB, hk])] at h4; exact h4
  · rw [if_pos (by simp [flB, hk])] at h5; exact h5
  · split at h6
    · exact okName_size h6
    · have := of_decide_eq_true h6
      subst this
      decide
theorem line_size {k : Int} {s : ByteArray} {a e lo hi : Ex} (h : hereS' k s a e lo hi = true) : (lineS k s a e lo hi).size ≤ 6000 := by
  obtain ⟨h1, h2, h3, h4, h5⟩ := here_S h
  have e1 : k = 2 → (txE a).size ≤ 2760 := fun h => (okE_okT (h2 h)).2
  have e2 : k ≠ 3 → (txE e).size ≤ 2760 := fun h => (okE_okT (h3 h)).2
  have e3 : k = 3 → (txE lo).size ≤ 2760 := fun h => (okE_okT (h4 h).1).2
  have e4 : k = 3 → (txE hi).size ≤ 2760 := fun h => (okE_okT (h4 h).2).2
  unfold lineS lEq lNl
  rcases h1 with rfl | rfl | rfl | rfl
  · have := e2 (by omega)
    simp only [if_true, ByteArray.size_append, szl, List.size_toArray, List.length_cons, List.length_nil]; omega
  · have := e2 (by omega)
    have := e1 rfl
    simp only [show ¬ (2 : Int) = 1 by omega, if_false, if_true, ByteArray.size_append, szl, List.size_toArray, List.length_cons, List.length_nil]; omega
  · have := e3 rfl
    have := e4 rfl
    simp only [show ¬ (3 : Int) = 1 by omega, show ¬ (3 : Int) = 2 by omega, if_false, if_true, ByteArray.size_append, szl, List.size_toArray, List.length_cons, List.length_nil]; omega
  · have := e2 (by omega)
    simp only [show ¬ (4 : Int) = 1 by omega, show ¬ (4 : Int) = 2 by omega, show ¬ (4 : Int) = 3 by omega, if_false, ByteArray.size_append, szl, List.size_toArray, List.length_cons, List.length_nil]; omega
theorem rgt_parts {d : Int} {k : Int} {s : ByteArray} {a e lo hi : Ex} {b : List Sm} (h : rgt d (.mk k s a e lo hi b) = true) : hereS' k s a e lo hi = true ∧ (k = 3 → d ≠ 3 ∧ rgtL (d + 1) b = true) ∧ (k ≠ 3 → b = []) := by
  unfold rgt at h
  split at h
  · cases h
  rename_i h1
  simp only [Bool.not_eq_false] at h1
  refine ⟨h1, fun hk => ?_, fun hk => ?_⟩
  · rw [if_neg (by simp [flB, hk])] at h
    split at h
    · cases h
    · rename_i h2
      simp at h2
      exact ⟨h2.1, h⟩
  · rw [if_pos (by simp [flB, hk])] at h
    have := of_decide_eq_true h
    exact List.eq_nil_of_length_eq_zero (by omega)
theorem rgtL_mem {d : Int} : ∀ {l : List Sm}, rgtL d l = true → ∀ x ∈ l, rgt d x = true
  | [], _, x, hx => by simp at hx
  | z :: r, h, x, hx => by
    simp only [rgtL, Bool.and_eq_true] at h
    rcases List.mem_cons.1 hx with rfl | hx
    · exact h.1
    · exact rgtL_mem h.2 x hx
mutual
theorem txS_size : ∀ (x : Sm) (d : Int) (pad : ByteArray), 0 ≤ d → d ≤ 3 → rgt d x = true → (pad.size : Int) ≤ 2 * d → (txS pad x).size ≤ (1 + nodS x) * 10000
  | .mk k s a e lo hi b, d, pad, h0, h1, h, hp => by
    obtain ⟨h2, h3, h4⟩ := rgt_parts h
    have := line_size h2
    by_cases hk : k = 3
    · obtain ⟨h5, h6⟩ := h3 hk
      have hb := txL_size b (d + 1) (pad ++ ⟨#[32, 32]⟩) (by omega) (by omega) h6 (by simp only [ByteArray.size_append, szl, List.size_toArray, List.length_cons, List.length_nil]; omega)
      simp only [txS, nodS, if_pos hk, ByteArray.size_append, szl, List.size_toArray, List.length_cons, List.length_nil]
      omega
    · simp only [txS, nodS, if_neg hk, ByteArray.size_append]
      omega
theorem txL_size : ∀ (l : List Sm) (d : Int) (pad : ByteArray), 0 ≤ d → d ≤ 3 → rgtL d l = true → (pad.size : Int) ≤ 2 * d → (txL pad l).size ≤ nodL l * 10000
  | [], _, _, _, _, _, _ => by simp only [txL, nodL, szl]; simp
  | x :: r, d, pad, h0, h1, h, hp => by
    simp only [rgtL, Bool.and_eq_true] at h
    have q1 := txS_size x d pad h0 h1 h.1 hp
    have q2 := txL_size r d pad h0 h1 h.2 hp
    simp only [txL, nodL, ByteArray.size_append]
    omega
end
theorem nodL_tk (l : List Sm) (j : Nat) : nodL (l.take j) ≤ nodL l := by
  induction l generalizing j with
  | nil => simp
  | cons x r ih =>
    cases j with
    | zero => simp [nodL]
    | succ j => simp only [List.take_succ_cons, nodL]; have := ih j; omega
theorem rgtL_take {d : Int} (l : List Sm) (j : Nat) (h : rgtL d l = true) : rgtL d (l.take j) = true := by
  induction l generalizing j with
  | nil => simpa using h
  | cons x r ih =>
    simp only [rgtL, Bool.and_eq_true] at h
    cases j with
    | zero => simp [rgtL]
    | succ j => simp only [List.take_succ_cons, rgtL, Bool.and_eq_true]; exact ⟨h.1, ih j h.2⟩
theorem nodL_mem {l : List Sm} {x : Sm} (h : x ∈ l) : 1 + nodS x ≤ nodL l := by
  induction l with
  | nil => simp at h
  | cons z r ih =>
    simp only [nodL]
    rcases List.mem_cons.1 h with rfl | h
    · omega
    · have := ih h; omega
theorem okE_sz {x : Ex} (h : okE x = true) : okT x ∧ szT x ≤ 2760 := by
  unfold okE at h
  have h := of_decide_eq_true h
  obtain ⟨h1, h2⟩ := cnt_okT x 1 (by omega) h
  exact ⟨h1, by omega⟩
def bdy : Sm → List Sm | .mk _ _ _ _ _ _ b => b
theorem sm_mk (x : Sm) : ∃ k s a e lo hi b, x = .mk k s a e lo hi b ∧ encS x = .ag [.i .i64 k, .s s, encE a, encE e, encE lo, encE hi, .sl (encSs b)] ∧ bdy x = b := by
  obtain ⟨k, s, a, e, lo, hi, b⟩ := x
  exact ⟨k, s, a, e, lo, hi, b, rfl, by unfold encS; rfl, rfl⟩
theorem len_nodL : ∀ l : List Sm, l.length ≤ nodL l
  | [] => by simp
  | x :: r => by have := len_nodL r; simp only [nodL, List.length_cons]; omega
end Go.Proofs.YtmmdgciefehbcaaGreatDoor.Ax
