/- Contracts of functions that the claim reaches, over data without addresses, and what follows of them (text P10). No conditions beside those that each theorem names. -/
import Derived.Test.YtmclamindmnigaaP9
set_option linter.unusedVariables false
set_option linter.unusedSimpArgs false
namespace Go.Proofs.Ytmclamindmnigaa.Ax
theorem st_rgt (x : Sm) : ∀ d : Int, d ≤ 3 → (rgt d x = false → 40 < stS d x) ∧ (rgt d x = true → ((nodS x : Int) + 1 ≤ 40 → stS d x = nodS x + 1) ∧ (40 < (nodS x : Int) + 1 → 40 < stS d x)) := by
  refine Sm.ind (P := fun x => ∀ d : Int, d ≤ 3 → (rgt d x = false → 40 < stS d x) ∧ (rgt d x = true → ((nodS x : Int) + 1 ≤ 40 → stS d x = nodS x + 1) ∧ (40 < (nodS x : Int) + 1 → 40 < stS d x))) (fun k s a e lo hi b ih => ?_) x
  intro d hd
  have key : ∀ (l : List Sm), (∀ x ∈ l, ∀ d : Int, d ≤ 3 → (rgt d x = false → 40 < stS d x) ∧ (rgt d x = true → ((nodS x : Int) + 1 ≤ 40 → stS d x = nodS x + 1) ∧ (40 < (nodS x : Int) + 1 → 40 < stS d x))) → ∀ d n : Int, d ≤ 3 → 1 ≤ n → (rgtL d l = false → 40 < stSl d l n) ∧ (rgtL d l = true → (n + nodL l ≤ 40 → stSl d l n = n + nodL l) ∧ (40 < n + nodL l → 40 < stSl d l n)) := by
    intro l
    induction l with
    | nil => intro _ d n hd h1; simp [rgtL, stSl, nodL]
    | cons x r ihr =>
      intro hx d n hd h1
      have a := hx x List.mem_cons_self d hd
      have bd := stS_bd x d
      have ir := ihr (fun y hy => hx y (List.mem_cons_of_mem _ hy)) d
      unfold rgtL stSl nodL
      by_cases hn : n ≤ 40
      · rw [if_pos hn]
        cases hq : rgt d x with
        | false =>
          have := a.1 hq
          have hc : ¬ (n + stS d x ≤ 40) := by omega
          rw [stSl_gt _ _ _ hc]
          exact ⟨fun _ => by omega, fun h => by simp at h⟩
        | true =>
          have a2 := a.2 hq
          simp only [Bool.true_and]
          by_cases hs : (nodS x : Int) + 1 ≤ 40
          · have i1 := ir (n + stS d x) hd (by omega)
            have e1 := a2.1 hs
            refine ⟨i1.1, fun h => ⟨fun h2 => ?_, fun h2 => (i1.2 h).2 (by push_cast at h2; omega)⟩⟩
            have := (i1.2 h).1 (by push_cast at h2; omega)
            push_cast at h2 ⊢
            omega
          · have e1 := a2.2 (by omega)
            have hc : ¬ (n + stS d x ≤ 40) := by omega
            rw [stSl_gt _ _ _ hc]
            refine ⟨fun _ => by omega, fun h => ⟨fun h2 => ?_, fun h2 => by omega⟩⟩
            push_cast at h2
            omega
      · rw [if_neg hn]
        refine ⟨fun _ => by omega, fun h => ⟨fun h2 => ?_, fun h2 => by omega⟩⟩
        push_cast at h2
        omega
  unfold rgt stS nodS
  split
  · exact ⟨fun _ => by omega, fun h => by cases h⟩
  split
  · by_cases hb : b.length = 0
    · have : b = [] := List.length_eq_zero_iff.1 hb
      subst this
      simp [nodL]
    · rw [if_pos (by omega)]
      refine ⟨fun _ => by omega, fun h => ?_⟩
      simp at h
      exact absurd (by simp [h]) hb
  have hdd : decide (3 ≤ d) = decide (d = 3) := by
    rw [decide_eq_decide]; omega
  rw [hdd]
  split
  · exact ⟨fun _ => by omega, fun h => by cases h⟩
  · rename_i hne
    have h3 : ¬ d = 3 := by intro h; simp [h] at hne
    have := key b ih (d + 1) 1 (by omega) (by omega)
    refine ⟨this.1, fun h => ⟨fun h2 => ?_, fun h2 => (this.2 h).2 (by omega)⟩⟩
    have := (this.2 h).1 (by omega)
    omega
theorem okS_eq (x : Sm) : decide (stS 0 x ≤ 40) = okS x := by
  have h := st_rgt x 0 (by omega)
  unfold okS
  have e : (nodL [x] : Int) = nodS x + 1 := by simp only [nodL]; push_cast; omega
  rw [e]
  cases hq : rgt 0 x with
  | false =>
    have := h.1 hq
    simp only [Bool.false_and, decide_eq_false_iff_not]; omega
  | true =>
    have h2 := h.2 hq
    simp only [Bool.true_and, decide_eq_decide]
    by_cases hs : (nodS x : Int) + 1 ≤ 40
    · rw [h2.1 hs]
    · have := h2.2 (by omega)
      omega
theorem specStmtOk_c' (x : Sm) (hz : szS x ≤ 1048576) : AC Try.prog 13 [.d (encS x)] [] (isR (.d (.b (okS x)))) := okS_eq x ▸ specStmtOk_c x hz
end Go.Proofs.Ytmclamindmnigaa.Ax
