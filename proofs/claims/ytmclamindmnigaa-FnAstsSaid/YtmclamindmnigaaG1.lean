/- Contracts of functions that the claim reaches, over data without addresses, and what follows of them (text G1). No conditions beside those that each theorem names. -/
import Derived.Test.YtmclamindmnigaaAxT
set_option linter.unusedVariables false
set_option linter.unusedSimpArgs false
namespace Go.Proofs.Ytmclamindmnigaa.Ax
open Go.RowKit
inductive Ex where
  | mk (k n : Int) (s : ByteArray) (l : List Ex)
inductive Sm where
  | mk (k : Int) (s : ByteArray) (a e lo hi : Ex) (b : List Sm)
mutual
def encE : Ex → D
  | .mk k n s l => .ag [.i .i64 k, .i .i64 n, .s s, .sl (encEs l)]
def encEs : List Ex → List D
  | [] => []
  | x :: r => encE x :: encEs r
end
mutual
def encS : Sm → D
  | .mk k s a e lo hi b => .ag [.i .i64 k, .s s, encE a, encE e, encE lo, encE hi, .sl (encSs b)]
def encSs : List Sm → List D
  | [] => []
  | x :: r => encS x :: encSs r
end
theorem toListI (a b : ByteArray) : (a.toList = b.toList) ↔ a = b := by
  have := eqS a b
  rw [Bool.eq_iff_iff] at this
  simpa using this
theorem toListC (a : ByteArray) (l : List UInt8) : (a.toList = l) ↔ a = ⟨l.toArray⟩ := by
  rw [ByteArray.toList_eq]
  cases a with | mk d => 
  simp only [ByteArray.mk.injEq]
  exact ⟨fun h => by rw [← h], fun h => by rw [h]⟩
theorem dsub_ag {xs : List D} {n : Nat} (h : (D.ag xs).size = n) : (D.ag xs).sub 0 n true = some (.ag xs) := by rw [D.sub]; subst h; simp [D.size]
theorem size_encE (x : Ex) : (encE x).size = 4 := by cases x; rfl
theorem size_encS (x : Sm) : (encS x).size = 19 := by cases x; simp only [encS, D.size, sizes, size_encE]
theorem sub_encE (x : Ex) : (encE x).sub 0 4 true = some (encE x) := by cases x; rfl
theorem sub_encS (x : Sm) : (encS x).sub 0 19 true = some (encS x) := by have := size_encS x; cases x; unfold encS at *; exact dsub_ag this
mutual
theorem Ex.ind {P : Ex → Prop} (h : ∀ k n s l, (∀ x ∈ l, P x) → P (.mk k n s l)) : ∀ x, P x
  | .mk k n s l => h k n s l (Ex.inds h l)
theorem Ex.inds {P : Ex → Prop} (h : ∀ k n s l, (∀ x ∈ l, P x) → P (.mk k n s l)) : ∀ l : List Ex, ∀ x ∈ l, P x
  | [], x, hx => by simp at hx
  | y :: r, x, hx => by
    cases hx with
    | head => exact Ex.ind h y
    | tail _ hx => exact Ex.inds h r x hx
end
mutual
theorem Sm.ind {P : Sm → Prop} (h : ∀ k s a e lo hi b, (∀ x ∈ b, P x) → P (.mk k s a e lo hi b)) : ∀ x, P x
  | .mk k s a e lo hi b => h k s a e lo hi b (Sm.inds h b)
theorem Sm.inds {P : Sm → Prop} (h : ∀ k s a e lo hi b, (∀ x ∈ b, P x) → P (.mk k s a e lo hi b)) : ∀ l : List Sm, ∀ x ∈ l, P x
  | [], x, hx => by simp at hx
  | y :: r, x, hx => by
    cases hx with
    | head => exact Sm.ind h y
    | tail _ hx => exact Sm.inds h r x hx
end
mutual
def szE : Ex → Nat
  | .mk _ _ s l => s.size + (l.length + sumE l)
def sumE : List Ex → Nat
  | [] => 0
  | x :: r => szE x + sumE r
end
mutual
def szS : Sm → Nat
  | .mk _ s a e lo hi b => s.size + (szE a + (szE e + (szE lo + (szE hi + (b.length + sumS b)))))
def sumS : List Sm → Nat
  | [] => 0
  | x :: r => szS x + sumS r
end
mutual
def goodE : Ex → Prop
  | .mk _ _ s l => s.size ≤ 9223372036854775807 ∧ l.length ≤ 9223372036854775807 ∧ goodEs l
def goodEs : List Ex → Prop
  | [] => True
  | x :: r => goodE x ∧ goodEs r
end
mutual
def goodS : Sm → Prop
  | .mk _ s a e lo hi b => s.size ≤ 9223372036854775807 ∧ b.length ≤ 9223372036854775807 ∧ goodE a ∧ goodE e ∧ goodE lo ∧ goodE hi ∧ goodSs b
def goodSs : List Sm → Prop
  | [] => True
  | x :: r => goodS x ∧ goodSs r
end
theorem isR_i {k : IntKind} {a b : Int} (h : a = b) : isR (.d (.i k b)) (.d (.i k a)) [] := by subst h; exact ⟨rfl, rfl⟩
theorem isR_b' {a b : Bool} (h : b = a) : isR (.d (.b b)) (.d (.b a)) [] := by subst h; exact ⟨rfl, rfl⟩
theorem isR_b {a b : Bool} (h : a = b) : isR (.d (.b b)) (.d (.b a)) [] := by subst h; exact ⟨rfl, rfl⟩
theorem encEs_map : ∀ l, encEs l = l.map encE
  | [] => rfl
  | x :: r => by rw [encEs, encEs_map r]; rfl
theorem encEs_len (l : List Ex) : (encEs l).length = l.length := by rw [encEs_map]; simp
theorem encEs_get (l : List Ex) (i : Nat) (h : i < l.length) : (encEs l)[i]? = some (encE l[i]) := by rw [encEs_map]; simp [h]
theorem goodEs_mem : ∀ {l : List Ex}, goodEs l → ∀ x ∈ l, goodE x
  | [], _, x, h => by simp at h
  | y :: r, hg, x, h => by
    rcases List.mem_cons.1 h with rfl | h
    · exact hg.1
    · exact goodEs_mem hg.2 x h
theorem sumE_take (l : List Ex) (j : Nat) (h : j < l.length) : sumE (l.take (j + 1)) = sumE (l.take j) + szE l[j] := by
  induction l generalizing j with
  | nil => simp at h
  | cons x r ih =>
    cases j with
    | zero => simp [sumE]
    | succ j =>
      simp only [List.take_succ_cons, sumE, List.getElem_cons_succ]
      rw [ih j (by simpa using h)]
      omega
theorem sumE_pre (l : List Ex) (j : Nat) (h : j < l.length) : sumE (l.take j) + szE l[j] ≤ sumE l := by
  rw [← sumE_take l j h]
  generalize j + 1 = m
  clear h
  induction l generalizing m with
  | nil => simp
  | cons x r ih => cases m with
    | zero => simp [sumE]
    | succ m => simp only [List.take_succ_cons, sumE]; have := ih m; omega
theorem encSs_map : ∀ l, encSs l = l.map encS
  | [] => rfl
  | x :: r => by rw [encSs, encSs_map r]; rfl
theorem encSs_len (l : List Sm) : (encSs l).length = l.length := by rw [encSs_map]; simp
theorem encSs_get (l : List Sm) (i : Nat) (h : i < l.length) : (encSs l)[i]? = some (encS l[i]) := by rw [encSs_map]; simp [h]
theorem goodSs_mem : ∀ {l : List Sm}, goodSs l → ∀ x ∈ l, goodS x
  | [], _, x, h => by simp at h
  | y :: r, hg, x, h => by
    rcases List.mem_cons.1 h with rfl | h
    · exact hg.1
    · exact goodSs_mem hg.2 x h
theorem sumS_take (l : List Sm) (j : Nat) (h : j < l.length) : sumS (l.take (j + 1)) = sumS (l.take j) + szS l[j] := by
  induction l generalizing j with
  | nil => simp at h
  | cons x r ih =>
    cases j with
    | zero => simp [sumS]
    | succ j =>
      simp only [List.take_succ_cons, sumS, List.getElem_cons_succ]
      rw [ih j (by simpa using h)]
      omega
theorem sumS_pre (l : List Sm) (j : Nat) (h : j < l.length) : sumS (l.take j) + szS l[j] ≤ sumS l := by
  rw [← sumS_take l j h]
  generalize j + 1 = m
  clear h
  induction l generalizing m with
  | nil => simp
  | cons x r ih => cases m with
    | zero => simp [sumS]
    | succ m => simp only [List.take_succ_cons, sumS]; have := ih m; omega
theorem encE_isAg (a : Ex) : (encE a).isAg = true := by cases a; rfl
section
variable {k : Int} {s : ByteArray} {a e lo hi : Ex} {b : List D}
theorem sub_S2 : (D.ag [.i .i64 k, .s s, encE a, encE e, encE lo, encE hi, .sl b]).sub 2 4 true = some (encE a) := by simp [D.sub, atL, D.size, sizes, size_encE, sub_encE]
theorem sub_S3 : (D.ag [.i .i64 k, .s s, encE a, encE e, encE lo, encE hi, .sl b]).sub 6 4 true = some (encE e) := by simp [D.sub, atL, D.size, sizes, size_encE, sub_encE]
theorem sub_S4 : (D.ag [.i .i64 k, .s s, encE a, encE e, encE lo, encE hi, .sl b]).sub 10 4 true = some (encE lo) := by simp [D.sub, atL, D.size, sizes, size_encE, sub_encE]
theorem sub_S5 : (D.ag [.i .i64 k, .s s, encE a, encE e, encE lo, encE hi, .sl b]).sub 14 4 true = some (encE hi) := by simp [D.sub, atL, D.size, sizes, size_encE, sub_encE]
theorem sub_S6 : (D.ag [.i .i64 k, .s s, encE a, encE e, encE lo, encE hi, .sl b]).sub 18 1 false = some (.sl b) := by simp [D.sub, atL, D.size, sizes, size_encE, sub_encE]
end
theorem ldq_b {y : Ty} {L : List (Nat × Ob)} {F : List Ob} {tt : TypeId} {kk : Key} {off : Nat} {rr : Yr} {z x : D} (hk : obq L F kk = some (.var (.d z))) (hr : y.Y tt = some rr) (hs : z.sub off rr.sz rr.ky.agg = some x) : ldq y L F tt (.pt kk off) = some (.d x) := by
  simp only [ldq, hk, hr, hs]
abbrev ZE : D := .ag [.i .i64 0, .i .i64 0, .s ⟨#[]⟩, .sl []]
abbrev ZS : D := .ag [.i .i64 0, .s ⟨#[]⟩, ZE, ZE, ZE, ZE, .sl []]
abbrev ZA : D := .ag [.s ⟨#[]⟩, .i .i64 0]
section
variable {k : Int} {s : ByteArray} {a e lo hi : Ex} {b : List D}
theorem set_S2 : (D.ag [.i .i64 k, .s s, ZE, ZE, ZE, ZE, .sl b]).set 2 (encE a) = some (.ag [.i .i64 k, .s s, encE a, ZE, ZE, ZE, .sl b]) := by simp [D.set, setL, D.size, sizes, size_encE, encE_isAg]
theorem set_S3 : (D.ag [.i .i64 k, .s s, encE a, ZE, ZE, ZE, .sl b]).set 6 (encE e) = some (.ag [.i .i64 k, .s s, encE a, encE e, ZE, ZE, .sl b]) := by simp [D.set, setL, D.size, sizes, size_encE, encE_isAg]
theorem set_S4 : (D.ag [.i .i64 k, .s s, encE a, encE e, ZE, ZE, .sl b]).set 10 (encE lo) = some (.ag [.i .i64 k, .s s, encE a, encE e, encE lo, ZE, .sl b]) := by simp [D.set, setL, D.size, sizes, size_encE, encE_isAg]
theorem set_S5 : (D.ag [.i .i64 k, .s s, encE a, encE e, encE lo, ZE, .sl b]).set 14 (encE hi) = some (.ag [.i .i64 k, .s s, encE a, encE e, encE lo, encE hi, .sl b]) := by simp [D.set, setL, D.size, sizes, size_encE, encE_isAg]
theorem set_S6 {c : List D} : (D.ag [.i .i64 k, .s s, encE a, encE e, encE lo, encE hi, .sl b]).set 18 (.sl c) = some (.ag [.i .i64 k, .s s, encE a, encE e, encE lo, encE hi, .sl c]) := by simp [D.set, setL, D.size, sizes, size_encE, D.isAg]
theorem set_Sw : ZS.set 0 (.ag [.i .i64 k, .s s, encE a, encE e, encE lo, encE hi, .sl b]) = some (.ag [.i .i64 k, .s s, encE a, encE e, encE lo, encE hi, .sl b]) := by simp [D.set, D.isAg, D.size, sizes, size_encE]
theorem sub_Sw : (D.ag [.i .i64 k, .s s, encE a, encE e, encE lo, encE hi, .sl b]).sub 0 19 true = some (.ag [.i .i64 k, .s s, encE a, encE e, encE lo, encE hi, .sl b]) := dsub_ag (by simp [D.size, sizes, size_encE])
theorem size_Sw : (D.ag [.i .i64 k, .s s, encE a, encE e, encE lo, encE hi, .sl b]).size = 19 := by simp [D.size, sizes, size_encE]
end
theorem sumE_mem (l : List Ex) (x : Ex) (h : x ∈ l) : szE x ≤ sumE l := by
  induction l with
  | nil => simp at h
  | cons y r ih => simp only [sumE]; rcases List.mem_cons.1 h with rfl | h; omega; have := ih h; omega
theorem sumS_mem (l : List Sm) (x : Sm) (h : x ∈ l) : szS x ≤ sumS l := by
  induction l with
  | nil => simp at h
  | cons y r ih => simp only [sumS]; rcases List.mem_cons.1 h with rfl | h; omega; have := ih h; omega
end Go.Proofs.Ytmclamindmnigaa.Ax
