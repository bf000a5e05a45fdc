/- Plain lemmas on rounds, loops, numbers and texts that all the pure proofs use. No conditions. -/
import Derived.Test.YtmmdgciefehbcaaDoorWMore
import Derived.Test.YtmmdgciefehbcaaDoorWWords
import Derived.Lib.Strings
namespace Go.Proofs.YtmmdgciefehbcaaDoor.Lem
open Go.RowKit Go.Proofs.YtmmdgciefehbcaaDoorW.PrintWords Go.Proofs.YtmmdgciefehbcaaDoorW.PrintLast Go.Proofs.YtmmdgciefehbcaaDoorW.PrintMore

theorem w64 {x : Int} (h1 : -9223372036854775808 ≤ x) (h2 : x < 9223372036854775808) : wrap64 x = x := by
  unfold wrap64
  omega
theorem wi {i n : Nat} (h : i < n) (hn : n ≤ maxLen) : wrap64 ((i : Int) + 1) = ((i + 1 : Nat) : Int) := by
  unfold maxLen at hn
  rw [w64 (by omega) (by omega)]
  omega
theorem wfI {a : Int} (h : (Lit.int .i64 a).wf = true) : -9223372036854775808 ≤ a ∧ a < 9223372036854775808 := by
  simp [Lit.wf, IntKind.min, IntKind.max, IntKind.bits, IntKind.signed] at h
  omega
theorem wrap64_range (x : Int) : -9223372036854775808 ≤ wrap64 x ∧ wrap64 x < 9223372036854775808 := by
  unfold wrap64
  omega
theorem bits_and32 (a : Int) : Go.bits .and .i64 a 4294967295 = a % 4294967296 := by
  have h : (4294967295 : Int) = ((2 ^ 32 - 1 : Nat) : Int) := by decide
  unfold Go.bits
  simp only [Go.IntKind.wrap_i64]
  rw [h]
  simp only [BitVec.toNat_and, BitVec.ofInt_natCast, BitVec.toNat_ofInt, BitVec.toNat_ofNat]
  have e : (2 ^ 32 - 1) % 2 ^ Go.IntKind.bits .i64 = 2 ^ 32 - 1 := by decide
  rw [e, Nat.and_two_pow_sub_one_eq_mod]
  have e2 : Go.IntKind.bits .i64 = 64 := rfl
  rw [e2]
  omega

/-- What a loop over 0 .. n-1 does: each round goes on with a state or ends with an answer. -/
def runL {σ β : Type} (step : Nat → σ → Sum β σ) (fin : σ → β) : Nat → Nat → σ → β
  | 0, _, s => fin s
  | d + 1, i, s => match step i s with
    | .inl b => b
    | .inr s' => runL step fin d (i + 1) s'

theorem Ev.run {σ β : Type} {g : Nat → Int → σ → Option β} {n : Nat} (step : Nat → σ → Sum β σ) (fin : σ → β)
    (h : ∀ i s, i < n → match step i s with
      | .inl b => Ev (fun k => g k (i : Int) s) b
      | .inr s' => ∀ r, Ev (fun k => g k ((i + 1 : Nat) : Int) s') r → Ev (fun k => g k (i : Int) s) r)
    (h0 : ∀ s, Ev (fun k => g k (n : Int) s) (fin s)) : ∀ s, Ev (fun k => g k 0 s) (runL step fin n 0 s) := by
  have key : ∀ d i s, i + d = n → Ev (fun k => g k (i : Int) s) (runL step fin d i s) := by
    intro d
    induction d with
    | zero =>
      intro i s hi
      have : i = n := by omega
      subst this
      exact h0 s
    | succ d ih =>
      intro i s hi
      have hs := h i s (by omega)
      unfold runL
      split
      · rename_i b e
        rw [e] at hs
        exact hs
      · rename_i s' e
        rw [e] at hs
        exact hs _ (ih (i + 1) s' (by omega))
  exact fun s => key n 0 s (by omega)

/-- A loop that goes on while p holds and answers false at the first place where it does not. -/
theorem Ev.all {g : Nat → Int → Option Bool} {n : Nat} (p : Nat → Bool) (h1 : ∀ i, i < n → p i = true → ∀ r, Ev (fun k => g k ((i + 1 : Nat) : Int)) r → Ev (fun k => g k (i : Int)) r)
    (h2 : ∀ i, i < n → p i = false → Ev (fun k => g k (i : Int)) false) (h0 : Ev (fun k => g k (n : Int)) true) : Ev (fun k => g k 0) ((List.range n).all p) := by
  have key : ∀ d i, i + d = n → Ev (fun k => g k (i : Int)) ((List.range' i d).all p) := by
    intro d
    induction d with
    | zero =>
      intro i hi
      obtain rfl : i = n := by omega
      simpa using h0
    | succ d ih =>
      intro i hi
      rw [List.range'_succ, List.all_cons]
      cases e : p i with
      | false => exact h2 i (by omega) e
      | true => exact h1 i (by omega) e _ (ih (i + 1) (by omega))
  have := key n 0 (by omega)
  rw [← List.range_eq_range'] at this
  exact this

theorem Ev.allT {g : Nat → Int → Option Bool} {n : Nat} (h1 : ∀ i, i < n → ∀ r, Ev (fun k => g k ((i + 1 : Nat) : Int)) r → Ev (fun k => g k (i : Int)) r) (h0 : Ev (fun k => g k (n : Int)) true) : Ev (fun k => g k 0) true := by
  have h := Ev.all (fun _ => true) (fun i hi _ => h1 i hi) (fun i hi h => by cases h) h0
  have e : (List.range n).all (fun _ => true) = true := List.all_eq_true.2 fun _ _ => rfl
  rw [e] at h
  exact h
/-- A loop that fills a list that was made, place by place. -/
theorem Ev.fill {α : Type} {g : Nat → List α → Int → Option (List α)} {n : Nat} (v : List α) (hv : v.length = n) (z : α)
    (h1 : ∀ i xs, i < n → xs.length = n → ∀ r, Ev (fun k => g k (xs.set i (v.getD i z)) ((i + 1 : Nat) : Int)) r → Ev (fun k => g k xs (i : Int)) r)
    (h0 : ∀ xs, xs.length = n → Ev (fun k => g k xs (n : Int)) xs) : Ev (fun k => g k (List.replicate n z) 0) v := by
  have key : ∀ d i, i + d = n → Ev (fun k => g k (v.take i ++ List.replicate d z) (i : Int)) v := by
    intro d
    induction d with
    | zero =>
      intro i hi
      obtain rfl : i = n := by omega
      have := h0 (v.take i ++ List.replicate 0 z) (by rw [List.length_append, List.length_take, List.length_replicate]; omega)
      have e : v.take i ++ List.replicate 0 z = v := by
        rw [List.take_of_length_le (by omega)]
        simp
      rw [e] at this ⊢
      exact this
    | succ d ih =>
      intro i hi
      refine h1 i _ (by omega) (by rw [List.length_append, List.length_take, List.length_replicate]; omega) _ ?_
      have e : (v.take i ++ List.replicate (d + 1) z).set i (v.getD i z) = v.take (i + 1) ++ List.replicate d z := by
        have hi' : i < v.length := by omega
        rw [List.set_append_right _ _ (by rw [List.length_take]; omega)]
        have e0 : i - (v.take i).length = 0 := by rw [List.length_take]; omega
        have e1 : v.getD i z = v[i] := by simp [List.getElem?_eq_getElem hi']
        rw [e0, List.replicate_succ, List.set_cons_zero, List.take_add_one, List.getElem?_eq_getElem hi', e1, Option.toList_some, List.append_assoc, List.singleton_append]
      rw [e]
      exact ih (i + 1) (by omega)
  have := key n 0 (by omega)
  simpa using this

theorem toList_data (s : ByteArray) : s.toList = s.data.toList := ByteArray.toList_eq s
theorem if_or {c : Prop} [Decidable c] (b : Bool) : (if c then some true else some b) = some (decide c || b) := by
  by_cases h : c <;> simp [h]
theorem if_and {c : Prop} [Decidable c] (b : Bool) : (if c then some b else some false) = some (decide c && b) := by
  by_cases h : c <;> simp [h]
theorem if_tf {c : Prop} [Decidable c] : (if c then some true else some false) = some (decide c) := by
  by_cases h : c <;> simp [h]
theorem Ev.uniq {α : Type} {g : Nat → Option α} {r q : α} (h : Ev g r) (h' : Ev g q) : r = q := by
  obtain ⟨K, h⟩ := h
  obtain ⟨K', h'⟩ := h'
  have := (h (max K K') (by omega)).symm.trans (h' (max K K') (by omega))
  exact Option.some.inj this
/-- After a call whose answer is known. -/
theorem Ev.then {α β : Type} {g : Nat → Option α} {f : Nat → α → Option β} {a : α} (h : Ev g a) {r : β} (k : Ev (fun n => f n a) r) : Ev (fun n => (g n).bind (f n)) r := Ev.bind h k
theorem Ev.const {α : Type} {g : Nat → Option α} {r : α} (h : ∀ k, g k = some r) : Ev g r := ⟨0, fun k _ => h k⟩

theorem drop_cons {α : Type} (xs : List α) (z : α) {i : Nat} (h : i < xs.length) : xs.drop i = xs.getD i z :: xs.drop (i + 1) := by
  rw [List.drop_eq_getElem_cons h]
  simp [List.getElem?_eq_getElem h]
theorem getD_mem {α : Type} (xs : List α) (z : α) {i : Nat} (h : i < xs.length) : xs.getD i z ∈ xs := by
  simp only [List.getD_eq_getElem?_getD, List.getElem?_eq_getElem h, Option.getD_some]
  exact List.getElem_mem h

/-! ### texts -/
def keptL : List (List UInt8) := [[97, 114, 114, 97, 121], [102, 111, 114], [116, 111], [112, 114, 105, 110, 116], [109, 105, 110], [109, 97, 120]]
def keptS (s : ByteArray) : Bool := keptL.any fun x => x == s.toList
def letS (s : ByteArray) (i : Nat) : Bool := decide (97 ≤ bt s (i : Int)) && decide (bt s (i : Int) ≤ 122)
def nameS (s : ByteArray) : Bool := runL (fun i (_ : Unit) => if letS s i then .inr () else .inl false) (fun _ => decide (1 ≤ s.size) && decide (s.size ≤ 6) && !keptS s) s.size 0 ()
def coefOk (n : Int) : Bool := decide (-100000 ≤ n) && decide (n ≤ 100000)

/-! ### sums: of any kind of terms, by name and number -/
section
variable {α β : Type} (nm : α → ByteArray) (vl : α → Int) (bn : β → ByteArray) (bv : β → Int)
def coefL : List α → ByteArray → Int
  | [], _ => 0
  | x :: xs, s => if (nm x).toList = s.toList then vl x else coefL xs s
def lessO : Option ByteArray → ByteArray → Bool
  | none, _ => true
  | some q, s => Op.bytesLess q.toList s.toList
def affOkL : Option ByteArray → List α → Bool
  | _, [] => true
  | p, x :: xs => nameS (nm x) && !decide (vl x = 0) && coefOk (vl x) && lessO p (nm x) && affOkL (some (nm x)) xs
def affOkS (c : Int) (xs : List α) : Bool := affOkL nm vl none xs && coefOk c
/-- What the last of a name has; 0 where there is none (from the end). -/
def lastR : List β → ByteArray → Int
  | [], _ => 0
  | x :: xs, s => if (bn x).toList = s.toList then bv x else lastR xs s
def boundS (bs : List β) (s : ByteArray) : Int := lastR bn bv bs.reverse s
def affAtL (bs : List β) : List α → Int → Int
  | [], s => s
  | x :: xs, s => affAtL bs xs (wrap64 (s + wrap64 (vl x * boundS bn bv bs (nm x))))
end

/-! ### boxes: of any kind of ranges, by name, from, to -/
section
variable {α : Type} (nm : α → ByteArray) (lo hi : α → Int)
/-- The place of the first of a name, from the place i on; -1. -/
def idxL : Nat → List α → ByteArray → Int
  | _, [], _ => -1
  | i, x :: xs, s => if (nm x).toList = s.toList then (i : Int) else idxL (i + 1) xs s
def bndOk (n : Int) : Bool := decide (-10000 ≤ n) && decide (n ≤ 10000)
def boxOkL (all : List α) : Nat → List α → Bool
  | _, [] => decide (all.length ≤ 8)
  | i, x :: xs => nameS (nm x) && bndOk (lo x) && bndOk (hi x) && decide (idxL nm 0 all (nm x) = (i : Int)) && boxOkL all (i + 1) xs
def boxOkS (l : List α) : Bool := boxOkL nm lo hi l 0 l
end

section
variable {α β : Type} (nm : α → ByteArray) (vl : α → Int) (bn : β → ByteArray) (lo hi : β → Int)
def fullS (l : List β) : Bool := (l.all fun r => decide (lo r ≤ hi r)) && boxOkS bn lo hi l
def findR : List β → ByteArray → Option β
  | [], _ => none
  | x :: xs, s => if (bn x).toList = s.toList then some x else findR xs s
theorem idx_find (z : β) : ∀ (l : List β) (i : Nat) (s : ByteArray), (idxL bn i l s = -1 ∧ findR bn l s = none) ∨ ∃ j, j < l.length ∧ idxL bn i l s = ((i + j : Nat) : Int) ∧ findR bn l s = some (l.getD j z)
  | [], _, _ => .inl ⟨rfl, rfl⟩
  | x :: xs, i, s => by
    unfold idxL findR
    by_cases e : (bn x).toList = s.toList
    · rw [if_pos e, if_pos e]
      exact .inr ⟨0, by simp, rfl, rfl⟩
    · rw [if_neg e, if_neg e]
      rcases idx_find z xs (i + 1) s with h | ⟨j, h1, h2, h3⟩
      · exact .inl h
      · refine .inr ⟨j + 1, by simpa using h1, ?_, by simpa using h3⟩
        rw [h2]
        congr 1
        omega
theorem findR_mem {l : List β} {s : ByteArray} {r : β} (h : findR bn l s = some r) : r ∈ l ∧ (bn r).toList = s.toList := by
  induction l with
  | nil => simp [findR] at h
  | cons x xs ih =>
    unfold findR at h
    by_cases e : (bn x).toList = s.toList
    · rw [if_pos e] at h
      obtain rfl := Option.some.inj h
      exact ⟨List.mem_cons_self, e⟩
    · rw [if_neg e] at h
      exact ⟨List.mem_cons_of_mem _ (ih h).1, (ih h).2⟩
def endL (sel : α → β → Int) (box : List β) : List α → Int → Option Int
  | [], n => some n
  | x :: xs, n => match findR bn box (nm x) with
    | none => none
    | some r => endL sel box xs (wrap64 (n + sel x r))
def lowT (x : α) (r : β) : Int := mn (wrap64 (vl x * lo r)) (wrap64 (vl x * hi r))
def highT (x : α) (r : β) : Int := mx (wrap64 (vl x * lo r)) (wrap64 (vl x * hi r))
def pairO : Option Int → Option Int → Option (Int × Int)
  | some a, some b => some (a, b)
  | _, _ => none
def extS (c : Int) (l : List α) (box : List β) : Option (Int × Int) :=
  if (affOkS nm vl c l && fullS bn lo hi box) = true then pairO (endL nm bn (lowT vl lo hi) box l c) (endL nm bn (highT vl lo hi) box l c) else none
def ext3 : Option (Int × Int) → Int × Int × Bool
  | some (a, b) => (a, b, true)
  | none => (0, 0, false)
def extA : Option (Int × Int) → Int × Bool
  | some (a, _) => (a, true)
  | none => (0, false)
def extB : Option (Int × Int) → Int × Bool
  | some (_, b) => (b, true)
  | none => (0, false)
theorem boxOkL_mem (all : List β) : ∀ (l : List β) (i : Nat), boxOkL bn lo hi all i l = true → (∀ r ∈ l, nameS (bn r) = true ∧ bndOk (lo r) = true ∧ bndOk (hi r) = true) ∧ all.length ≤ 8
  | [], _, h => ⟨by simp, by simpa [boxOkL] using h⟩
  | x :: xs, i, h => by
    simp only [boxOkL, Bool.and_eq_true] at h
    obtain ⟨⟨⟨⟨h1, h2⟩, h3⟩, h4⟩, h5⟩ := h
    have := boxOkL_mem all xs (i + 1) h5
    refine ⟨fun r hr => ?_, this.2⟩
    rcases List.mem_cons.1 hr with rfl | hr
    · exact ⟨h1, h2, h3⟩
    · exact this.1 r hr
theorem fullS_mem {l : List β} (h : fullS bn lo hi l = true) : (∀ r ∈ l, lo r ≤ hi r ∧ -10000 ≤ lo r ∧ lo r ≤ 10000 ∧ -10000 ≤ hi r ∧ hi r ≤ 10000) ∧ l.length ≤ 8 := by
  simp only [fullS, Bool.and_eq_true, List.all_eq_true, decide_eq_true_eq] at h
  have := boxOkL_mem bn lo hi l l 0 h.2
  refine ⟨fun r hr => ?_, this.2⟩
  have h2 := this.1 r hr
  simp only [bndOk, Bool.and_eq_true, decide_eq_true_eq] at h2
  exact ⟨h.1 r hr, h2.2.1.1, h2.2.1.2, h2.2.2.1, h2.2.2.2⟩
theorem affOkL_mem : ∀ (l : List α) (p : Option ByteArray), affOkL nm vl p l = true → ∀ x ∈ l, nameS (nm x) = true ∧ vl x ≠ 0 ∧ -100000 ≤ vl x ∧ vl x ≤ 100000
  | [], _, _ => by simp
  | x :: xs, p, h => by
    simp only [affOkL, Bool.and_eq_true] at h
    obtain ⟨⟨⟨⟨h1, h2⟩, h3⟩, h4⟩, h5⟩ := h
    intro y hy
    rcases List.mem_cons.1 hy with rfl | hy
    · simp only [coefOk, Bool.and_eq_true, decide_eq_true_eq] at h3
      exact ⟨h1, by simpa using h2, h3.1, h3.2⟩
    · exact affOkL_mem xs _ h5 y hy
theorem coefProd {a b : Int} (h1 : -100000 ≤ a) (h2 : a ≤ 100000) (h3 : -10000 ≤ b) (h4 : b ≤ 10000) : -1000000000 ≤ a * b ∧ a * b ≤ 1000000000 := by
  have e1 : 0 ≤ (100000 - a) * (10000 - b) := Int.mul_nonneg (by omega) (by omega)
  have e2 : 0 ≤ (100000 + a) * (10000 + b) := Int.mul_nonneg (by omega) (by omega)
  have e3 : 0 ≤ (100000 - a) * (10000 + b) := Int.mul_nonneg (by omega) (by omega)
  have e4 : 0 ≤ (100000 + a) * (10000 - b) := Int.mul_nonneg (by omega) (by omega)
  simp only [Int.sub_mul, Int.add_mul, Int.mul_sub, Int.mul_add] at e1 e2 e3 e4
  omega
theorem lowT_eq {x : α} {r : β} (h1 : -100000 ≤ vl x) (h2 : vl x ≤ 100000) (h3 : lo r ≤ hi r) (h4 : -10000 ≤ lo r) (h5 : hi r ≤ 10000) : lowT vl lo hi x r = vl x * (if vl x > 0 then lo r else hi r) := by
  have p1 := coefProd h1 h2 h4 (show lo r ≤ 10000 by omega)
  have p2 := coefProd h1 h2 (show -10000 ≤ hi r by omega) h5
  unfold lowT mn
  rw [w64 (by omega) (by omega), w64 (by omega) (by omega)]
  by_cases hp : vl x > 0
  · have : vl x * lo r ≤ vl x * hi r := Int.mul_le_mul_of_nonneg_left h3 (by omega)
    rw [if_pos hp, if_neg (by omega)]
  · have : vl x * hi r ≤ vl x * lo r := Int.mul_le_mul_of_nonpos_left (by omega) h3
    rw [if_neg hp]
    split <;> omega
theorem highT_eq {x : α} {r : β} (h1 : -100000 ≤ vl x) (h2 : vl x ≤ 100000) (h3 : lo r ≤ hi r) (h4 : -10000 ≤ lo r) (h5 : hi r ≤ 10000) : highT vl lo hi x r = vl x * (if vl x > 0 then hi r else lo r) := by
  have p1 := coefProd h1 h2 h4 (show lo r ≤ 10000 by omega)
  have p2 := coefProd h1 h2 (show -10000 ≤ hi r by omega) h5
  unfold highT mx
  rw [w64 (by omega) (by omega), w64 (by omega) (by omega)]
  by_cases hp : vl x > 0
  · have : vl x * lo r ≤ vl x * hi r := Int.mul_le_mul_of_nonneg_left h3 (by omega)
    rw [if_pos hp]
    split <;> omega
  · have : vl x * hi r ≤ vl x * lo r := Int.mul_le_mul_of_nonpos_left (by omega) h3
    rw [if_neg hp, if_neg (by omega)]
/-- How many rounds, at most 1000000. -/
def rndL : List β → Int → Int
  | [], n => n
  | r :: rs, n => rndL rs (mn (n * (hi r - lo r + 1)) 1000000)
def rndS (l : List β) : Int := if fullS bn lo hi l = true then rndL lo hi l 1 else 0
theorem rndL_top : ∀ (l : List β), (∀ r ∈ l, lo r ≤ hi r) → rndL lo hi l 1000000 = 1000000
  | [], _ => rfl
  | r :: rs, h => by
    unfold rndL
    have h1 := h r List.mem_cons_self
    have : mn (1000000 * (hi r - lo r + 1)) 1000000 = 1000000 := by
      unfold mn
      split <;> omega
    rw [this]
    exact rndL_top rs (fun x hx => h x (List.mem_cons_of_mem _ hx))
end
end Go.Proofs.YtmmdgciefehbcaaDoor.Lem
