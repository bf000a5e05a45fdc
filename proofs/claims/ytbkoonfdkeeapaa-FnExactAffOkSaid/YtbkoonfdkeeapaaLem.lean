/- Plain lemmas on rounds, loops, numbers and texts that all the pure proofs use. No conditions. -/
import Derived.Test.YtbkoonfdkeeapaaWMore
import Derived.Test.YtbkoonfdkeeapaaWWords
import Derived.Lib.Strings
namespace Go.Proofs.Ytbkoonfdkeeapaa.Lem
open Go.RowKit Go.Proofs.YtbkoonfdkeeapaaW.PrintWords Go.Proofs.YtbkoonfdkeeapaaW.PrintLast Go.Proofs.YtbkoonfdkeeapaaW.PrintMore

theorem w64 {x : Int} (h1 : -9223372036854775808 ≤ x) (h2 : x < 9223372036854775808) : wrap64 x = x := by
  unfold wrap64
  omega
theorem wi {i n : Nat} (h : i < n) (hn : n ≤ maxLen) : wrap64 ((i : Int) + 1) = ((i + 1 : Nat) : Int) := by
  unfold maxLen at hn
  rw [w64 (by omega) (by omega)]
  omega
theorem wfI {a : Int} (h : (Lit.int .i64 a).wf = true) : -9223372036854775808 ≤ a ∧ a < 9223372036854775808 := by
  simp [Lit.wf, IntKind.min, IntKind.max, IntKind.bits, IntKind.signed] at h
  omega
theorem wrap64_range (x : Int) : -9223372036854775808 ≤ wrap64 x ∧ wrap64 x < 9223372036854775808 := by
  unfold wrap64
  omega
theorem bits_and32 (a : Int) : Go.bits .and .i64 a 4294967295 = a % 4294967296 := by
  have h : (4294967295 : Int) = ((2 ^ 32 - 1 : Nat) : Int) := by decide
  unfold Go.bits
  simp only [Go.IntKind.wrap_i64]
  rw [h]
  simp only [BitVec.toNat_and, BitVec.ofInt_natCast, BitVec.toNat_ofInt, BitVec.toNat_ofNat]
  have e : (2 ^ 32 - 1) % 2 ^ Go.IntKind.bits .i64 = 2 ^ 32 - 1 := by decide
  rw [e, Nat.and_two_pow_sub_one_eq_mod]
  have e2 : Go.IntKind.bits .i64 = 64 := rfl
  rw [e2]
  omega

/-- What a loop over 0 .. n-1 does: each round goes on with a state or ends with an answer. -/
def runL {σ β : Type} (step : Nat → σ → Sum β σ) (fin : σ → β) : Nat → Nat → σ → β
  | 0, _, s => fin s
  | d + 1, i, s => match step i s with
    | .inl b => b
    | .inr s' => runL step fin d (i + 1) s'

theorem Ev.run {σ β : Type} {g : Nat → Int → σ → Option β} {n : Nat} (step : Nat → σ → Sum β σ) (fin : σ → β)
    (h : ∀ i s, i < n → match step i s with
      | .inl b => Ev (fun k => g k (i : Int) s) b
      | .inr s' => ∀ r, Ev (fun k => g k ((i + 1 : Nat) : Int) s') r → Ev (fun k => g k (i : Int) s) r)
    (h0 : ∀ s, Ev (fun k => g k (n : Int) s) (fin s)) : ∀ s, Ev (fun k => g k 0 s) (runL step fin n 0 s) := by
  have key : ∀ d i s, i + d = n → Ev (fun k => g k (i : Int) s) (runL step fin d i s) := by
    intro d
    induction d with
    | zero =>
      intro i s hi
      have : i = n := by omega
      subst this
      exact h0 s
    | succ d ih =>
      intro i s hi
      have hs := h i s (by omega)
      unfold runL
      split
      · rename_i b e
        rw [e] at hs
        exact hs
      · rename_i s' e
        rw [e] at hs
        exact hs _ (ih (i + 1) s' (by omega))
  exact fun s => key n 0 s (by omega)

theorem toList_data (s : ByteArray) : s.toList = s.data.toList := ByteArray.toList_eq s
theorem if_or {c : Prop} [Decidable c] (b : Bool) : (if c then some true else some b) = some (decide c || b) := by
  by_cases h : c <;> simp [h]
theorem if_and {c : Prop} [Decidable c] (b : Bool) : (if c then some b else some false) = some (decide c && b) := by
  by_cases h : c <;> simp [h]
theorem if_tf {c : Prop} [Decidable c] : (if c then some true else some false) = some (decide c) := by
  by_cases h : c <;> simp [h]
theorem Ev.uniq {α : Type} {g : Nat → Option α} {r q : α} (h : Ev g r) (h' : Ev g q) : r = q := by
  obtain ⟨K, h⟩ := h
  obtain ⟨K', h'⟩ := h'
  have := (h (max K K') (by omega)).symm.trans (h' (max K K') (by omega))
  exact Option.some.inj this
/-- After a call whose answer is known. -/
theorem Ev.then {α β : Type} {g : Nat → Option α} {f : Nat → α → Option β} {a : α} (h : Ev g a) {r : β} (k : Ev (fun n => f n a) r) : Ev (fun n => (g n).bind (f n)) r := Ev.bind h k
theorem Ev.const {α : Type} {g : Nat → Option α} {r : α} (h : ∀ k, g k = some r) : Ev g r := ⟨0, fun k _ => h k⟩

theorem drop_cons {α : Type} (xs : List α) (z : α) {i : Nat} (h : i < xs.length) : xs.drop i = xs.getD i z :: xs.drop (i + 1) := by
  rw [List.drop_eq_getElem_cons h]
  simp [List.getElem?_eq_getElem h]
theorem getD_mem {α : Type} (xs : List α) (z : α) {i : Nat} (h : i < xs.length) : xs.getD i z ∈ xs := by
  simp only [List.getD_eq_getElem?_getD, List.getElem?_eq_getElem h, Option.getD_some]
  exact List.getElem_mem h

/-! ### texts -/
def keptL : List (List UInt8) := [[97, 114, 114, 97, 121], [102, 111, 114], [116, 111], [112, 114, 105, 110, 116], [109, 105, 110], [109, 97, 120]]
def keptS (s : ByteArray) : Bool := keptL.any fun x => x == s.toList
def letS (s : ByteArray) (i : Nat) : Bool := decide (97 ≤ bt s (i : Int)) && decide (bt s (i : Int) ≤ 122)
def nameS (s : ByteArray) : Bool := runL (fun i (_ : Unit) => if letS s i then .inr () else .inl false) (fun _ => decide (1 ≤ s.size) && decide (s.size ≤ 6) && !keptS s) s.size 0 ()
def coefOk (n : Int) : Bool := decide (-100000 ≤ n) && decide (n ≤ 100000)

/-! ### sums: of any kind of terms, by name and number -/
section
variable {α β : Type} (nm : α → ByteArray) (vl : α → Int) (bn : β → ByteArray) (bv : β → Int)
def coefL : List α → ByteArray → Int
  | [], _ => 0
  | x :: xs, s => if (nm x).toList = s.toList then vl x else coefL xs s
def lessO : Option ByteArray → ByteArray → Bool
  | none, _ => true
  | some q, s => Op.bytesLess q.toList s.toList
def affOkL : Option ByteArray → List α → Bool
  | _, [] => true
  | p, x :: xs => nameS (nm x) && !decide (vl x = 0) && coefOk (vl x) && lessO p (nm x) && affOkL (some (nm x)) xs
def affOkS (c : Int) (xs : List α) : Bool := affOkL nm vl none xs && coefOk c
/-- What the last of a name has; 0 where there is none (from the end). -/
def lastR : List β → ByteArray → Int
  | [], _ => 0
  | x :: xs, s => if (bn x).toList = s.toList then bv x else lastR xs s
def boundS (bs : List β) (s : ByteArray) : Int := lastR bn bv bs.reverse s
def affAtL (bs : List β) : List α → Int → Int
  | [], s => s
  | x :: xs, s => affAtL bs xs (wrap64 (s + wrap64 (vl x * boundS bn bv bs (nm x))))
end

/-! ### boxes: of any kind of ranges, by name, from, to -/
section
variable {α : Type} (nm : α → ByteArray) (lo hi : α → Int)
/-- The place of the first of a name, from the place i on; -1. -/
def idxL : Nat → List α → ByteArray → Int
  | _, [], _ => -1
  | i, x :: xs, s => if (nm x).toList = s.toList then (i : Int) else idxL (i + 1) xs s
def bndOk (n : Int) : Bool := decide (-10000 ≤ n) && decide (n ≤ 10000)
def boxOkL (all : List α) : Nat → List α → Bool
  | _, [] => decide (all.length ≤ 8)
  | i, x :: xs => nameS (nm x) && bndOk (lo x) && bndOk (hi x) && decide (idxL nm 0 all (nm x) = (i : Int)) && boxOkL all (i + 1) xs
def boxOkS (l : List α) : Bool := boxOkL nm lo hi l 0 l
end
end Go.Proofs.Ytbkoonfdkeeapaa.Lem
