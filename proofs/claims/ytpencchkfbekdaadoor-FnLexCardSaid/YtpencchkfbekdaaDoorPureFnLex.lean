/- The pure statement of FnLex: what the printed functions compute makes the law answer true. Conditions: those in the statement. -/
import Derived.Test.YtpencchkfbekdaaDoorLem
import Derived.Test.YtpencchkfbekdaaDoorPFnLexx0
import Derived.Test.YtpencchkfbekdaaDoorPFnLexx1
import Derived.Test.YtpencchkfbekdaaDoorPFnLexx2
import Derived.Test.YtpencchkfbekdaaDoorPFnLexx3
import Derived.Test.YtpencchkfbekdaaDoorPFnLexx4
import Derived.Test.YtpencchkfbekdaaDoorPFnLexx5
import Derived.Test.YtpencchkfbekdaaDoorPFnLexx6
import Derived.Test.YtpencchkfbekdaaDoorPFnLexx7
import Derived.Test.YtpencchkfbekdaaDoorPFnLexx8
import Derived.Test.YtpencchkfbekdaaDoorPFnLexx9
namespace Go.Proofs.YtpencchkfbekdaaDoor.Pure
open Go.RowKit Go.Proofs.YtpencchkfbekdaaDoor.PFnLex Go.Proofs.YtpencchkfbekdaaDoorW.PrintWords Go.Proofs.YtpencchkfbekdaaDoorW.PrintLast Go.Proofs.YtpencchkfbekdaaDoorW.PrintMore Go.Proofs.YtpencchkfbekdaaDoor.Lem
set_option linter.unusedVariables false
set_option linter.unusedSimpArgs false

theorem spec_l1In_eq (a b c : Int) : spec_l1In.f a b c = some (decide (b ≤ a) && decide (a ≤ c)) := by
  unfold spec_l1In.f
  by_cases h : a ≥ b
  · have h' : b ≤ a := h
    simp [h']
  · have h' : ¬ b ≤ a := h
    simp [h']
theorem impl_inRange_eq (a b c : Int) : impl_inRange.f a b c = some (decide (b ≤ a) && decide (a ≤ c)) := by
  unfold impl_inRange.f
  by_cases h : a ≥ b
  · have h' : b ≤ a := h
    simp [h']
  · have h' : ¬ b ≤ a := h
    simp [h']
theorem impl_isLetter_eq (a : Int) : impl_isLetter.f a = some (decide (97 ≤ a) && decide (a ≤ 122)) := by
  unfold impl_isLetter.f
  by_cases h : a ≥ 97
  · have h' : 97 ≤ a := h
    simp [h']
  · have h' : ¬ 97 ≤ a := h
    simp [h']
theorem spec_l2Small_eq (a : Int) (h0 : 0 ≤ a) (h1 : a ≤ 255) : spec_l2Small.f a = some (decide (97 ≤ a) && decide (a ≤ 122)) := by
  unfold spec_l2Small.f
  rw [w64 (by omega) (by omega), spec_l1In_eq]
  rfl
theorem spec_l2Has_ev (xs : List ByteArray) (s : ByteArray) (hn : xs.length ≤ maxLen) : Ev (fun k => spec_l2Has.f k xs s) (xs.any fun x => x.toList == s.toList) := by
  unfold spec_l2Has.f
  have key : ∀ d i, i + d = xs.length → Ev (fun k => spec_l2Has.l0 k xs s (i : Int)) ((xs.drop i).any fun x => x.toList == s.toList) := by
    intro d
    induction d with
    | zero =>
      intro i hi
      refine Ev.step (fun k => by rw [spec_l2Has.l0]) ?_
      have c : ¬ (i : Int) < (xs.length : Int) := by omega
      simp only [c, if_false]
      rw [List.drop_eq_nil_of_le (by omega)]
      exact Ev.now _
    | succ d ih =>
      intro i hi
      refine Ev.step (fun k => by rw [spec_l2Has.l0]) ?_
      have c : (i : Int) < (xs.length : Int) := by omega
      have c0 : (0 : Int) ≤ (i : Int) := by omega
      have hw : wrap64 ((i : Int) + 1) = ((i + 1 : Nat) : Int) := wi (by omega) hn
      have hd : xs.drop i = rdOf ByteArray.empty xs (i : Int) :: xs.drop (i + 1) := by
        rw [List.drop_eq_getElem_cons (by omega)]
        simp [rdOf, List.getElem?_eq_getElem (show i < xs.length by omega)]
      rw [hd, List.any_cons]
      simp only [c, c0, if_true, hw]
      by_cases e : (rdOf ByteArray.empty xs (i : Int)).toList = s.toList
      · simp only [e, if_true, beq_self_eq_true, Bool.true_or]
        exact Ev.now _
      · simp only [e, if_false]
        have e' : ((rdOf ByteArray.empty xs (i : Int)).toList == s.toList) = false := by simpa using e
        rw [e', Bool.false_or]
        exact ih (i + 1) (by omega)
  have := key xs.length 0 (by omega)
  simpa using this
theorem spec_l2Kept_ev (s : ByteArray) : Ev (fun k => spec_l2Kept.f k s) (keptS s) := by
  unfold spec_l2Kept.f
  refine Ev.then (spec_l2Has_ev _ s (by simp [maxLen])) ?_
  have : (List.any [(⟨#[97, 114, 114, 97, 121]⟩ : ByteArray), (⟨#[102, 111, 114]⟩ : ByteArray), (⟨#[116, 111]⟩ : ByteArray), (⟨#[112, 114, 105, 110, 116]⟩ : ByteArray), (⟨#[109, 105, 110]⟩ : ByteArray), (⟨#[109, 97, 120]⟩ : ByteArray)] fun x => x.toList == s.toList) = keptS s := by
    simp only [keptS, keptL, List.any_cons, List.any_nil, toList_data]
  rw [this]
  exact Ev.now _
theorem impl_isKept_eq (s : ByteArray) : impl_isKept.f s = some (keptS s) := by
  unfold impl_isKept.f keptS keptL
  have hb : ∀ l : List UInt8, decide (s.toList = l) = (l == s.toList) := fun l => by
    by_cases h : s.toList = l
    · rw [decide_eq_true h, ← h, beq_self_eq_true]
    · rw [decide_eq_false h, beq_eq_false_iff_ne.mpr (fun e => h e.symm)]
  simp only [if_or, hb, List.any_cons, List.any_nil]
theorem spec_NameOk_ev (s : ByteArray) (hn : s.size ≤ maxLen) : Ev (fun k => spec_NameOk.f k s) (nameS s) := by
  unfold spec_NameOk.f nameS
  refine Ev.run (g := fun k i (_ : Unit) => spec_NameOk.l0 k s i) _ _ ?_ ?_ ()
  · intro i u hi
    have c : (i : Int) < (s.size : Int) := by omega
    have c0 : (0 : Int) ≤ (i : Int) := by omega
    have hw : wrap64 ((i : Int) + 1) = ((i + 1 : Nat) : Int) := wi hi hn
    have hl : spec_l2Small.f (bt s (i : Int)) = some (letS s i) := spec_l2Small_eq _ (bt_range s i).1 (bt_range s i).2
    cases e : letS s i with
    | true =>
      simp only [if_true]
      intro r hr
      refine Ev.step (fun k => by rw [spec_NameOk.l0]) ?_
      simp only [c, c0, if_true, hl, e, Option.bind_some, hw]
      exact hr
    | false =>
      simp only [Bool.false_eq_true, if_false]
      refine Ev.step (fun k => by rw [spec_NameOk.l0]) ?_
      simp only [c, c0, if_true, hl, e, Option.bind_some, Bool.false_eq_true, if_false]
      exact Ev.now _
  · intro u
    refine Ev.step (fun k => by rw [spec_NameOk.l0]) ?_
    have c : ¬ (s.size : Int) < (s.size : Int) := by omega
    simp only [c, if_false, spec_l1In_eq, Option.bind_some]
    have e1 : (decide ((1 : Int) ≤ (s.size : Int)) && decide ((s.size : Int) ≤ 6)) = (decide (1 ≤ s.size) && decide (s.size ≤ 6)) := by
      rw [Bool.eq_iff_iff]
      simp
      omega
    rw [e1]
    cases e : (decide (1 ≤ s.size) && decide (s.size ≤ 6)) with
    | true =>
      simp only [if_true, Bool.true_and]
      exact Ev.then (spec_l2Kept_ev s) (Ev.now _)
    | false =>
      simp only [Bool.false_eq_true, if_false, Bool.false_and]
      exact Ev.now _
theorem impl_NameOk_ev (s : ByteArray) (hn : s.size ≤ maxLen) : Ev (fun k => impl_NameOk.f k s) (nameS s) := by
  unfold impl_NameOk.f nameS
  refine Ev.run (g := fun k i (_ : Unit) => impl_NameOk.l0 k s i) _ _ ?_ ?_ ()
  · intro i u hi
    have c : (i : Int) < (s.size : Int) := by omega
    have c0 : (0 : Int) ≤ (i : Int) := by omega
    have hw : wrap64 ((i : Int) + 1) = ((i + 1 : Nat) : Int) := wi hi hn
    have hl : impl_isLetter.f (bt s (i : Int)) = some (letS s i) := impl_isLetter_eq _
    cases e : letS s i with
    | true =>
      simp only [if_true]
      intro r hr
      refine Ev.step (fun k => by rw [impl_NameOk.l0]) ?_
      simp only [c, c0, if_true, hl, e, Option.bind_some, hw]
      exact hr
    | false =>
      simp only [Bool.false_eq_true, if_false]
      refine Ev.step (fun k => by rw [impl_NameOk.l0]) ?_
      simp only [c, c0, if_true, hl, e, Option.bind_some, Bool.false_eq_true, if_false]
      exact Ev.now _
  · intro u
    refine Ev.step (fun k => by rw [impl_NameOk.l0]) ?_
    have c : ¬ (s.size : Int) < (s.size : Int) := by omega
    simp only [c, if_false, impl_inRange_eq, Option.bind_some]
    have e1 : (decide ((1 : Int) ≤ (s.size : Int)) && decide ((s.size : Int) ≤ 6)) = (decide (1 ≤ s.size) && decide (s.size ≤ 6)) := by
      rw [Bool.eq_iff_iff]
      simp
      omega
    rw [e1]
    cases e : (decide (1 ≤ s.size) && decide (s.size ≤ 6)) with
    | true =>
      simp only [if_true, Bool.true_and, impl_isKept_eq, Option.bind_some]
      exact Ev.now _
    | false =>
      simp only [Bool.false_eq_true, if_false, Bool.false_and]
      exact Ev.now _

theorem bits_and8 (a : Int) : Go.bits .and .i64 a 255 = a % 256 := by
  have h : (255 : Int) = ((2 ^ 8 - 1 : Nat) : Int) := by decide
  unfold Go.bits
  simp only [Go.IntKind.wrap_i64]
  rw [h]
  simp only [BitVec.toNat_and, BitVec.ofInt_natCast, BitVec.toNat_ofInt, BitVec.toNat_ofNat]
  have e : (2 ^ 8 - 1) % 2 ^ Go.IntKind.bits .i64 = 2 ^ 8 - 1 := by decide
  rw [e, Nat.and_two_pow_sub_one_eq_mod]
  have e2 : Go.IntKind.bits .i64 = 64 := rfl
  rw [e2]
  omega
theorem spec_l1New_ev (l : List Int) (hl : l.length ≤ maxLen) : ∃ h, Ev (fun k => spec_l1New.f k l) (l, 0, h) := by
  have key : ∀ d i, i + d = l.length → ∀ x, ∃ h, Ev (fun k => spec_l1New.l0 k l x (i : Int)) (l, 0, h) := by
    intro d
    induction d with
    | zero =>
      intro i hi x
      refine ⟨x, Ev.step (fun k => by rw [spec_l1New.l0]) ?_⟩
      have c : ¬ (i : Int) < (l.length : Int) := by omega
      simp only [c, if_false]
      exact Ev.now _
    | succ d ih =>
      intro i hi x
      have c : (i : Int) < (l.length : Int) := by omega
      have c0 : (0 : Int) ≤ (i : Int) := by omega
      have hw : wrap64 ((i : Int) + 1) = ((i + 1 : Nat) : Int) := wi (n := l.length) (by omega) hl
      by_cases e : (i : Int) < 4000
      · obtain ⟨h, hh⟩ := ih (i + 1) (by omega) (Go.bits .and .i64 (wrap64 ((wrap64 ((wrap64 (x * 137)) + (wrap64 (rd l (i : Int))))) + 11)) 1073741823)
        refine ⟨h, Ev.step (fun k => by rw [spec_l1New.l0]) ?_⟩
        simp only [c, c0, e, if_true, hw]
        exact hh
      · refine ⟨x, Ev.step (fun k => by rw [spec_l1New.l0]) ?_⟩
        simp only [c, e, if_true, if_false]
        exact Ev.now _
  exact key l.length 0 (by omega) _
/-- Where a cursor may stand. -/
def At (l : List Int) (i : Int) : Prop := l.length ≤ maxLen ∧ 0 ≤ i ∧ i ≤ (l.length : Int)
theorem spec_l1Byte_ex {l : List Int} {i : Int} (h : Int) (hi : At l i) : ∃ b i' h', spec_l1Byte.f l i h = some (b, i', h') ∧ 0 ≤ b ∧ b ≤ 255 ∧ At l i' := by
  obtain ⟨hl, h0, h1⟩ := hi
  have hm := hl
  unfold maxLen at hm
  unfold spec_l1Byte.f
  by_cases c : i < (l.length : Int)
  · simp only [c, h0, if_true]
    have hw : wrap64 (i + 1) = i + 1 := w64 (by omega) (by omega)
    refine ⟨_, _, _, rfl, ?_, ?_, hl, ?_, ?_⟩
    · rw [bits_and8]; omega
    · rw [bits_and8]; omega
    · omega
    · omega
  · simp only [c, if_false]
    refine ⟨_, _, _, rfl, ?_, ?_, hl, h0, h1⟩
    · rw [bits_and8]; omega
    · rw [bits_and8]; omega
theorem spec_l1Below_ex {l : List Int} {i : Int} (h : Int) (n : Int) (hi : At l i) (hn : 0 < n) (hn2 : n ≤ 256) : ∃ b i' h', spec_l1Below.f l i h n = some (b, i', h') ∧ 0 ≤ b ∧ b < n ∧ At l i' := by
  unfold spec_l1Below.f
  obtain ⟨b, i', h', e, b0, b1, c⟩ := spec_l1Byte_ex h hi
  have c1 : ¬ n ≤ 0 := by omega
  have c2 : ¬ n = 0 := by omega
  simp only [c1, c2, hn2, e, if_true, if_false, Option.bind_some]
  refine ⟨_, _, _, rfl, ?_, ?_, c⟩
  · exact Int.tmod_nonneg _ b0
  · exact Int.tmod_lt_of_pos _ hn
theorem spec_l1Str_ex {l : List Int} {i : Int} (h : Int) (q : List ByteArray) (hi : At l i) (hn : 0 < q.length) (hn2 : q.length ≤ 256) : ∃ x i' h', spec_l1Str.f l i h q = some (x, i', h') ∧ x ∈ q ∧ At l i' := by
  unfold spec_l1Str.f
  obtain ⟨b, i', h', e, b0, b1, c⟩ := spec_l1Below_ex h (q.length : Int) hi (by omega) (by omega)
  simp only [e, b0, b1, if_true, Option.bind_some]
  refine ⟨_, _, _, rfl, ?_, c⟩
  obtain ⟨j, rfl⟩ : ∃ j : Nat, b = (j : Int) := ⟨b.toNat, by omega⟩
  exact getD_mem q _ (by omega)
theorem spec_l1Once_ex {l : List Int} {i : Int} (h : Int) (n : Int) (hi : At l i) (hn : 0 < n) (hn2 : n ≤ 256) : ∃ b i' h', spec_l1Once.f l i h n = some (b, i', h') ∧ At l i' := by
  unfold spec_l1Once.f
  obtain ⟨b, i', h', e, b0, b1, c⟩ := spec_l1Below_ex h n hi hn hn2
  simp only [e, Option.bind_some]
  exact ⟨_, _, _, rfl, c⟩
open Go.Lib
/-! ### numerals -/
def finN (n : Int) (l : List UInt8) : ByteArray := if n < 0 then ⟨(45 :: l).toArray⟩ else ⟨l.toArray⟩
theorem strOne (d : Nat) (l : List UInt8) (h : d < 10) : strOfNums [wrap64 (48 + (d : Int)) % 256] ++ (⟨l.toArray⟩ : ByteArray) = ⟨(UInt8.ofNat (48 + d) :: l).toArray⟩ := by
  have e : wrap64 (48 + (d : Int)) % 256 = ((48 + d : Nat) : Int) := by
    rw [w64 (by omega) (by omega)]
    omega
  rw [e]
  apply ByteArray.ext
  rw [ByteArray.data_append]
  simp only [strOfNums, List.map_cons, List.map_nil, Int.toNat_natCast]
  simp
theorem strOne_size (x : Int) : (strOfNums [x]).size = 1 := by simp [strOfNums, ByteArray.size]
theorem digits_step (m : Nat) (h : m ≠ 0) (l : List UInt8) : (if m / 10 = 0 then UInt8.ofNat (48 + m % 10) :: l else decDigits (m / 10) ++ UInt8.ofNat (48 + m % 10) :: l) = decDigits m ++ l := by
  by_cases c : m < 10
  · rw [if_pos (by omega), decDigits_one c, Nat.mod_eq_of_lt c]
    rfl
  · rw [if_neg (by omega), decDigits.eq_1 m, dif_neg c, List.append_assoc]
    rfl
theorem spec_NumText_l0 (n : Int) : ∀ (j : Nat) (x : Int) (l : List UInt8), x.natAbs < 10 ^ j → l.length + j ≤ 100 → -9223372036854775808 ≤ x → x ≤ 9223372036854775807 → Ev (fun k => spec_NumText.l0 k n (⟨l.toArray⟩ : ByteArray) x) (finN n (if x.natAbs = 0 then l else decDigits x.natAbs ++ l)) := by
  have zero : ∀ (l : List UInt8), l.length ≤ 100 → Ev (fun k => spec_NumText.l0 k n (⟨l.toArray⟩ : ByteArray) 0) (finN n l) := by
    intro l hl
    refine Ev.step (fun k => by rw [spec_NumText.l0]) ?_
    have hs : (⟨l.toArray⟩ : ByteArray).size = l.length := by simp [ByteArray.size]
    have c : 1 + (⟨l.toArray⟩ : ByteArray).size ≤ 9223372036854775807 := by omega
    unfold finN
    by_cases hn : n < 0
    · simp only [hn, c, if_true]
      have e : (⟨#[45]⟩ : ByteArray) ++ (⟨l.toArray⟩ : ByteArray) = ⟨(45 :: l).toArray⟩ := by
        apply ByteArray.ext
        rw [ByteArray.data_append]
        simp
      rw [e]
      exact Ev.now _
    · simp only [hn, if_true, if_false]
      exact Ev.now _
  intro j
  induction j with
  | zero =>
    intro x l hx hl h0 h1
    have e : x = 0 := by
      have : x.natAbs = 0 := by simpa using hx
      omega
    subst e
    exact zero l (by omega)
  | succ j ih =>
    intro x l hx hl h0 h1
    by_cases e : x = 0
    · subst e
      exact zero l (by omega)
    have hm : x.natAbs ≠ 0 := by omega
    have hsz : (⟨l.toArray⟩ : ByteArray).size = l.length := by simp [ByteArray.size]
    have ht : (Int.tdiv x 10).natAbs = x.natAbs / 10 := Int.natAbs_tdiv x 10
    have hr : (Int.tmod x 10).natAbs = x.natAbs % 10 := Int.natAbs_tmod x 10
    have hd : x.natAbs % 10 < 10 := Nat.mod_lt _ (by omega)
    have tb : -9223372036854775808 ≤ Int.tdiv x 10 ∧ Int.tdiv x 10 ≤ 9223372036854775807 := by omega
    have hw : wrap64 (Int.tdiv x 10) = Int.tdiv x 10 := w64 (by omega) (by omega)
    have next := ih (Int.tdiv x 10) (UInt8.ofNat (48 + x.natAbs % 10) :: l) (by
      rw [ht]
      rw [Nat.pow_succ] at hx
      exact Nat.div_lt_of_lt_mul (by omega)) (by simp; omega) tb.1 tb.2
    rw [ht, digits_step _ hm] at next
    rw [if_neg hm]
    refine Ev.step (fun k => by rw [spec_NumText.l0]) ?_
    by_cases c : Int.tmod x 10 < 0
    · have e1 : wrap64 (-(Int.tmod x 10)) = ((x.natAbs % 10 : Nat) : Int) := by
        rw [w64 (by omega) (by omega), ← hr]
        omega
      have c2 : (strOfNums [wrap64 (48 + ((x.natAbs % 10 : Nat) : Int)) % 256]).size + (⟨l.toArray⟩ : ByteArray).size ≤ 9223372036854775807 := by
        rw [strOne_size]
        omega
      simp only [e, c, if_true, if_false, Option.bind_some, e1, c2, hw, strOne _ l hd]
      exact next
    · have e1 : Int.tmod x 10 = ((x.natAbs % 10 : Nat) : Int) := by
        rw [← hr]
        omega
      have c2 : (strOfNums [wrap64 (48 + ((x.natAbs % 10 : Nat) : Int)) % 256]).size + (⟨l.toArray⟩ : ByteArray).size ≤ 9223372036854775807 := by
        rw [strOne_size]
        omega
      rw [e1] at c
      simp only [e, if_false, Option.bind_some, e1, c, c2, if_true, hw, strOne _ l hd]
      exact next
def numS (n : Int) : ByteArray := ⟨(itoa n).toArray⟩
theorem spec_NumText_ev (n : Int) (h0 : -9223372036854775808 ≤ n) (h1 : n ≤ 9223372036854775807) : Ev (fun k => spec_NumText.f k n) (numS n) := by
  unfold spec_NumText.f
  by_cases e : n = 0
  · subst e
    simp only [if_true]
    have : numS 0 = (⟨#[48]⟩ : ByteArray) := by
      unfold numS itoa
      rw [if_neg (by omega)]
      have : decDigits (0 : Int).toNat = [48] := by
        rw [show (0 : Int).toNat = 0 from rfl, decDigits_one (by omega)]
        rfl
      rw [this]
    rw [this]
    exact Ev.now _
  · simp only [e, if_false]
    have := spec_NumText_l0 n 19 n [] (by
      have : (10 : Nat) ^ 19 = 10000000000000000000 := by decide
      omega) (by simp) h0 h1
    rw [if_neg (by omega), List.append_nil] at this
    have e2 : finN n (decDigits n.natAbs) = numS n := by
      unfold finN numS itoa
      by_cases c : n < 0
      · rw [if_pos c, if_pos c]
      · rw [if_neg c, if_neg c, show n.natAbs = n.toNat by omega]
    rw [e2] at this
    exact this
theorem impl_NumText_eq (n : Int) (h0 : -9223372036854775808 ≤ n) (h1 : n ≤ 9223372036854775807) : impl_NumText.f n = some (numS n) := by
  unfold impl_NumText.f strconv_Itoa_32.f
  simp only [h0, h1, if_true, Option.bind_some]
  rfl
/-! ### numerals, read -/
def valN (acc : Nat) (l : List UInt8) : Nat := l.foldl (fun a c => a * 10 + (c.toNat - 48)) acc
def digL (l : List UInt8) : Bool := l.all fun c => decide (48 ≤ c.toNat) && decide (c.toNat ≤ 57)
theorem valN_snoc (acc : Nat) (l : List UInt8) (c : UInt8) : valN acc (l ++ [c]) = valN acc l * 10 + (c.toNat - 48) := by simp [valN]
theorem head_snoc {l : List UInt8} (h : l ≠ []) (c : UInt8) : (l ++ [c]).head? = l.head? := by
  cases l with
  | nil => exact absurd rfl h
  | cons a t => rfl
theorem dig_ofNat (n : Nat) (h : n < 10) : (UInt8.ofNat (48 + n)).toNat = 48 + n := by
  rw [UInt8.toNat_ofNat']
  exact Nat.mod_eq_of_lt (by omega)
theorem dig_back (c : UInt8) (h : 48 ≤ c.toNat) : UInt8.ofNat (48 + (c.toNat - 48)) = c := by
  rw [show 48 + (c.toNat - 48) = c.toNat by omega]
  exact UInt8.ofNat_toNat
theorem dec_val : ∀ r : List UInt8, digL r = true → r ≠ [] → (r.length = 1 ∨ r.reverse.head? ≠ some 48) → decDigits (valN 0 r.reverse) = r.reverse
  | [], _, h, _ => absurd rfl h
  | c :: r, hd, _, hh => by
    have hd' : (48 ≤ c.toNat ∧ c.toNat ≤ 57) ∧ digL r = true := by
      simpa only [digL, List.all_cons, Bool.and_eq_true, decide_eq_true_eq] using hd
    rw [List.reverse_cons, valN_snoc]
    have hc := dig_back c hd'.1.1
    by_cases hr : r = []
    · subst hr
      rw [show valN 0 ([] : List UInt8).reverse * 10 + (c.toNat - 48) = c.toNat - 48 by simp [valN], decDigits_one (by omega), hc]
      rfl
    · have hr' : r.reverse ≠ [] := by simpa using hr
      have hlen : 1 ≤ r.length := Nat.pos_of_ne_zero fun e => hr (List.eq_nil_of_length_eq_zero e)
      have hh' : r.reverse.head? ≠ some 48 := by
        rcases hh with hh | hh
        · exact absurd (by simpa using hh) hr
        · rwa [List.reverse_cons, head_snoc hr'] at hh
      have ih := dec_val r hd'.2 hr (.inr hh')
      have hp : valN 0 r.reverse ≠ 0 := fun e => by
        rw [e, decDigits_one (by omega)] at ih
        apply hh'
        rw [← ih]
        rfl
      rw [decDigits.eq_1, dif_neg (by omega), show (valN 0 r.reverse * 10 + (c.toNat - 48)) / 10 = valN 0 r.reverse by omega, show (valN 0 r.reverse * 10 + (c.toNat - 48)) % 10 = c.toNat - 48 by omega, ih, hc]
theorem dec_ne (m : Nat) : decDigits m ≠ [] := fun e => by
  have := decDigits_length m
  rw [e] at this
  have := nDigits_pos m
  simp at *
  omega
theorem dec_head (m : Nat) : m ≠ 0 → (decDigits m).head? ≠ some 48 := by
  induction m using Nat.strongRecOn with
  | _ m ih =>
    intro hm
    by_cases h : m < 10
    · rw [decDigits_one h]
      intro e
      have e' : UInt8.ofNat (48 + m) = 48 := by simpa using e
      have := congrArg UInt8.toNat e'
      rw [dig_ofNat m h] at this
      have h48 : (48 : UInt8).toNat = 48 := rfl
      omega
    · rw [decDigits.eq_1, dif_neg h, head_snoc (dec_ne _)]
      exact ih (m / 10) (by omega) (by omega)
theorem dec_back (m : Nat) : valN 0 (decDigits m) = m ∧ digL (decDigits m) = true := by
  induction m using Nat.strongRecOn with
  | _ m ih =>
    by_cases h : m < 10
    · rw [decDigits_one h]
      have := dig_ofNat m h
      refine ⟨?_, ?_⟩
      · simp only [valN, List.foldl_cons, List.foldl_nil, this]
        omega
      · simp only [digL, List.all_cons, List.all_nil, this, Bool.and_true, Bool.and_eq_true, decide_eq_true_eq]
        omega
    · obtain ⟨i1, i2⟩ := ih (m / 10) (by omega)
      have := dig_ofNat (m % 10) (by omega)
      rw [decDigits.eq_1, dif_neg h]
      refine ⟨?_, ?_⟩
      · rw [valN_snoc, i1, this]
        omega
      · unfold digL at i2 ⊢
        rw [List.all_append, i2]
        simp only [List.all_cons, List.all_nil, this, Bool.and_true, Bool.true_and, Bool.and_eq_true, decide_eq_true_eq]
        omega
theorem valN_bd : ∀ (l : List UInt8) (acc : Nat), digL l = true → valN acc l + 1 ≤ (acc + 1) * 10 ^ l.length
  | [], acc, _ => by simp [valN]
  | c :: l, acc, h => by
    have h' : (48 ≤ c.toNat ∧ c.toNat ≤ 57) ∧ digL l = true := by
      simpa only [digL, List.all_cons, Bool.and_eq_true, decide_eq_true_eq] using h
    have ih := valN_bd l (acc * 10 + (c.toNat - 48)) h'.2
    have e : valN acc (c :: l) = valN (acc * 10 + (c.toNat - 48)) l := rfl
    rw [e, List.length_cons, Nat.pow_succ, Nat.mul_comm (10 ^ l.length), ← Nat.mul_assoc]
    exact Nat.le_trans ih (Nat.mul_le_mul_right _ (by omega))
/-- What a numeral says. -/
def parseS (s : ByteArray) : Int × Bool :=
  if 1 ≤ s.toList.length ∧ s.toList.length ≤ 10 ∧ digL s.toList = true ∧ (s.toList.length = 1 ∨ s.toList.head? ≠ some 48) ∧ valN 0 s.toList ≤ 2147483647 then ((valN 0 s.toList : Nat), true) else (0, false)
theorem len_size (s : ByteArray) : s.toList.length = s.size := by
  rw [Lem.toList_data]
  rfl
theorem bt_list (s : ByteArray) (i : Nat) (h : i < s.size) : bt s (i : Int) = (((s.toList.getD i 0).toNat : Nat) : Int) := by
  unfold bt
  have h' : (i : Int).toNat < s.size := by simpa using h
  rw [dif_pos h', Lem.toList_data]
  have h2 : i < s.data.toList.length := by simpa using h
  simp only [Int.toNat_natCast, List.getD_eq_getElem?_getD, List.getElem?_eq_getElem h2, Option.getD_some]
  rfl
theorem head_bt (s : ByteArray) (h : 0 < s.size) : bt s 0 = 48 ↔ s.toList.head? = some 48 := by
  have e := bt_list s 0 h
  rw [show ((0 : Nat) : Int) = 0 from rfl] at e
  rw [e]
  have hl : 0 < s.toList.length := by rw [len_size]; exact h
  cases hs : s.toList with
  | nil => rw [hs] at hl; simp at hl
  | cons a t =>
    simp only [List.getD_cons_zero, List.head?_cons, Option.some.injEq]
    constructor
    · intro q
      apply UInt8.toNat_inj.1
      have h48 : (48 : UInt8).toNat = 48 := rfl
      omega
    · intro q
      rw [q]
      rfl
theorem toList_mk (l : List UInt8) : (⟨l.toArray⟩ : ByteArray).toList = l := by rw [Lem.toList_data]
theorem numS_nat (v : Nat) : (numS (v : Int)).toList = decDigits v := by
  unfold numS itoa
  rw [toList_mk, if_neg (by omega)]
  rfl
theorem num_iff {l : List UInt8} (hd : digL l = true) (hl : 1 ≤ l.length) : decDigits (valN 0 l) = l ↔ (l.length = 1 ∨ l.head? ≠ some 48) := by
  constructor
  · intro e
    by_cases h : l.length = 1
    · exact .inl h
    · refine .inr fun q => ?_
      rw [← e] at q
      by_cases hv : valN 0 l = 0
      · rw [hv, decDigits_one (by omega)] at e
        rw [← e] at h
        exact h rfl
      · exact dec_head _ hv q
  · intro h
    have hr : digL l.reverse = true := by
      unfold digL at hd ⊢
      rw [List.all_reverse]
      exact hd
    have := dec_val l.reverse hr (by
      intro e
      have : l = [] := by simpa using e
      rw [this] at hl
      simp at hl) (by simpa using h)
    rwa [List.reverse_reverse] at this
theorem lst_step {s : ByteArray} {i : Nat} (h : i < s.size) (v : Nat) (hv : v < 1000000000000) :
    ((¬ bt s (i : Int) < 48 ∧ ¬ bt s (i : Int) > 57) → wrap64 (wrap64 ((v : Int) * 10) + (bt s (i : Int) - 48) % 256) = ((v * 10 + ((s.toList.getD i 0).toNat - 48) : Nat) : Int)) ∧
    (digL (s.toList.drop i) = ((!decide (bt s (i : Int) < 48) && !decide (bt s (i : Int) > 57)) && digL (s.toList.drop (i + 1)))) ∧
    valN v (s.toList.drop i) = valN (v * 10 + ((s.toList.getD i 0).toNat - 48)) (s.toList.drop (i + 1)) := by
  have e := bt_list s i h
  have hd : s.toList.drop i = s.toList.getD i 0 :: s.toList.drop (i + 1) := drop_cons _ _ (by rw [len_size]; exact h)
  have hc : (s.toList.getD i 0).toNat < 256 := UInt8.toNat_lt _
  generalize s.toList.getD i 0 = c at *
  refine ⟨?_, ?_, ?_⟩
  · rintro ⟨h1, h2⟩
    rw [e] at h1 h2 ⊢
    rw [w64 (x := (v : Int) * 10) (by omega) (by omega), w64 (by omega) (by omega)]
    omega
  · rw [hd, e]
    simp only [digL, List.all_cons]
    congr 1
    rw [Bool.eq_iff_iff]
    simp only [Bool.and_eq_true, decide_eq_true_eq, Bool.not_eq_true', decide_eq_false_iff_not]
    omega
  · rw [hd]
    rfl
theorem spec_l1In_eqP (a b c : Int) : spec_l1In.f a b c = some (decide (b ≤ a) && decide (a ≤ c)) := by
  unfold spec_l1In.f
  by_cases h : a ≥ b
  · have h' : b ≤ a := h
    simp [h']
  · have h' : ¬ b ≤ a := h
    simp [h']
theorem impl_inRange_eqP (a b c : Int) : impl_inRange.f a b c = some (decide (b ≤ a) && decide (a ≤ c)) := by
  unfold impl_inRange.f
  by_cases h : a ≥ b
  · have h' : b ≤ a := h
    simp [h']
  · have h' : ¬ b ≤ a := h
    simp [h']
theorem pow_le (i : Nat) (h : i ≤ 11) : 10 ^ i ≤ 100000000000 := by
  have : 10 ^ i ≤ 10 ^ 11 := Nat.pow_le_pow_right (by omega) h
  exact this
theorem impl_ParseNum_ev (s : ByteArray) : Ev (fun k => impl_ParseNum.f k s) (parseS s) := by
  unfold impl_ParseNum.f
  simp only [impl_inRange_eqP, Option.bind_some]
  have ls := len_size s
  by_cases c : 1 ≤ s.size ∧ s.size ≤ 10
  · have c' : (decide ((1 : Int) ≤ (s.size : Int)) && decide ((s.size : Int) ≤ 10)) = true := by
      simp only [Bool.and_eq_true, decide_eq_true_eq]
      omega
    simp only [c', if_true]
    have key : ∀ d i, i + d = s.size → ∀ v : Nat, v < 10 ^ i → Ev (fun k => impl_ParseNum.l0 k s (v : Int) (i : Int)) (if digL (s.toList.drop i) = true then (if decDigits (valN v (s.toList.drop i)) = s.toList ∧ valN v (s.toList.drop i) ≤ 2147483647 then ((valN v (s.toList.drop i) : Nat), true) else (0, false)) else (0, false)) := by
      intro d
      induction d with
      | zero =>
        intro i hi v hv
        have hp := pow_le i (by omega)
        have c1 : ¬ (i : Int) < (s.size : Int) := by omega
        refine Ev.step (fun k => by rw [impl_ParseNum.l0]) ?_
        rw [List.drop_eq_nil_of_le (by omega)]
        simp only [c1, if_false, impl_NumText_eq (v : Int) (by omega) (by omega), Option.bind_some, numS_nat, impl_isWord.f, impl_inRange_eqP, digL, List.all_nil, if_true, valN, List.foldl_nil]
        by_cases e : decDigits v = s.toList
        · by_cases b : v ≤ 2147483647
          · have b' : (decide ((-2147483648 : Int) ≤ (v : Int)) && decide ((v : Int) ≤ 2147483647)) = true := by
              simp only [Bool.and_eq_true, decide_eq_true_eq]
              omega
            simp only [e, b, b', if_true, and_self]
            exact Ev.now _
          · have b' : (decide ((-2147483648 : Int) ≤ (v : Int)) && decide ((v : Int) ≤ 2147483647)) = false := by
              rw [Bool.and_eq_false_iff]
              exact .inr (decide_eq_false (by omega))
            simp only [e, b, b', if_true, and_false, if_false, Bool.false_eq_true]
            exact Ev.now _
        · simp only [e, false_and, if_false]
          exact Ev.now _
      | succ d ih =>
        intro i hi v hv
        have hp := pow_le i (by omega)
        have c1 : (i : Int) < (s.size : Int) := by omega
        have c0 : (0 : Int) ≤ (i : Int) := by omega
        have hw : wrap64 ((i : Int) + 1) = ((i + 1 : Nat) : Int) := by rw [w64 (by omega) (by omega)]; omega
        obtain ⟨h1, h2, h3⟩ := lst_step (s := s) (i := i) (by omega) v (by omega)
        have hb := bt_list s i (by omega)
        refine Ev.step (fun k => by rw [impl_ParseNum.l0]) ?_
        by_cases q1 : bt s (i : Int) < 48
        · simp only [c0, c1, q1, if_true, h2, decide_true, Bool.not_true, Bool.false_and, Bool.false_eq_true, if_false]
          exact Ev.now _
        · by_cases q2 : bt s (i : Int) > 57
          · simp only [c0, c1, q1, q2, if_true, if_false, h2, decide_true, Bool.not_true, Bool.and_false, Bool.false_and, Bool.false_eq_true]
            exact Ev.now _
          · have next := ih (i + 1) (by omega) (v * 10 + ((s.toList.getD i 0).toNat - 48)) (by rw [Nat.pow_succ]; omega)
            rw [← h3] at next
            simp only [c0, c1, q1, q2, if_true, if_false, h1 ⟨q1, q2⟩, hw, h2, decide_false, Bool.not_false, Bool.true_and]
            exact next
    have := key s.size 0 (by omega) 0 (by simp)
    rw [List.drop_zero] at this
    have e : (if digL s.toList = true then (if decDigits (valN 0 s.toList) = s.toList ∧ valN 0 s.toList ≤ 2147483647 then (((valN 0 s.toList : Nat) : Int), true) else (0, false)) else (0, false)) = parseS s := by
      unfold parseS
      by_cases hd : digL s.toList = true
      · rw [if_pos hd]
        have hi := num_iff hd (by omega)
        by_cases q : decDigits (valN 0 s.toList) = s.toList ∧ valN 0 s.toList ≤ 2147483647
        · rw [if_pos q, if_pos ⟨by omega, by omega, hd, hi.1 q.1, q.2⟩]
        · rw [if_neg q, if_neg fun h => q ⟨hi.2 h.2.2.2.1, h.2.2.2.2⟩]
      · rw [if_neg hd, if_neg fun h => hd h.2.2.1]
    rw [e] at this
    exact this
  · have c' : (decide ((1 : Int) ≤ (s.size : Int)) && decide ((s.size : Int) ≤ 10)) = false := by
      cases q : (decide ((1 : Int) ≤ (s.size : Int)) && decide ((s.size : Int) ≤ 10)) with
      | false => rfl
      | true =>
        simp only [Bool.and_eq_true, decide_eq_true_eq] at q
        exact absurd ⟨by omega, by omega⟩ c
    simp only [c', Bool.false_eq_true, if_false]
    have e : parseS s = (0, false) := by
      unfold parseS
      rw [if_neg fun h => c ⟨by omega, by omega⟩]
    rw [e]
    exact Ev.now _
theorem spec_ParseNum_ev (s : ByteArray) (hs : s.size ≤ 140737488351232) : Ev (fun k => spec_ParseNum.f k s) (parseS s) := by
  unfold spec_ParseNum.f
  have ls := len_size s
  by_cases c : 1 ≤ s.size ∧ s.size ≤ 10
  · have c' : (decide ((1 : Int) ≤ (s.size : Int)) && decide ((s.size : Int) ≤ 10)) = true := by
      simp only [Bool.and_eq_true, decide_eq_true_eq]
      omega
    have key : ∀ d i, i + d = s.size → ∀ v : Nat, v < 10 ^ i → Ev (fun k => spec_ParseNum.l0 k s (v : Int) (i : Int)) (if digL (s.toList.drop i) = true then (if (s.toList.length = 1 ∨ s.toList.head? ≠ some 48) ∧ valN v (s.toList.drop i) ≤ 2147483647 then ((valN v (s.toList.drop i) : Nat), true) else (0, false)) else (0, false)) := by
      intro d
      induction d with
      | zero =>
        intro i hi v hv
        have hp := pow_le i (by omega)
        have c1 : ¬ (i : Int) < (s.size : Int) := by omega
        refine Ev.step (fun k => by rw [spec_ParseNum.l0]) ?_
        simp only [c1, if_false]
        refine Ev.step (fun k => by rw [spec_ParseNum.j1]) ?_
        rw [List.drop_eq_nil_of_le (by omega)]
        have c3 : (0 : Int) < (s.size : Int) := by omega
        have hh := head_bt s (by omega)
        simp only [Bool.false_eq_true, if_false, spec_l1In_eqP, c', Option.bind_some, if_true, digL, List.all_nil, valN, List.foldl_nil, c3]
        by_cases g : (s.size : Int) > 1
        · simp only [g, if_true]
          have n1 : ¬ s.toList.length = 1 := by omega
          by_cases q : bt s 0 = 48
          · have : s.toList.head? = some 48 := hh.1 q
            simp only [q, if_true, n1, this, ne_eq, not_true_eq_false, or_self, false_and, if_false]
            exact Ev.now _
          · have hne : ¬ s.toList.head? = some 48 := fun h => q (hh.2 h)
            simp only [q, if_false, n1, hne, ne_eq, not_false_eq_true, or_true, true_and]
            by_cases b : v ≤ 2147483647
            · have b' : ¬ (v : Int) > 2147483647 := by omega
              simp only [b, b', if_true, if_false]
              exact Ev.now _
            · have b' : (v : Int) > 2147483647 := by omega
              simp only [b, b', if_true, if_false]
              exact Ev.now _
        · simp only [g, if_false]
          have n1 : s.toList.length = 1 := by omega
          simp only [n1, true_or, true_and]
          by_cases b : v ≤ 2147483647
          · have b' : ¬ (v : Int) > 2147483647 := by omega
            simp only [b, b', if_true, if_false]
            exact Ev.now _
          · have b' : (v : Int) > 2147483647 := by omega
            simp only [b, b', if_true, if_false]
            exact Ev.now _
      | succ d ih =>
        intro i hi v hv
        have hp := pow_le i (by omega)
        have c1 : (i : Int) < (s.size : Int) := by omega
        have c0 : (0 : Int) ≤ (i : Int) := by omega
        have c2 : (i : Int) < 11 := by omega
        have hw : wrap64 ((i : Int) + 1) = ((i + 1 : Nat) : Int) := by rw [w64 (by omega) (by omega)]; omega
        obtain ⟨h1, h2, h3⟩ := lst_step (s := s) (i := i) (by omega) v (by omega)
        have hb := bt_list s i (by omega)
        have hr := bt_range s (i : Int)
        have wb : wrap64 (bt s (i : Int)) = bt s (i : Int) := w64 (by omega) (by omega)
        refine Ev.step (fun k => by rw [spec_ParseNum.l0]) ?_
        simp only [c1, if_true, c2, decide_true]
        refine Ev.step (fun k => by rw [spec_ParseNum.j1]) ?_
        simp only [c0, c1, if_true, spec_l1In_eqP, Option.bind_some, wb]
        by_cases q : 48 ≤ bt s (i : Int) ∧ bt s (i : Int) ≤ 57
        · have q1 : ¬ bt s (i : Int) < 48 := by omega
          have q2 : ¬ bt s (i : Int) > 57 := by omega
          have next := ih (i + 1) (by omega) (v * 10 + ((s.toList.getD i 0).toNat - 48)) (by rw [Nat.pow_succ]; omega)
          rw [← h3] at next
          simp only [q.1, q.2, decide_true, Bool.and_self, if_true, h1 ⟨q1, q2⟩, hw, h2, q1, q2, decide_false, Bool.not_false, Bool.true_and]
          exact next
        · have q' : (decide (48 ≤ bt s (i : Int)) && decide (bt s (i : Int) ≤ 57)) = false := by
            cases x : (decide (48 ≤ bt s (i : Int)) && decide (bt s (i : Int) ≤ 57)) with
            | false => rfl
            | true =>
              simp only [Bool.and_eq_true, decide_eq_true_eq] at x
              exact absurd x q
          have q2 : (!decide (bt s (i : Int) < 48) && !decide (bt s (i : Int) > 57)) = false := by
            cases x : (!decide (bt s (i : Int) < 48) && !decide (bt s (i : Int) > 57)) with
            | false => rfl
            | true =>
              simp only [Bool.and_eq_true, Bool.not_eq_true', decide_eq_false_iff_not] at x
              exact absurd ⟨by omega, by omega⟩ q
          simp only [q', Bool.false_eq_true, if_false, h2, q2, Bool.false_and]
          exact Ev.now _
    have := key s.size 0 (by omega) 0 (by simp)
    rw [List.drop_zero] at this
    have e : (if digL s.toList = true then (if (s.toList.length = 1 ∨ s.toList.head? ≠ some 48) ∧ valN 0 s.toList ≤ 2147483647 then (((valN 0 s.toList : Nat) : Int), true) else (0, false)) else (0, false)) = parseS s := by
      unfold parseS
      by_cases hd : digL s.toList = true
      · rw [if_pos hd]
        by_cases q : (s.toList.length = 1 ∨ s.toList.head? ≠ some 48) ∧ valN 0 s.toList ≤ 2147483647
        · rw [if_pos q, if_pos ⟨by omega, by omega, hd, q.1, q.2⟩]
        · rw [if_neg q, if_neg fun h => q ⟨h.2.2.2.1, h.2.2.2.2⟩]
      · rw [if_neg hd, if_neg fun h => hd h.2.2.1]
    rw [e] at this
    exact this
  · have e : parseS s = (0, false) := by
      unfold parseS
      rw [if_neg fun h => c ⟨by omega, by omega⟩]
    rw [e]
    have c' : (decide ((1 : Int) ≤ (s.size : Int)) && decide ((s.size : Int) ≤ 10)) = false := by
      cases q : (decide ((1 : Int) ≤ (s.size : Int)) && decide ((s.size : Int) ≤ 10)) with
      | false => rfl
      | true =>
        simp only [Bool.and_eq_true, decide_eq_true_eq] at q
        exact absurd ⟨by omega, by omega⟩ c
    have stop : ∀ (x y : Int), Ev (fun k => spec_ParseNum.j1 k s x y false) (0, false) := fun x y => by
      refine Ev.step (fun k => by rw [spec_ParseNum.j1]) ?_
      simp only [Bool.false_eq_true, if_false, spec_l1In_eqP, c', Option.bind_some]
      exact Ev.now _
    have key : ∀ d i : Nat, i + d = 11 → ∀ v : Nat, v < 10 ^ i → Ev (fun k => spec_ParseNum.l0 k s (v : Int) (i : Int)) (0, false) := by
      intro d
      induction d with
      | zero =>
        intro i hi v hv
        have c2 : ¬ (i : Int) < 11 := by omega
        refine Ev.step (fun k => by rw [spec_ParseNum.l0]) ?_
        by_cases c1 : (i : Int) < (s.size : Int)
        · simp only [c1, if_true, c2, decide_false]
          exact stop _ _
        · simp only [c1, if_false]
          exact stop _ _
      | succ d ih =>
        intro i hi v hv
        have hp := pow_le i (by omega)
        refine Ev.step (fun k => by rw [spec_ParseNum.l0]) ?_
        by_cases c1 : (i : Int) < (s.size : Int)
        · have c0 : (0 : Int) ≤ (i : Int) := by omega
          have c2 : (i : Int) < 11 := by omega
          have hw : wrap64 ((i : Int) + 1) = ((i + 1 : Nat) : Int) := by rw [w64 (by omega) (by omega)]; omega
          obtain ⟨h1, _, _⟩ := lst_step (s := s) (i := i) (by omega) v (by omega)
          have hb := bt_list s i (by omega)
          have hr := bt_range s (i : Int)
          have wb : wrap64 (bt s (i : Int)) = bt s (i : Int) := w64 (by omega) (by omega)
          simp only [c1, if_true, c2, decide_true]
          refine Ev.step (fun k => by rw [spec_ParseNum.j1]) ?_
          simp only [c0, c1, if_true, spec_l1In_eqP, Option.bind_some, wb]
          by_cases q : 48 ≤ bt s (i : Int) ∧ bt s (i : Int) ≤ 57
          · simp only [q.1, q.2, decide_true, Bool.and_self, if_true, h1 ⟨by omega, by omega⟩, hw]
            exact ih (i + 1) (by omega) _ (by rw [Nat.pow_succ]; omega)
          · have q' : (decide (48 ≤ bt s (i : Int)) && decide (bt s (i : Int) ≤ 57)) = false := by
              cases x : (decide (48 ≤ bt s (i : Int)) && decide (bt s (i : Int) ≤ 57)) with
              | false => rfl
              | true =>
                simp only [Bool.and_eq_true, decide_eq_true_eq] at x
                exact absurd x q
            simp only [q', Bool.false_eq_true, if_false]
            exact Ev.now _
        · simp only [c1, if_false]
          exact stop _ _
    exact key 11 0 (by omega) 0 (by simp)
theorem nDigits_le : ∀ (k u : Nat), 1 ≤ k → u < 10 ^ k → nDigits u ≤ k
  | 0, _, h, _ => by omega
  | k + 1, u, _, h => by
    by_cases c : u < 10
    · rw [nDigits_small c]
      omega
    · rw [nDigits_big c]
      by_cases hk : k = 0
      · subst hk
        simp at h
        omega
      · have := nDigits_le k (u / 10) (by omega) (by rw [Nat.pow_succ] at h; omega)
        omega
theorem dec_len (v : Nat) (h : v < 10000000000) : 1 ≤ (decDigits v).length ∧ (decDigits v).length ≤ 10 := by
  rw [decDigits_length]
  exact ⟨nDigits_pos v, nDigits_le 10 v (by omega) h⟩
theorem parse_num (v : Nat) (h : v ≤ 2147483647) : parseS (numS (v : Int)) = ((v : Int), true) := by
  have hb := dec_back v
  have hl := dec_len v (by omega)
  unfold parseS
  have hh : (decDigits v).length = 1 ∨ (decDigits v).head? ≠ some 48 := by
    by_cases hv : v < 10
    · left
      rw [decDigits_one hv]
      rfl
    · exact .inr (dec_head v (by omega))
  rw [numS_nat, if_pos ⟨hl.1, hl.2, hb.2, hh, by rw [hb.1]; exact h⟩, hb.1]
theorem num_parse {s : ByteArray} {v : Int} (h : parseS s = (v, true)) : ∃ n : Nat, v = (n : Int) ∧ (numS v).toList = s.toList ∧ n ≤ 2147483647 := by
  unfold parseS at h
  split at h
  · rename_i c
    have hv : ((valN 0 s.toList : Nat) : Int) = v := congrArg Prod.fst h
    refine ⟨valN 0 s.toList, hv.symm, ?_, c.2.2.2.2⟩
    rw [← hv, numS_nat]
    exact (num_iff c.2.2.1 c.1).2 c.2.2.2.1
  · cases congrArg Prod.snd h
/-! ### signs as text -/
def txtS (x : S47) : ByteArray := if x.f0 = 2 then numS x.f2 else x.f1
def sumT : List S47 → Nat
  | [] => 0
  | x :: xs => (txtS x).size + 1 + sumT xs
theorem toList_app (a b : ByteArray) : (a ++ b).toList = a.toList ++ b.toList := by
  rw [Lem.toList_data, Lem.toList_data, Lem.toList_data, ByteArray.data_append]
  simp
theorem size_app (a b : ByteArray) : (a ++ b).size = a.size + b.size := ByteArray.size_append
def tailT (l : List (List UInt8)) : List UInt8 := (l.map ([32] ++ ·)).flatten
theorem spec_TokText_l0 (l : List S47) (hl : l.length ≤ maxLen) (hx : ∀ x ∈ l, -9223372036854775808 ≤ x.f2 ∧ x.f2 ≤ 9223372036854775807) :
    ∀ d i, i + d = l.length → 1 ≤ i → ∀ s : ByteArray, s.size + sumT (l.drop i) ≤ 4611686018427387904 → ∃ r, Ev (fun k => spec_TokText.l0 k l s (i : Int)) r ∧ r.toList = s.toList ++ tailT ((l.drop i).map fun x => (txtS x).toList) := by
  intro d
  induction d with
  | zero =>
    intro i hi _ s _
    have c : ¬ (i : Int) < (l.length : Int) := by omega
    refine ⟨s, Ev.step (fun k => by rw [spec_TokText.l0]) ?_, ?_⟩
    · simp only [c, if_false]
      exact Ev.now _
    · rw [List.drop_eq_nil_of_le (by omega)]
      simp [tailT]
  | succ d ih =>
    intro i hi h1 s hs
    have c : (i : Int) < (l.length : Int) := by omega
    have c0 : (0 : Int) ≤ (i : Int) := by omega
    have cp : (i : Int) > 0 := by omega
    have hw : wrap64 ((i : Int) + 1) = ((i + 1 : Nat) : Int) := wi (n := l.length) (by omega) hl
    have hd : l.drop i = rd_T47 l (i : Int) :: l.drop (i + 1) := drop_cons l _ (by omega)
    have hb := hx _ (show rd_T47 l (i : Int) ∈ l from getD_mem l _ (by omega))
    rw [hd] at hs ⊢
    simp only [sumT] at hs
    have s1 : (⟨#[32]⟩ : ByteArray).size = 1 := rfl
    have c1 : s.size + 1 ≤ 9223372036854775807 := by omega
    have c2 : (s ++ (⟨#[32]⟩ : ByteArray)).size + (txtS (rd_T47 l (i : Int))).size ≤ 9223372036854775807 := by
      rw [size_app, s1]
      omega
    obtain ⟨r, E, e⟩ := ih (i + 1) (by omega) (by omega) ((s ++ (⟨#[32]⟩ : ByteArray)) ++ txtS (rd_T47 l (i : Int))) (by
      rw [size_app, size_app, s1]
      omega)
    refine ⟨r, Ev.step (fun k => by rw [spec_TokText.l0]) ?_, ?_⟩
    · by_cases k2 : (rd_T47 l (i : Int)).f0 = 2
      · have et : txtS (rd_T47 l (i : Int)) = numS (rd_T47 l (i : Int)).f2 := by
          unfold txtS
          rw [if_pos k2]
        rw [et] at E c2
        simp only [c, c0, cp, c1, k2, if_true, hw]
        refine Ev.then (spec_NumText_ev _ hb.1 hb.2) ?_
        simp only [c2, if_true]
        exact E
      · have et : txtS (rd_T47 l (i : Int)) = (rd_T47 l (i : Int)).f1 := by
          unfold txtS
          rw [if_neg k2]
        rw [et] at E c2
        simp only [c, c0, cp, c1, k2, if_true, if_false, c2, hw]
        exact E
    · rw [e, toList_app, toList_app]
      have : (⟨#[32]⟩ : ByteArray).toList = [32] := by rw [Lem.toList_data]
      rw [this]
      simp [tailT]
theorem join_tail (x : List UInt8) : ∀ (r : List (List UInt8)), Go.Lib.join (x :: r) [32] = x ++ tailT r := by
  intro r
  induction r generalizing x with
  | nil => simp [Go.Lib.join, tailT, List.intercalate]
  | cons y ys ih =>
    have := ih y
    simp only [Go.Lib.join, List.intercalate, List.intersperse, tailT, List.flatten_cons, List.map_cons] at this ⊢
    rw [this]
    simp
theorem spec_TokText_ev (l : List S47) (hl : l.length ≤ maxLen) (hx : ∀ x ∈ l, -9223372036854775808 ≤ x.f2 ∧ x.f2 ≤ 9223372036854775807) (hs : sumT l ≤ 4611686018427387904) :
    ∃ r, Ev (fun k => spec_TokText.f k l) r ∧ r.toList = Go.Lib.join (l.map fun x => (txtS x).toList) [32] := by
  unfold spec_TokText.f
  cases hc : l with
  | nil =>
    refine ⟨(⟨#[]⟩ : ByteArray), Ev.step (fun k => by rw [spec_TokText.l0]) ?_, ?_⟩
    · simp only [List.length_nil, show ¬ (0 : Int) < ((0 : Nat) : Int) by omega, if_false]
      exact Ev.now _
    · rw [Lem.toList_data]
      rfl
  | cons a t =>
    have e0 : rd_T47 l 0 = a := by rw [hc]; rfl
    have ha := hx a (by rw [hc]; exact List.mem_cons_self)
    rw [hc] at hs
    simp only [sumT] at hs
    have hdr : l.drop 1 = t := by rw [hc]; rfl
    obtain ⟨r, E, e⟩ := spec_TokText_l0 l hl hx (l.length - 1) 1 (by rw [hc]; simp only [List.length_cons]; omega) (by omega) ((⟨#[]⟩ : ByteArray) ++ txtS a) (by
      have z : (⟨#[]⟩ : ByteArray).size = 0 := rfl
      rw [size_app, hdr, z]
      omega)
    rw [hdr] at e
    have c : (0 : Int) < (l.length : Int) := by rw [hc]; simp
    have hw : wrap64 ((0 : Int) + 1) = ((1 : Nat) : Int) := w64 (by omega) (by omega)
    have z : (⟨#[]⟩ : ByteArray).size = 0 := rfl
    have c2 : (⟨#[]⟩ : ByteArray).size + (txtS a).size ≤ 9223372036854775807 := by omega
    rw [← hc]
    refine ⟨r, Ev.step (fun k => by rw [spec_TokText.l0]) ?_, ?_⟩
    · by_cases k2 : a.f0 = 2
      · have et : txtS a = numS a.f2 := by
          unfold txtS
          rw [if_pos k2]
        rw [et] at E c2
        simp only [c, e0, k2, if_true, show ¬ (0 : Int) > 0 by omega, if_false, Int.le_refl, hw]
        refine Ev.then (spec_NumText_ev _ ha.1 ha.2) ?_
        simp only [c2, if_true]
        exact E
      · have et : txtS a = a.f1 := by
          unfold txtS
          rw [if_neg k2]
        rw [et] at E c2
        simp only [c, e0, k2, if_true, show ¬ (0 : Int) > 0 by omega, if_false, Int.le_refl, hw, c2]
        exact E
    · rw [e, hc, List.map_cons, join_tail, toList_app]
      have : (⟨#[]⟩ : ByteArray).toList = [] := by rw [Lem.toList_data]
      rw [this, List.nil_append]
theorem tailT_len : ∀ (l : List S47), (tailT (l.map fun x => (txtS x).toList)).length = sumT l
  | [] => by simp [tailT, sumT]
  | x :: xs => by
    have ih := tailT_len xs
    unfold tailT at ih ⊢
    simp only [List.map_cons, List.flatten_cons, List.length_append, List.length_cons, List.length_nil, ih, sumT, len_size]
    omega
theorem join_len (l : List S47) : (Go.Lib.join (l.map fun x => (txtS x).toList) [32]).length ≤ sumT l := by
  cases l with
  | nil => simp [Go.Lib.join, List.intercalate, sumT]
  | cons x xs =>
    rw [List.map_cons, join_tail, List.length_append, tailT_len, len_size]
    simp only [sumT]
    omega
theorem impl_TokText_ev (l : List S47) (hl : l.length ≤ 4000000) (hx : ∀ x ∈ l, -9223372036854775808 ≤ x.f2 ∧ x.f2 ≤ 9223372036854775807) (hs : sumT l ≤ 140737488355328) :
    ∃ r, Ev (fun k => impl_TokText.f k l) r ∧ r.toList = Go.Lib.join (l.map fun x => (txtS x).toList) [32] := by
  unfold impl_TokText.f
  have key : ∀ d i, i + d = l.length → ∀ acc : List ByteArray, acc.length ≤ i → acc ++ (l.drop i).map txtS = l.map txtS → Ev (fun k => impl_TokText.l0 k acc l (l.length : Int) (i : Int)) (⟨(Go.Lib.join (l.map fun x => (txtS x).toList) [32]).toArray⟩ : ByteArray) := by
    intro d
    induction d with
    | zero =>
      intro i hi acc hac e
      have c : ¬ (i : Int) < (l.length : Int) := by omega
      refine Ev.step (fun k => by rw [impl_TokText.l0]) ?_
      simp only [c, if_false]
      rw [List.drop_eq_nil_of_le (by omega), List.map_nil, List.append_nil] at e
      have em : (acc.map fun x => x.data.toList) = l.map fun x => (txtS x).toList := by
        rw [e, List.map_map]
        apply List.map_congr_left
        intro x _
        exact (Lem.toList_data _).symm
      have e32 : (⟨#[32]⟩ : ByteArray).data.toList = [32] := rfl
      have hj := join_len l
      have la : acc.length ≤ 140737488355328 := by omega
      have lj : (Go.Lib.join (l.map fun x => (txtS x).toList) [32]).length ≤ 140737488355328 := by omega
      unfold strings_Join.f
      simp only [em, e32, lj, la, if_true, Option.bind_some]
      exact Ev.now _
    | succ d ih =>
      intro i hi acc hac e
      have c : (i : Int) < (l.length : Int) := by omega
      have c0 : (0 : Int) ≤ (i : Int) := by omega
      have c1 : acc.length < 8796093022208 := by omega
      have hw : wrap64 ((i : Int) + 1) = ((i + 1 : Nat) : Int) := wi (n := l.length) (by omega) (by simp only [maxLen]; omega)
      have hd : l.drop i = rd_T47 l (i : Int) :: l.drop (i + 1) := drop_cons l _ (by omega)
      have hb := hx _ (show rd_T47 l (i : Int) ∈ l from getD_mem l _ (by omega))
      have next := ih (i + 1) (by omega) (acc ++ [txtS (rd_T47 l (i : Int))]) (by simp; omega) (by
        rw [← e, hd]
        simp)
      refine Ev.step (fun k => by rw [impl_TokText.l0]) ?_
      by_cases k2 : (rd_T47 l (i : Int)).f0 = 2
      · have et : txtS (rd_T47 l (i : Int)) = numS (rd_T47 l (i : Int)).f2 := by
          unfold txtS
          rw [if_pos k2]
        rw [et] at next
        simp only [c, c0, c1, k2, if_true, hw, impl_NumText_eq _ hb.1 hb.2, Option.bind_some]
        exact next
      · have et : txtS (rd_T47 l (i : Int)) = (rd_T47 l (i : Int)).f1 := by
          unfold txtS
          rw [if_neg k2]
        rw [et] at next
        simp only [c, c0, c1, k2, if_true, if_false, hw]
        exact next
  exact ⟨_, key l.length 0 (by omega) [] (by simp) (by simp), toList_mk _⟩
theorem num_size (n : Int) (h0 : -9223372036854775808 ≤ n) (h1 : n ≤ 9223372036854775807) : (numS n).size ≤ 21 := by
  have p : (10 : Nat) ^ 19 = 10000000000000000000 := by decide
  rw [← len_size]
  unfold numS itoa
  rw [toList_mk]
  have d : ∀ m : Nat, m ≤ 9223372036854775808 → (decDigits m).length ≤ 19 := fun m hm => by
    rw [decDigits_length]
    exact nDigits_le 19 m (by omega) (by omega)
  split
  · have := d n.natAbs (by omega)
    simp only [List.length_cons]
    omega
  · have := d n.toNat (by omega)
    omega
/-! ### signs -/
def isL (b : Int) : Bool := decide (97 ≤ b) && decide (b ≤ 122)
def isD (b : Int) : Bool := decide (48 ≤ b) && decide (b ≤ 57)
/-- How many bytes in a row are such ones, from a place on, at most so many. -/
def runN (p : Int → Bool) (s : ByteArray) : Nat → Nat → Nat
  | 0, _ => 0
  | d + 1, i => if p (bt s (i : Int)) = true then runN p s d (i + 1) + 1 else 0
theorem runN_le (p : Int → Bool) (s : ByteArray) : ∀ d i, runN p s d i ≤ d
  | 0, _ => Nat.le_refl _
  | d + 1, i => by
    have := runN_le p s d (i + 1)
    unfold runN
    split <;> omega
theorem bt_sub (s : ByteArray) (a j : Nat) (h : a + j < s.size) : bt (s.extract a s.size) (j : Int) = bt s ((a + j : Nat) : Int) := by
  have h1 : j < (s.extract a s.size).size := by
    rw [ByteArray.size_extract]
    omega
  unfold bt
  rw [dif_pos (show (j : Int).toNat < (s.extract a s.size).size by simpa using h1), dif_pos (show ((a + j : Nat) : Int).toNat < s.size by rw [Int.toNat_natCast]; exact h)]
  simp only [Int.toNat_natCast]
  rw [ByteArray.getElem_extract]
theorem runN_sub (p : Int → Bool) (s : ByteArray) (a : Nat) : ∀ d j, a + j + d = s.size → runN p (s.extract a s.size) d j = runN p s d (a + j)
  | 0, _, _ => rfl
  | d + 1, j, h => by
    unfold runN
    rw [bt_sub s a j (by omega), runN_sub p s a d (j + 1) (by omega)]
    rfl
theorem runL_ev (s : ByteArray) (hs : s.size ≤ maxLen) : Ev (fun k => impl_runOf50.f k s) (s.extract 0 (runN isL s s.size 0)) := by
  unfold impl_runOf50.f
  have key : ∀ d i, i + d = s.size → Ev (fun k => impl_runOf50.l0 k s (i : Int)) (s.extract 0 (i + runN isL s d i)) := by
    intro d
    induction d with
    | zero =>
      intro i hi
      have c : ¬ (i : Int) < (s.size : Int) := by omega
      have c0 : (0 : Int) ≤ (i : Int) := by omega
      have c2 : (i : Int) ≤ (s.size : Int) := by omega
      refine Ev.step (fun k => by rw [impl_runOf50.l0]) ?_
      simp only [c, c0, c2, if_true, if_false, Int.toNat_natCast, runN, Nat.add_zero]
      exact Ev.now _
    | succ d ih =>
      intro i hi
      have c : (i : Int) < (s.size : Int) := by omega
      have c0 : (0 : Int) ≤ (i : Int) := by omega
      have c2 : (i : Int) ≤ (s.size : Int) := by omega
      have hw : wrap64 ((i : Int) + 1) = ((i + 1 : Nat) : Int) := wi (n := s.size) (by omega) hs
      refine Ev.step (fun k => by rw [impl_runOf50.l0]) ?_
      have eL : impl_isLetter.f (bt s (i : Int)) = some (isL (bt s (i : Int))) := impl_isLetter_eq _
      simp only [c, c0, c2, if_true, eL, Option.bind_some, hw, runN]
      cases isL (bt s (i : Int)) with
      | true =>
        simp only [if_true]
        have := ih (i + 1) (by omega)
        rwa [show i + 1 + runN isL s d (i + 1) = i + (runN isL s d (i + 1) + 1) by omega] at this
      | false =>
        simp only [Bool.false_eq_true, if_false, Int.toNat_natCast, Nat.add_zero]
        exact Ev.now _
  have := key s.size 0 (by omega)
  rwa [Nat.zero_add] at this
theorem fig_eq (b : Int) : impl_runOfFig.f b = some (isD b) := by
  unfold impl_runOfFig.f isD
  by_cases h : b ≥ 48
  · have h' : 48 ≤ b := h
    simp [h']
  · have h' : ¬ 48 ≤ b := h
    simp [h']
theorem runD_ev (s : ByteArray) (hs : s.size ≤ maxLen) : Ev (fun k => impl_runOf63.f k s) (s.extract 0 (runN isD s s.size 0)) := by
  unfold impl_runOf63.f
  have key : ∀ d i, i + d = s.size → Ev (fun k => impl_runOf63.l0 k s (i : Int)) (s.extract 0 (i + runN isD s d i)) := by
    intro d
    induction d with
    | zero =>
      intro i hi
      have c : ¬ (i : Int) < (s.size : Int) := by omega
      have c0 : (0 : Int) ≤ (i : Int) := by omega
      have c2 : (i : Int) ≤ (s.size : Int) := by omega
      refine Ev.step (fun k => by rw [impl_runOf63.l0]) ?_
      simp only [c, c0, c2, if_true, if_false, Int.toNat_natCast, runN, Nat.add_zero]
      exact Ev.now _
    | succ d ih =>
      intro i hi
      have c : (i : Int) < (s.size : Int) := by omega
      have c0 : (0 : Int) ≤ (i : Int) := by omega
      have c2 : (i : Int) ≤ (s.size : Int) := by omega
      have hw : wrap64 ((i : Int) + 1) = ((i + 1 : Nat) : Int) := wi (n := s.size) (by omega) hs
      refine Ev.step (fun k => by rw [impl_runOf63.l0]) ?_
      simp only [c, c0, c2, if_true, fig_eq, Option.bind_some, hw, runN]
      cases isD (bt s (i : Int)) with
      | true =>
        simp only [if_true]
        have := ih (i + 1) (by omega)
        rwa [show i + 1 + runN isD s d (i + 1) = i + (runN isD s d (i + 1) + 1) by omega] at this
      | false =>
        simp only [Bool.false_eq_true, if_false, Int.toNat_natCast, Nat.add_zero]
        exact Ev.now _
  have := key s.size 0 (by omega)
  rwa [Nat.zero_add] at this
def marksL : List UInt8 := [59, 61, 91, 93, 40, 41, 123, 125, 43, 45, 42, 44]
def markS (x : ByteArray) : Bool := marksL.any fun m => m == x.data.toList.getD 0 0
theorem mark_fin : ∀ n : Fin 256, (decide (0 ≤ Go.Lib.indexByte [59, 61, 91, 93, 40, 41, 123, 125, 43, 45, 42, 44] (UInt8.ofNat n.val))) = marksL.any (fun m => m == UInt8.ofNat n.val) := by decide +kernel
theorem mark_impl (c : UInt8) : (decide (0 ≤ Go.Lib.indexByte [59, 61, 91, 93, 40, 41, 123, 125, 43, 45, 42, 44] c)) = marksL.any (fun m => m == c) := by
  have := mark_fin ⟨c.toNat, UInt8.toNat_lt c⟩
  simpa using this
theorem one_byte {x : ByteArray} (h : x.size = 1) : ∃ c, x = (⟨#[c]⟩ : ByteArray) := by
  obtain ⟨⟨l⟩⟩ := x
  have hl : l.length = 1 := by simpa [ByteArray.size] using h
  match l, hl with
  | [c], _ => exact ⟨c, rfl⟩
/-- What stands at a place: kind, text, number, how many bytes, whether it is right. -/
def tokR (s : ByteArray) (a : Nat) : Int × ByteArray × Int × Int × Bool :=
  if runN isL s (s.size - a) a ≠ 0 then
    (if keptS (s.extract a (a + runN isL s (s.size - a) a)) = true then (3, s.extract a (a + runN isL s (s.size - a) a), 0, (runN isL s (s.size - a) a : Nat), true) else (1, s.extract a (a + runN isL s (s.size - a) a), 0, (runN isL s (s.size - a) a : Nat), nameS (s.extract a (a + runN isL s (s.size - a) a))))
  else if runN isD s (s.size - a) a ≠ 0 then
    (2, (⟨#[]⟩ : ByteArray), (parseS (s.extract a (a + runN isD s (s.size - a) a))).1, (runN isD s (s.size - a) a : Nat), (parseS (s.extract a (a + runN isD s (s.size - a) a))).2 && decide ((parseS (s.extract a (a + runN isD s (s.size - a) a))).1 ≤ 999999))
  else (4, s.extract a (a + 1), 0, 1, markS (s.extract a (a + 1)))
theorem ext_nil (s : ByteArray) (a n : Nat) (h : a + n ≤ s.size) : (s.extract a (a + n)).toList = ([] : List UInt8) ↔ n = 0 := by
  have hs : (s.extract a (a + n)).toList.length = n := by
    rw [len_size, ByteArray.size_extract]
    omega
  constructor
  · intro e
    rw [e] at hs
    exact hs.symm
  · intro e
    exact List.eq_nil_of_length_eq_zero (hs.trans e)
theorem impl_tokOf_ev (s : ByteArray) (a : Nat) (ha : a < s.size) (hs : s.size ≤ maxLen) : Ev (fun k => impl_tokOf.f k (s.extract a s.size)) (tokR s a) := by
  have sz : (s.extract a s.size).size = s.size - a := by
    rw [ByteArray.size_extract]
    omega
  have sub : ∀ n, n ≤ s.size - a → (s.extract a s.size).extract 0 n = s.extract a (a + n) := fun n hn => by
    rw [ByteArray.extract_extract, Nat.add_zero, Nat.min_eq_left (by omega)]
  have zs : ∀ n, n ≤ s.size - a → (s.extract a (a + n)).size = n := fun n hn => by
    rw [ByteArray.size_extract]
    omega
  have nl := runN_le isL s (s.size - a) a
  have nd := runN_le isD s (s.size - a) a
  have E1 := runL_ev (s.extract a s.size) (by omega)
  have E2 := runD_ev (s.extract a s.size) (by omega)
  rw [sz, runN_sub isL s a (s.size - a) 0 (by omega), Nat.add_zero, sub _ nl] at E1
  rw [sz, runN_sub isD s a (s.size - a) 0 (by omega), Nat.add_zero, sub _ nd] at E2
  unfold impl_tokOf.f impl_runOf.f tokR
  simp only [if_true, show ¬ (63 : Int) = 50 by omega, if_false]
  generalize runN isL s (s.size - a) a = n at *
  generalize runN isD s (s.size - a) a = m at *
  refine Ev.then E1 ?_
  by_cases c : n = 0
  · have e1 := (ext_nil s a n (by omega)).2 c
    rw [if_neg (show ¬ n ≠ 0 by omega)]
    simp only [e1, if_true]
    refine Ev.then E2 ?_
    by_cases c2 : m = 0
    · have e2 := (ext_nil s a m (by omega)).2 c2
      have i1 : (0 : Int) ≤ 1 := by omega
      have i2 : (1 : Int) ≤ ((s.extract a s.size).size : Int) := by omega
      rw [if_neg (show ¬ m ≠ 0 by omega)]
      simp only [e2, if_true, i1, i2]
      rw [sub 1 (by omega)]
      have s1 := zs 1 (by omega)
      unfold strings_Contains.f
      simp only [s1, if_true, Option.bind_some]
      have em : (decide (0 ≤ Go.Lib.indexByte ((⟨#[59, 61, 91, 93, 40, 41, 123, 125, 43, 45, 42, 44]⟩ : ByteArray).data.toList) ((s.extract a (a + 1)).data.toList.getD 0 0))) = markS (s.extract a (a + 1)) := mark_impl _
      rw [em]
      exact Ev.now _
    · have e2 : ¬ (s.extract a (a + m)).toList = ([] : List UInt8) := fun e => c2 ((ext_nil s a m (by omega)).1 e)
      rw [if_pos (show m ≠ 0 from c2)]
      simp only [e2, if_false]
      refine Ev.then (impl_ParseNum_ev _) ?_
      rw [zs m nd]
      cases hp : (parseS (s.extract a (a + m))).2 with
      | true =>
        simp only [if_true, Bool.true_and]
        exact Ev.now _
      | false =>
        simp only [Bool.false_eq_true, if_false, Bool.false_and]
        exact Ev.now _
  · have e1 : ¬ (s.extract a (a + n)).toList = ([] : List UInt8) := fun e => c ((ext_nil s a n (by omega)).1 e)
    rw [if_pos (show n ≠ 0 from c)]
    simp only [e1, if_false, impl_isKept_eq, Option.bind_some]
    rw [zs n nl]
    cases keptS (s.extract a (a + n)) with
    | true =>
      simp only [if_true]
      exact Ev.now _
    | false =>
      simp only [Bool.false_eq_true, if_false]
      exact Ev.then (impl_NameOk_ev _ (by rw [zs n nl]; omega)) (Ev.now _)
theorem spec_digit_eq (a : Int) (h0 : 0 ≤ a) (h1 : a ≤ 255) : spec_l2Digit.f a = some (isD a) := by
  unfold spec_l2Digit.f isD
  rw [w64 (by omega) (by omega), spec_l1In_eqP]
  rfl
/-- What the reference's next sign is. -/
def nextR (t : Int × ByteArray × Int × Int × Bool) (a : Nat) : Int × ByteArray × Int × Int :=
  if t.2.2.2.2 = true then (t.1, t.2.1, t.2.2.1, (a : Int) + t.2.2.2.1) else (0, (⟨#[]⟩ : ByteArray), 0, (a : Int) + t.2.2.2.1)
theorem spec_l2Next_ev (s : ByteArray) (a : Nat) (ha : a < s.size) (hs : s.size ≤ maxLen) (hz : s.size ≤ 140737488351232) : Ev (fun k => spec_l2Next.f k s (a : Int)) (nextR (tokR s a) a) := by
  have hs' := hs
  simp only [maxLen] at hs'
  have a0 : (0 : Int) ≤ (a : Int) := by omega
  have a1 : (a : Int) < (s.size : Int) := by omega
  have zs : ∀ n, n ≤ s.size - a → (s.extract a (a + n)).size = n := fun n hn => by
    rw [ByteArray.size_extract]
    omega
  have nl := runN_le isL s (s.size - a) a
  have nd := runN_le isD s (s.size - a) a
  obtain ⟨e, he⟩ : ∃ e, s.size - a = e + 1 := ⟨s.size - a - 1, by omega⟩
  have hr := bt_range s (a : Int)
  have eS : spec_l2Small.f (bt s (a : Int)) = some (isL (bt s (a : Int))) := spec_l2Small_eq _ hr.1 hr.2
  have eD := spec_digit_eq (bt s (a : Int)) hr.1 hr.2
  have un : ∀ p, runN p s (s.size - a) a = if p (bt s (a : Int)) = true then runN p s e (a + 1) + 1 else 0 := fun p => by
    rw [he]
    rfl
  have loopL : ∀ d i, i + d = s.size → ∀ R, Ev (fun k => spec_l2Next.j1 k s (a : Int) ((i + runN isL s d i : Nat) : Int)) R → Ev (fun k => spec_l2Next.l0 k s (a : Int) (i : Int)) R := by
    intro d
    induction d with
    | zero =>
      intro i hi R hR
      have c : ¬ (i : Int) < (s.size : Int) := by omega
      refine Ev.step (fun k => by rw [spec_l2Next.l0]) ?_
      simp only [c, if_false]
      exact hR
    | succ d ih =>
      intro i hi R hR
      have c : (i : Int) < (s.size : Int) := by omega
      have c0 : (0 : Int) ≤ (i : Int) := by omega
      have hw : wrap64 ((i : Int) + 1) = ((i + 1 : Nat) : Int) := wi (n := s.size) (by omega) hs
      have hr := bt_range s (i : Int)
      have eS : spec_l2Small.f (bt s (i : Int)) = some (isL (bt s (i : Int))) := spec_l2Small_eq _ hr.1 hr.2
      refine Ev.step (fun k => by rw [spec_l2Next.l0]) ?_
      simp only [c, c0, if_true, eS, Option.bind_some, hw]
      unfold runN at hR
      cases hp : isL (bt s (i : Int)) with
      | true =>
        rw [if_pos hp, show i + (runN isL s d (i + 1) + 1) = i + 1 + runN isL s d (i + 1) by omega] at hR
        simp only [if_true]
        exact ih (i + 1) (by omega) R hR
      | false =>
        rw [if_neg (by rw [hp]; simp), Nat.add_zero] at hR
        simp only [Bool.false_eq_true, if_false]
        exact hR
  have loopD : ∀ d i, i + d = s.size → ∀ R, Ev (fun k => spec_l2Next.j3 k s (a : Int) ((i + runN isD s d i : Nat) : Int)) R → Ev (fun k => spec_l2Next.l1 k s (a : Int) (i : Int)) R := by
    intro d
    induction d with
    | zero =>
      intro i hi R hR
      have c : ¬ (i : Int) < (s.size : Int) := by omega
      refine Ev.step (fun k => by rw [spec_l2Next.l1]) ?_
      simp only [c, if_false]
      exact hR
    | succ d ih =>
      intro i hi R hR
      have c : (i : Int) < (s.size : Int) := by omega
      have c0 : (0 : Int) ≤ (i : Int) := by omega
      have hw : wrap64 ((i : Int) + 1) = ((i + 1 : Nat) : Int) := wi (n := s.size) (by omega) hs
      have hr := bt_range s (i : Int)
      have eD := spec_digit_eq (bt s (i : Int)) hr.1 hr.2
      refine Ev.step (fun k => by rw [spec_l2Next.l1]) ?_
      simp only [c, c0, if_true, eD, Option.bind_some, hw]
      unfold runN at hR
      cases hp : isD (bt s (i : Int)) with
      | true =>
        rw [if_pos hp, show i + (runN isD s d (i + 1) + 1) = i + 1 + runN isD s d (i + 1) by omega] at hR
        simp only [if_true]
        exact ih (i + 1) (by omega) R hR
      | false =>
        rw [if_neg (by rw [hp]; simp), Nat.add_zero] at hR
        simp only [Bool.false_eq_true, if_false]
        exact hR
  unfold spec_l2Next.f
  simp only [a0, a1, if_true, eS, Option.bind_some]
  cases hL : isL (bt s (a : Int)) with
  | true =>
    simp only [if_true]
    have hn := un isL
    rw [if_pos hL] at hn
    refine loopL (s.size - a) a (by omega) _ ?_
    unfold tokR
    have c : runN isL s (s.size - a) a ≠ 0 := by omega
    rw [if_pos c]
    generalize runN isL s (s.size - a) a = n at *
    have i1 : (a : Int) ≤ ((a + n : Nat) : Int) := by omega
    have i2 : ((a + n : Nat) : Int) ≤ (s.size : Int) := by omega
    have i3 : ((a + n : Nat) : Int) = (a : Int) + (n : Int) := by omega
    refine Ev.step (fun k => by rw [spec_l2Next.j1]) ?_
    simp only [a0, i1, i2, if_true, Int.toNat_natCast]
    refine Ev.then (spec_l2Kept_ev _) ?_
    cases keptS (s.extract a (a + n)) with
    | true =>
      simp only [if_true, nextR, i3]
      exact Ev.now _
    | false =>
      simp only [Bool.false_eq_true, if_false]
      refine Ev.then (spec_NameOk_ev _ (by rw [zs n nl]; omega)) ?_
      cases nameS (s.extract a (a + n)) with
      | true =>
        simp only [if_true, nextR, i3]
        exact Ev.now _
      | false =>
        simp only [Bool.false_eq_true, if_false, nextR, i3]
        exact Ev.now _
  | false =>
    simp only [Bool.false_eq_true, if_false, eD, Option.bind_some]
    have hn := un isL
    rw [if_neg (by rw [hL]; simp)] at hn
    unfold tokR
    rw [if_neg (by rw [hn]; simp)]
    cases hD : isD (bt s (a : Int)) with
    | true =>
      simp only [if_true]
      have hm := un isD
      rw [if_pos hD] at hm
      refine loopD (s.size - a) a (by omega) _ ?_
      have c : runN isD s (s.size - a) a ≠ 0 := by omega
      rw [if_pos c]
      generalize runN isD s (s.size - a) a = n at *
      have i1 : (a : Int) ≤ ((a + n : Nat) : Int) := by omega
      have i2 : ((a + n : Nat) : Int) ≤ (s.size : Int) := by omega
      have i3 : ((a + n : Nat) : Int) = (a : Int) + (n : Int) := by omega
      refine Ev.step (fun k => by rw [spec_l2Next.j3]) ?_
      simp only [a0, i1, i2, if_true, Int.toNat_natCast]
      refine Ev.then (spec_ParseNum_ev _ (by rw [zs n nd]; omega)) ?_
      cases hp : (parseS (s.extract a (a + n))).2 with
      | true =>
        simp only [if_true]
        refine Ev.step (fun k => by rw [spec_l2Next.j4]) ?_
        by_cases q : (parseS (s.extract a (a + n))).1 ≤ 999999
        · have q' : ¬ (parseS (s.extract a (a + n))).1 > 999999 := by omega
          simp only [q, q', decide_true, decide_false, Bool.false_eq_true, if_false, Bool.and_self, nextR, if_true, i3]
          exact Ev.now _
        · have q' : (parseS (s.extract a (a + n))).1 > 999999 := by omega
          simp only [q, q', decide_true, decide_false, Bool.false_eq_true, if_false, Bool.and_false, nextR, if_true, i3]
          exact Ev.now _
      | false =>
        simp only [Bool.false_eq_true, if_false]
        refine Ev.step (fun k => by rw [spec_l2Next.j4]) ?_
        simp only [if_true, Bool.false_and, nextR, Bool.false_eq_true, if_false, i3]
        exact Ev.now _
    | false =>
      have hm := un isD
      rw [if_neg (by rw [hD]; simp)] at hm
      rw [if_neg (by rw [hm]; simp)]
      have hw : wrap64 ((a : Int) + 1) = ((a + 1 : Nat) : Int) := wi (n := s.size) (by omega) hs
      have i1 : (a : Int) ≤ ((a + 1 : Nat) : Int) := by omega
      have i2 : ((a + 1 : Nat) : Int) ≤ (s.size : Int) := by omega
      have i3 : ((a + 1 : Nat) : Int) = (a : Int) + 1 := by omega
      simp only [Bool.false_eq_true, if_false, hw, i1, i2, if_true, Int.toNat_natCast]
      have s1 := zs 1 (by omega)
      refine Ev.then (spec_l2Has_ev _ _ (by simp only [List.length_cons, List.length_nil, maxLen]; omega)) ?_
      have em : ([(⟨#[59]⟩ : ByteArray), (⟨#[61]⟩ : ByteArray), (⟨#[91]⟩ : ByteArray), (⟨#[93]⟩ : ByteArray), (⟨#[40]⟩ : ByteArray), (⟨#[41]⟩ : ByteArray), (⟨#[123]⟩ : ByteArray), (⟨#[125]⟩ : ByteArray), (⟨#[43]⟩ : ByteArray), (⟨#[45]⟩ : ByteArray), (⟨#[42]⟩ : ByteArray), (⟨#[44]⟩ : ByteArray)].any fun x => x.toList == (s.extract a (a + 1)).toList) = markS (s.extract a (a + 1)) := by
        obtain ⟨c, hc⟩ := one_byte s1
        rw [hc]
        unfold markS marksL
        simp only [List.any_cons, List.any_nil, Lem.toList_data]
        simp
      rw [em]
      cases markS (s.extract a (a + 1)) with
      | true =>
        simp only [if_true, nextR, i3]
        exact Ev.now _
      | false =>
        simp only [Bool.false_eq_true, if_false, nextR, i3]
        exact Ev.now _
theorem tokR_step (s : ByteArray) (a : Nat) (ha : a < s.size) : ∃ n : Nat, (tokR s a).2.2.2.1 = (n : Int) ∧ 1 ≤ n ∧ a + n ≤ s.size ∧ (tokR s a).1 ≠ 0 := by
  have nl := runN_le isL s (s.size - a) a
  have nd := runN_le isD s (s.size - a) a
  unfold tokR
  split
  · split
    · exact ⟨_, rfl, by omega, by omega, by simp⟩
    · exact ⟨_, rfl, by omega, by omega, by simp⟩
  · split
    · exact ⟨_, rfl, by omega, by omega, by simp⟩
    · exact ⟨1, rfl, by omega, by omega, by simp⟩
theorem lex_both (s : ByteArray) (hs : s.size ≤ maxLen) (hz : s.size ≤ 140737488351232) : ∃ R : List S47 × Bool, Ev (fun k => impl_Lex.f k s) R ∧ Ev (fun k => spec_Lex.f k s) R ∧ R.1.length ≤ 600 := by
  have hs' := hs
  simp only [maxLen] at hs'
  unfold impl_Lex.f spec_Lex.f
  simp only [Option.bind_some]
  by_cases big : (s.size : Int) > 3000
  · simp only [big, if_true]
    exact ⟨_, Ev.now _, Ev.now _, by simp⟩
  simp only [big, if_false]
  have key : ∀ d a, a + d = s.size → ∀ acc : List S47, acc.length ≤ 600 → ∃ R : List S47 × Bool, Ev (fun k => impl_Lex.l0 k s acc (a : Int)) R ∧ Ev (fun k => spec_Lex.l0 k s acc (a : Int)) R ∧ R.1.length ≤ 600 := by
    intro d
    induction d using Nat.strongRecOn with
    | _ d ih =>
      intro a had acc hac
      by_cases c : a < s.size
      · have c1 : (a : Int) < (s.size : Int) := by omega
        have c0 : (0 : Int) ≤ (a : Int) := by omega
        have c2 : (a : Int) ≤ (s.size : Int) := by omega
        have hw : wrap64 ((a : Int) + 1) = ((a + 1 : Nat) : Int) := wi (n := s.size) (by omega) hs
        have skip : ∃ R : List S47 × Bool, Ev (fun k => impl_Lex.j1 k s acc (a : Int) true) R ∧ Ev (fun k => spec_Lex.j1 k s acc (a : Int) true) R ∧ R.1.length ≤ 600 := by
          obtain ⟨R, E1, E2, hR⟩ := ih (d - 1) (by omega) (a + 1) (by omega) acc hac
          refine ⟨R, Ev.step (fun k => by rw [impl_Lex.j1]) ?_, Ev.step (fun k => by rw [spec_Lex.j1]) ?_, hR⟩
          · simp only [if_true, hw]
            exact E1
          · simp only [if_true, hw]
            exact E2
        have tok : ∃ R : List S47 × Bool, Ev (fun k => impl_Lex.j1 k s acc (a : Int) false) R ∧ Ev (fun k => spec_Lex.j1 k s acc (a : Int) false) R ∧ R.1.length ≤ 600 := by
          have T1 := impl_tokOf_ev s a c hs
          have T2 := spec_l2Next_ev s a c hs hz
          obtain ⟨n, hn, n1, n2, k0⟩ := tokR_step s a c
          have hadv : wrap64 ((a : Int) + (tokR s a).2.2.2.1) = ((a + n : Nat) : Int) := by
            rw [hn, w64 (by omega) (by omega)]
            omega
          have hadv2 : (a : Int) + (tokR s a).2.2.2.1 = ((a + n : Nat) : Int) := by
            rw [hn]
            omega
          have iS : (fun k => impl_Lex.j1 (k + 1) s acc (a : Int) false) = fun k => impl_Lex.j1 (k + 1) s acc (a : Int) false := rfl
          unfold nextR at T2
          cases ok : (tokR s a).2.2.2.2 with
          | false =>
            rw [ok] at T2
            refine ⟨([], false), Ev.step (fun k => by rw [impl_Lex.j1]) ?_, Ev.step (fun k => by rw [spec_Lex.j1]) ?_, by simp⟩
            · simp only [Bool.false_eq_true, if_false, c0, c2, if_true, Int.toNat_natCast]
              refine Ev.then T1 ?_
              simp only [ok, Bool.false_eq_true, if_false]
              exact Ev.now _
            · simp only [Bool.false_eq_true, if_false] at T2 ⊢
              refine Ev.then T2 ?_
              simp only [if_true]
              exact Ev.now _
          | true =>
            rw [ok] at T2
            simp only [if_true] at T2
            by_cases full : acc.length = 600
            · have f1 : (acc.length : Int) = 600 := by omega
              have f2 : (acc.length : Int) ≥ 600 := by omega
              refine ⟨([], false), Ev.step (fun k => by rw [impl_Lex.j1]) ?_, Ev.step (fun k => by rw [spec_Lex.j1]) ?_, by simp⟩
              · simp only [Bool.false_eq_true, if_false, c0, c2, if_true, Int.toNat_natCast]
                refine Ev.then T1 ?_
                simp only [ok, if_true, f1]
                exact Ev.now _
              · simp only [Bool.false_eq_true, if_false]
                refine Ev.then T2 ?_
                simp only [k0, if_false, f2, if_true]
                exact Ev.now _
            · have f1 : ¬ (acc.length : Int) = 600 := by omega
              have f2 : ¬ (acc.length : Int) ≥ 600 := by omega
              have f3 : acc.length < 4398046511104 := by omega
              obtain ⟨R, E1, E2, hR⟩ := ih (d - n) (by omega) (a + n) (by omega) (acc ++ [⟨(tokR s a).1, (tokR s a).2.1, (tokR s a).2.2.1⟩]) (by simp; omega)
              refine ⟨R, Ev.step (fun k => by rw [impl_Lex.j1]) ?_, Ev.step (fun k => by rw [spec_Lex.j1]) ?_, hR⟩
              · simp only [Bool.false_eq_true, if_false, c0, c2, if_true, Int.toNat_natCast]
                refine Ev.then T1 ?_
                simp only [ok, if_true, f1, if_false, f3, hadv]
                exact E1
              · simp only [Bool.false_eq_true, if_false]
                refine Ev.then T2 ?_
                simp only [k0, if_false, f2, f3, if_true, hadv2]
                exact E2
        by_cases b32 : bt s (a : Int) = 32
        · obtain ⟨R, E1, E2, hR⟩ := skip
          refine ⟨R, Ev.step (fun k => by rw [impl_Lex.l0]) ?_, Ev.step (fun k => by rw [spec_Lex.l0]) ?_, hR⟩
          · simp only [c1, c0, b32, if_true]
            exact E1
          · simp only [c1, c0, b32, if_true]
            exact E2
        · cases b10 : (bt s (a : Int) == 10) with
          | true =>
            obtain ⟨R, E1, E2, hR⟩ := skip
            refine ⟨R, Ev.step (fun k => by rw [impl_Lex.l0]) ?_, Ev.step (fun k => by rw [spec_Lex.l0]) ?_, hR⟩
            · simp only [c1, c0, b32, b10, if_true, if_false]
              exact E1
            · simp only [c1, c0, b32, b10, if_true, if_false]
              exact E2
          | false =>
            obtain ⟨R, E1, E2, hR⟩ := tok
            refine ⟨R, Ev.step (fun k => by rw [impl_Lex.l0]) ?_, Ev.step (fun k => by rw [spec_Lex.l0]) ?_, hR⟩
            · simp only [c1, c0, b32, b10, if_true, if_false]
              exact E1
            · simp only [c1, c0, b32, b10, if_true, if_false]
              exact E2
      · have c1 : ¬ (a : Int) < (s.size : Int) := by omega
        refine ⟨(acc, true), Ev.step (fun k => by rw [impl_Lex.l0]) ?_, Ev.step (fun k => by rw [spec_Lex.l0]) ?_, hac⟩
        · simp only [c1, if_false]
          exact Ev.now _
        · simp only [c1, if_false]
          exact Ev.now _
  exact key s.size 0 (by omega) [] (by simp)
/-! ### signs come back of their own text -/
theorem runN_all (p : Int → Bool) (s : ByteArray) : ∀ d i j, j < runN p s d i → p (bt s ((i + j : Nat) : Int)) = true
  | 0, _, _, h => by simp [runN] at h
  | d + 1, i, j, h => by
    unfold runN at h
    by_cases c : p (bt s (i : Int)) = true
    · rw [if_pos c] at h
      cases j with
      | zero => exact c
      | succ j =>
        have := runN_all p s d (i + 1) j (by omega)
        rwa [show i + 1 + j = i + (j + 1) by omega] at this
    · rw [if_neg c] at h
      omega
theorem runN_eq (p : Int → Bool) (s : ByteArray) : ∀ n d i, n ≤ d → (∀ j, j < n → p (bt s ((i + j : Nat) : Int)) = true) → (n = d ∨ p (bt s ((i + n : Nat) : Int)) = false) → runN p s d i = n
  | 0, 0, _, _, _, _ => rfl
  | 0, d + 1, i, _, _, h => by
    unfold runN
    rcases h with h | h
    · omega
    · rw [Nat.add_zero] at h
      rw [if_neg (by rw [h]; simp)]
  | n + 1, 0, _, h, _, _ => by omega
  | n + 1, d + 1, i, h, ha, hs => by
    unfold runN
    have h0 := ha 0 (by omega)
    rw [Nat.add_zero] at h0
    rw [if_pos h0, runN_eq p s n d (i + 1) (by omega) (fun j hj => by
      have := ha (j + 1) (by omega)
      rwa [show i + (j + 1) = i + 1 + j by omega] at this) (by
      rcases hs with hs | hs
      · exact .inl (by omega)
      · right
        rwa [show i + (n + 1) = i + 1 + n by omega] at hs)]
theorem bt_ext (s : ByteArray) (a b j : Nat) (h : a + j < b) (hb : b ≤ s.size) : bt (s.extract a b) (j : Int) = bt s ((a + j : Nat) : Int) := by
  have h1 : j < (s.extract a b).size := by
    rw [ByteArray.size_extract]
    omega
  unfold bt
  rw [dif_pos (show (j : Int).toNat < (s.extract a b).size by simpa using h1), dif_pos (show ((a + j : Nat) : Int).toNat < s.size by rw [Int.toNat_natCast]; omega)]
  simp only [Int.toNat_natCast]
  rw [ByteArray.getElem_extract]
theorem eq_of_bt {s t : ByteArray} (hs : s.size = t.size) (h : ∀ j : Nat, j < s.size → bt s (j : Int) = bt t (j : Int)) : s = t := by
  refine ByteArray.ext_getElem hs fun j h1 h2 => ?_
  have := h j h1
  unfold bt at this
  rw [dif_pos (show (j : Int).toNat < s.size by simpa using h1), dif_pos (show (j : Int).toNat < t.size by simpa using h2)] at this
  simp only [Int.toNat_natCast] at this
  exact UInt8.toNat_inj.1 (by omega)
def allB (p : Int → Bool) (s : ByteArray) : Prop := ∀ j : Nat, j < s.size → p (bt s (j : Int)) = true
/-- A sign that the reading makes. -/
structure GoodT (x : S47) : Prop where
  sz : x.f1.size ≤ 3000
  kind : (x.f0 = 3 ∧ x.f2 = 0 ∧ keptS x.f1 = true ∧ 1 ≤ x.f1.size ∧ allB isL x.f1) ∨
    (x.f0 = 1 ∧ x.f2 = 0 ∧ keptS x.f1 = false ∧ nameS x.f1 = true ∧ 1 ≤ x.f1.size ∧ allB isL x.f1) ∨
    (x.f0 = 2 ∧ x.f1 = (⟨#[]⟩ : ByteArray) ∧ ∃ v : Nat, x.f2 = (v : Int) ∧ v ≤ 999999) ∨
    (x.f0 = 4 ∧ x.f2 = 0 ∧ x.f1.size = 1 ∧ markS x.f1 = true ∧ isL (bt x.f1 0) = false ∧ isD (bt x.f1 0) = false)
theorem tokR_good (s : ByteArray) (a : Nat) (ha : a < s.size) (hs : s.size ≤ 3000) (ok : (tokR s a).2.2.2.2 = true) : GoodT ⟨(tokR s a).1, (tokR s a).2.1, (tokR s a).2.2.1⟩ := by
  have nl := runN_le isL s (s.size - a) a
  have nd := runN_le isD s (s.size - a) a
  have al := runN_all isL s (s.size - a) a
  have zs : ∀ n, n ≤ s.size - a → (s.extract a (a + n)).size = n := fun n hn => by
    rw [ByteArray.size_extract]
    omega
  have hall : allB isL (s.extract a (a + runN isL s (s.size - a) a)) := fun j hj => by
    rw [zs _ nl] at hj
    rw [bt_ext s a _ j (by omega) (by omega)]
    exact al j hj
  obtain ⟨e, he⟩ : ∃ e, s.size - a = e + 1 := ⟨s.size - a - 1, by omega⟩
  have un : ∀ p, runN p s (s.size - a) a = 0 → p (bt s (a : Int)) = false := fun p hp => by
    cases q : p (bt s (a : Int)) with
    | false => rfl
    | true =>
      rw [he] at hp
      unfold runN at hp
      rw [if_pos q] at hp
      omega
  have uL := un isL
  have uD := un isD
  unfold tokR at ok ⊢
  generalize runN isL s (s.size - a) a = n at *
  generalize runN isD s (s.size - a) a = m at *
  by_cases c : n ≠ 0
  · rw [if_pos c] at ok ⊢
    by_cases k : keptS (s.extract a (a + n)) = true
    · rw [if_pos k]
      exact ⟨by simp only [zs n nl]; omega, .inl ⟨rfl, rfl, k, by simp only [zs n nl]; omega, hall⟩⟩
    · rw [if_neg k] at ok ⊢
      have k' : keptS (s.extract a (a + n)) = false := by simpa using k
      exact ⟨by simp only [zs n nl]; omega, .inr (.inl ⟨rfl, rfl, k', ok, by simp only [zs n nl]; omega, hall⟩)⟩
  · rw [if_neg c] at ok ⊢
    have hL := uL (by omega)
    by_cases c2 : m ≠ 0
    · rw [if_pos c2] at ok ⊢
      simp only [Bool.and_eq_true, decide_eq_true_eq] at ok
      obtain ⟨v, e, _, _⟩ := num_parse (s := s.extract a (a + m)) (v := (parseS (s.extract a (a + m))).1) (by
        rw [← ok.1])
      refine ⟨by show (⟨#[]⟩ : ByteArray).size ≤ 3000; decide, .inr (.inr (.inl ⟨rfl, rfl, v, e, ?_⟩))⟩
      have := ok.2
      omega
    · rw [if_neg c2] at ok ⊢
      have hD := uD (by omega)
      have b0 : bt (s.extract a (a + 1)) 0 = bt s (a : Int) := by
        have := bt_ext s a (a + 1) 0 (by omega) (by omega)
        simpa using this
      exact ⟨by simp only [zs 1 (by omega)]; omega, .inr (.inr (.inr ⟨rfl, rfl, zs 1 (by omega), ok, by rw [b0]; exact hL, by rw [b0]; exact hD⟩))⟩
theorem num_dig (v : Nat) (j : Nat) (h : j < (numS (v : Int)).size) : isD (bt (numS (v : Int)) (j : Int)) = true := by
  rw [bt_list _ j h, numS_nat]
  have hd := (dec_back v).2
  have hl : j < (decDigits v).length := by
    rw [← numS_nat, len_size]
    exact h
  unfold digL at hd
  have := List.all_eq_true.1 hd _ (getD_mem (decDigits v) 0 hl)
  unfold isD
  simp only [Bool.and_eq_true, decide_eq_true_eq] at this ⊢
  omega
theorem tok_at (u : ByteArray) (a : Nat) (x : S47) (hx : GoodT x) (h1 : a + (txtS x).size ≤ u.size) (h2 : ∀ j : Nat, j < (txtS x).size → bt u ((a + j : Nat) : Int) = bt (txtS x) (j : Int)) (h3 : a + (txtS x).size = u.size ∨ bt u ((a + (txtS x).size : Nat) : Int) = 32) :
    tokR u a = (x.f0, x.f1, x.f2, ((txtS x).size : Int), true) ∧ 1 ≤ (txtS x).size ∧ bt u (a : Int) ≠ 32 ∧ bt u (a : Int) ≠ 10 := by
  have ext : u.extract a (a + (txtS x).size) = txtS x := by
    refine eq_of_bt (by rw [ByteArray.size_extract]; omega) fun j hj => ?_
    rw [ByteArray.size_extract] at hj
    rw [bt_ext u a _ j (by omega) h1]
    exact h2 j (by omega)
  have first : 1 ≤ (txtS x).size → bt u (a : Int) = bt (txtS x) 0 := fun h => by
    have := h2 0 (by omega)
    simpa using this
  have ns : ∀ b : Int, (isL b = true ∨ isD b = true) → b ≠ 32 ∧ b ≠ 10 := fun b hb => by
    unfold isL isD at hb
    simp only [Bool.and_eq_true, decide_eq_true_eq] at hb
    omega
  have stopL : (txtS x).size = u.size - a ∨ isL (bt u ((a + (txtS x).size : Nat) : Int)) = false := by
    rcases h3 with h | h
    · exact .inl (by omega)
    · exact .inr (by rw [h]; rfl)
  have stopD : (txtS x).size = u.size - a ∨ isD (bt u ((a + (txtS x).size : Nat) : Int)) = false := by
    rcases h3 with h | h
    · exact .inl (by omega)
    · exact .inr (by rw [h]; rfl)
  have zero : ∀ p : Int → Bool, p (bt u (a : Int)) = false → runN p u (u.size - a) a = 0 := fun p hp => runN_eq p u 0 _ a (by omega) (fun j hj => by omega) (.inr (by simpa using hp))
  rcases hx.kind with ⟨k0, k2, kk, k1, ka⟩ | ⟨k0, k2, kk, kn, k1, ka⟩ | ⟨k0, k1, v, k2, kv⟩ | ⟨k0, k2, k1, km, kL, kD⟩
  · have et : txtS x = x.f1 := by
      unfold txtS
      rw [if_neg (by omega)]
    rw [et] at h1 h2 h3 ext first stopL stopD ⊢
    have hr : runN isL u (u.size - a) a = x.f1.size := runN_eq isL u _ _ a (by omega) (fun j hj => by rw [h2 j hj]; exact ka j hj) stopL
    refine ⟨?_, k1, ns _ (.inl (by rw [first k1]; exact ka 0 (by omega)))⟩
    unfold tokR
    rw [hr, if_pos (by omega), ext, if_pos kk, k0, k2]
  · have et : txtS x = x.f1 := by
      unfold txtS
      rw [if_neg (by omega)]
    rw [et] at h1 h2 h3 ext first stopL stopD ⊢
    have hr : runN isL u (u.size - a) a = x.f1.size := runN_eq isL u _ _ a (by omega) (fun j hj => by rw [h2 j hj]; exact ka j hj) stopL
    refine ⟨?_, k1, ns _ (.inl (by rw [first k1]; exact ka 0 (by omega)))⟩
    unfold tokR
    rw [hr, if_pos (by omega), ext, if_neg (by rw [kk]; simp), k0, k2, kn]
  · have et : txtS x = numS (v : Int) := by
      unfold txtS
      rw [if_pos k0, k2]
    rw [et] at h1 h2 h3 ext first stopL stopD ⊢
    have hl := (dec_len v (by omega)).1
    rw [← numS_nat, len_size] at hl
    have b0 : isD (bt u (a : Int)) = true := by
      rw [first hl]
      exact num_dig v 0 (by omega)
    have bL : isL (bt u (a : Int)) = false := by
      unfold isD at b0
      unfold isL
      simp only [Bool.and_eq_true, decide_eq_true_eq] at b0
      rw [Bool.and_eq_false_iff]
      exact .inl (decide_eq_false (by omega))
    have hr : runN isD u (u.size - a) a = (numS (v : Int)).size := runN_eq isD u _ _ a (by omega) (fun j hj => by rw [h2 j hj]; exact num_dig v j hj) stopD
    refine ⟨?_, hl, ns _ (.inr b0)⟩
    have kv' : ((v : Int) ≤ 999999) := by omega
    unfold tokR
    rw [zero isL bL, if_neg (by simp), hr, if_pos (by omega), ext, parse_num v (by omega), k0, k1, k2]
    simp [kv']
  · have et : txtS x = x.f1 := by
      unfold txtS
      rw [if_neg (by omega)]
    rw [et] at h1 h2 h3 ext first stopL stopD ⊢
    have f0 := first (by omega)
    rw [← f0] at kL kD
    rw [k1] at ext
    have nsp : bt u (a : Int) ≠ 32 ∧ bt u (a : Int) ≠ 10 := by
      rw [f0]
      obtain ⟨c, hc⟩ := one_byte k1
      rw [hc] at km ⊢
      have hb : bt (⟨#[c]⟩ : ByteArray) 0 = ((c.toNat : Nat) : Int) := by
        have := bt_list (⟨#[c]⟩ : ByteArray) 0 (by simp [ByteArray.size])
        rw [Lem.toList_data] at this
        simpa using this
      rw [hb]
      have km' : marksL.any (fun m => m == c) = true := km
      have : ∀ n : Fin 256, marksL.any (fun m => m == UInt8.ofNat n.val) = true → n.val ≠ 32 ∧ n.val ≠ 10 := by decide +kernel
      have q := this ⟨c.toNat, UInt8.toNat_lt c⟩ (by simpa using km')
      simp only at q
      omega
    refine ⟨?_, by omega, nsp⟩
    unfold tokR
    rw [zero isL kL, if_neg (by simp), zero isD kD, if_neg (by simp), ext, km, k0, k2, k1]
    rfl
/-- From a place on, a text is that of these signs. -/
def Sits (u : ByteArray) : Nat → List S47 → Prop
  | a, [] => a = u.size
  | a, x :: r => a + (txtS x).size ≤ u.size ∧ (∀ j : Nat, j < (txtS x).size → bt u ((a + j : Nat) : Int) = bt (txtS x) (j : Int)) ∧ ((r = [] ∧ a + (txtS x).size = u.size) ∨ (r ≠ [] ∧ bt u ((a + (txtS x).size : Nat) : Int) = 32 ∧ a + (txtS x).size < u.size ∧ Sits u (a + (txtS x).size + 1) r))
theorem getD_mid (p t r : List UInt8) (j : Nat) (h : j < t.length) : (p ++ t ++ r).getD (p.length + j) 0 = t.getD j 0 := by
  rw [List.getD_eq_getElem?_getD, List.getD_eq_getElem?_getD, List.append_assoc, List.getElem?_append_right (by omega), show p.length + j - p.length = j by omega, List.getElem?_append_left h]
theorem sits_of (u : ByteArray) : ∀ (l : List S47) (p : List UInt8), u.toList = p ++ Go.Lib.join (l.map fun x => (txtS x).toList) [32] → Sits u p.length l
  | [], p, h => by
    have : u.toList.length = p.length := by
      rw [h]
      simp [Go.Lib.join, List.intercalate]
    rw [len_size] at this
    exact this.symm
  | [x], p, h => by
    rw [List.map_cons, List.map_nil, join_tail] at h
    have e : u.toList = p ++ (txtS x).toList ++ [] := by
      rw [h]
      simp [tailT]
    have hl : u.size = p.length + (txtS x).size := by
      rw [← len_size u, e]
      simp [len_size]
    refine ⟨by omega, fun j hj => ?_, .inl ⟨rfl, by omega⟩⟩
    rw [bt_list u _ (by omega), bt_list (txtS x) j hj, e, getD_mid _ _ _ _ (by rw [len_size]; exact hj)]
  | x :: y :: r, p, h => by
    rw [List.map_cons, join_tail] at h
    have e : u.toList = p ++ (txtS x).toList ++ (32 :: Go.Lib.join ((y :: r).map fun x => (txtS x).toList) [32]) := by
      rw [h, List.map_cons, join_tail]
      simp [tailT]
    have hl : u.size = p.length + (txtS x).size + (1 + (Go.Lib.join ((y :: r).map fun x => (txtS x).toList) [32]).length) := by
      rw [← len_size u, e]
      simp only [List.length_append, List.length_cons, len_size]
      omega
    have ih := sits_of u (y :: r) (p ++ (txtS x).toList ++ [32]) (by
      rw [e]
      simp)
    have pl : (p ++ (txtS x).toList ++ [32]).length = p.length + (txtS x).size + 1 := by
      simp [len_size]
      omega
    rw [pl] at ih
    refine ⟨by omega, fun j hj => ?_, .inr ⟨by simp, ?_, by omega, ih⟩⟩
    · rw [bt_list u _ (by omega), bt_list (txtS x) j hj, e, getD_mid _ _ _ _ (by rw [len_size]; exact hj)]
    · rw [bt_list u _ (by omega), e, List.getD_eq_getElem?_getD, List.getElem?_append_right (by simp [len_size])]
      simp [len_size]
theorem lex_back (u : ByteArray) (hu : u.size ≤ 3000) : ∀ (l : List S47) (a : Nat) (acc : List S47), (∀ x ∈ l, GoodT x) → Sits u a l → acc.length + l.length ≤ 600 → Ev (fun k => impl_Lex.l0 k u acc (a : Int)) (acc ++ l, true)
  | [], a, acc, _, hs, _ => by
    have hs' : a = u.size := hs
    have c1 : ¬ (a : Int) < (u.size : Int) := by omega
    refine Ev.step (fun k => by rw [impl_Lex.l0]) ?_
    simp only [c1, if_false, List.append_nil]
    exact Ev.now _
  | x :: r, a, acc, hg, hs, hl => by
    obtain ⟨h1, h2, h3⟩ := hs
    have hx := hg x List.mem_cons_self
    obtain ⟨ht, n1, b1, b2⟩ := tok_at u a x hx h1 h2 (h3.imp (fun q => q.2) (fun q => q.2.1))
    have hsz : u.size ≤ maxLen := by
      simp only [maxLen]
      omega
    have T1 := impl_tokOf_ev u a (by omega) hsz
    rw [ht] at T1
    have c0 : (0 : Int) ≤ (a : Int) := by omega
    have c1 : (a : Int) < (u.size : Int) := by omega
    have c2 : (a : Int) ≤ (u.size : Int) := by omega
    have b10 : (bt u (a : Int) == 10) = false := by simpa using b2
    simp only [List.length_cons] at hl
    have f1 : ¬ (acc.length : Int) = 600 := by omega
    have f3 : acc.length < 4398046511104 := by omega
    have hadv : wrap64 ((a : Int) + ((txtS x).size : Int)) = ((a + (txtS x).size : Nat) : Int) := by
      rw [w64 (by omega) (by omega)]
      omega
    have nl : (acc ++ [x]).length + r.length ≤ 600 := by
      simp only [List.length_append, List.length_cons, List.length_nil]
      omega
    have eq : acc ++ x :: r = (acc ++ [x]) ++ r := by simp
    rw [eq]
    refine Ev.step (fun k => by rw [impl_Lex.l0]) ?_
    simp only [c0, c1, b1, b10, if_true, if_false]
    refine Ev.step (fun k => by rw [impl_Lex.j1]) ?_
    simp only [Bool.false_eq_true, if_false, c0, c2, if_true, Int.toNat_natCast]
    refine Ev.then T1 ?_
    simp only [if_true, f1, if_false, f3, hadv]
    rcases h3 with ⟨rfl, h3⟩ | ⟨_, hb, hlt, hrest⟩
    · rw [h3, List.append_nil]
      have c3 : ¬ (u.size : Int) < (u.size : Int) := by omega
      refine Ev.step (fun k => by rw [impl_Lex.l0]) ?_
      simp only [c3, if_false]
      exact Ev.now _
    · have d1 : ((a + (txtS x).size : Nat) : Int) < (u.size : Int) := by omega
      have d0 : (0 : Int) ≤ ((a + (txtS x).size : Nat) : Int) := by omega
      have hw : wrap64 (((a + (txtS x).size : Nat) : Int) + 1) = ((a + (txtS x).size + 1 : Nat) : Int) := by
        rw [w64 (by omega) (by omega)]
        omega
      refine Ev.step (fun k => by rw [impl_Lex.l0]) ?_
      simp only [d1, d0, hb, if_true]
      refine Ev.step (fun k => by rw [impl_Lex.j1]) ?_
      simp only [if_true, hw]
      exact lex_back u hu r _ _ (fun y hy => hg y (List.mem_cons_of_mem _ hy)) hrest nl
theorem lex_good (s : ByteArray) : ∃ R : List S47 × Bool, Ev (fun k => impl_Lex.f k s) R ∧ (R.2 = false → R.1 = []) ∧ (∀ x ∈ R.1, GoodT x) ∧ R.1.length ≤ 600 := by
  unfold impl_Lex.f
  by_cases big : (s.size : Int) > 3000
  · simp only [big, if_true]
    exact ⟨_, Ev.now _, fun _ => rfl, by simp, by simp⟩
  simp only [big, if_false]
  have hz : s.size ≤ 3000 := by omega
  have hs : s.size ≤ maxLen := by
    simp only [maxLen]
    omega
  have key : ∀ d a, a + d = s.size → ∀ acc : List S47, acc.length ≤ 600 → (∀ x ∈ acc, GoodT x) → ∃ R : List S47 × Bool, Ev (fun k => impl_Lex.l0 k s acc (a : Int)) R ∧ (R.2 = false → R.1 = []) ∧ (∀ x ∈ R.1, GoodT x) ∧ R.1.length ≤ 600 := by
    intro d
    induction d using Nat.strongRecOn with
    | _ d ih =>
      intro a had acc hac hg
      by_cases c : a < s.size
      · have c1 : (a : Int) < (s.size : Int) := by omega
        have c0 : (0 : Int) ≤ (a : Int) := by omega
        have c2 : (a : Int) ≤ (s.size : Int) := by omega
        have hw : wrap64 ((a : Int) + 1) = ((a + 1 : Nat) : Int) := wi (n := s.size) (by omega) hs
        have J : ∀ b : Bool, ∃ R : List S47 × Bool, Ev (fun k => impl_Lex.j1 k s acc (a : Int) b) R ∧ (R.2 = false → R.1 = []) ∧ (∀ x ∈ R.1, GoodT x) ∧ R.1.length ≤ 600 := by
          intro b
          cases b with
          | true =>
            obtain ⟨R, E1, h1⟩ := ih (d - 1) (by omega) (a + 1) (by omega) acc hac hg
            refine ⟨R, Ev.step (fun k => by rw [impl_Lex.j1]) ?_, h1⟩
            simp only [if_true, hw]
            exact E1
          | false =>
            have T1 := impl_tokOf_ev s a c hs
            obtain ⟨n, hn, n1, n2, k0⟩ := tokR_step s a c
            have hadv : wrap64 ((a : Int) + (tokR s a).2.2.2.1) = ((a + n : Nat) : Int) := by
              rw [hn, w64 (by omega) (by omega)]
              omega
            cases ok : (tokR s a).2.2.2.2 with
            | false =>
              refine ⟨([], false), Ev.step (fun k => by rw [impl_Lex.j1]) ?_, fun _ => rfl, by simp, by simp⟩
              simp only [Bool.false_eq_true, if_false, c0, c2, if_true, Int.toNat_natCast]
              refine Ev.then T1 ?_
              simp only [ok, Bool.false_eq_true, if_false]
              exact Ev.now _
            | true =>
              by_cases full : acc.length = 600
              · have f1 : (acc.length : Int) = 600 := by omega
                refine ⟨([], false), Ev.step (fun k => by rw [impl_Lex.j1]) ?_, fun _ => rfl, by simp, by simp⟩
                simp only [Bool.false_eq_true, if_false, c0, c2, if_true, Int.toNat_natCast]
                refine Ev.then T1 ?_
                simp only [ok, if_true, f1]
                exact Ev.now _
              · have f1 : ¬ (acc.length : Int) = 600 := by omega
                have f3 : acc.length < 4398046511104 := by omega
                obtain ⟨R, E1, h1⟩ := ih (d - n) (by omega) (a + n) (by omega) (acc ++ [⟨(tokR s a).1, (tokR s a).2.1, (tokR s a).2.2.1⟩]) (by simp; omega) (fun x hx => by
                  rcases List.mem_append.1 hx with hx | hx
                  · exact hg x hx
                  · rw [List.mem_singleton.1 hx]
                    exact tokR_good s a c hz ok)
                refine ⟨R, Ev.step (fun k => by rw [impl_Lex.j1]) ?_, h1⟩
                simp only [Bool.false_eq_true, if_false, c0, c2, if_true, Int.toNat_natCast]
                refine Ev.then T1 ?_
                simp only [ok, if_true, f1, if_false, f3, hadv]
                exact E1
        by_cases b32 : bt s (a : Int) = 32
        · obtain ⟨R, E1, h1⟩ := J true
          refine ⟨R, Ev.step (fun k => by rw [impl_Lex.l0]) ?_, h1⟩
          simp only [c1, c0, b32, if_true]
          exact E1
        · obtain ⟨R, E1, h1⟩ := J (bt s (a : Int) == 10)
          refine ⟨R, Ev.step (fun k => by rw [impl_Lex.l0]) ?_, h1⟩
          simp only [c1, c0, b32, if_true, if_false]
          exact E1
      · have c1 : ¬ (a : Int) < (s.size : Int) := by omega
        refine ⟨(acc, true), Ev.step (fun k => by rw [impl_Lex.l0]) ?_, fun h => (by cases h), hg, hac⟩
        simp only [c1, if_false]
        exact Ev.now _
  exact key s.size 0 (by omega) [] (by simp) (by simp)
theorem spec_l2Text_ex {l : List Int} {i : Int} (h : Int) (hi : At l i) : ∃ s i' h', Ev (fun k => spec_l2Text.f k l i h) (s, i', h') ∧ s.size ≤ 84 ∧ At l i' := by
  have key : ∀ n : Nat, ∀ (x : ByteArray) (i h : Int), At l i → x.size + 6 * n ≤ 84 → ∃ s i' h', Ev (fun k => spec_l2Text.l0 k x (n : Int) l i h) (s, i', h') ∧ s.size ≤ 84 ∧ At l i' := by
    intro n
    induction n with
    | zero =>
      intro x i h hi hx
      refine ⟨x, i, h, Ev.step (fun k => by rw [spec_l2Text.l0]) ?_, by omega, hi⟩
      have c : ¬ ((0 : Nat) : Int) > 0 := by omega
      simp only [c, if_false]
      exact Ev.now _
    | succ n ih =>
      intro x i h hi hx
      obtain ⟨a, i1, h1, e1, m1, c1⟩ := spec_l1Str_ex h [(⟨#[97]⟩ : ByteArray), (⟨#[98]⟩ : ByteArray), (⟨#[105]⟩ : ByteArray), (⟨#[102, 111, 114]⟩ : ByteArray), (⟨#[116, 111]⟩ : ByteArray), (⟨#[97, 114, 114, 97, 121]⟩ : ByteArray), (⟨#[112, 114, 105, 110, 116]⟩ : ByteArray), (⟨#[109, 105, 110]⟩ : ByteArray), (⟨#[109, 97, 120]⟩ : ByteArray), (⟨#[48]⟩ : ByteArray), (⟨#[55]⟩ : ByteArray), (⟨#[49, 50]⟩ : ByteArray), (⟨#[59]⟩ : ByteArray), (⟨#[61]⟩ : ByteArray), (⟨#[91]⟩ : ByteArray), (⟨#[93]⟩ : ByteArray), (⟨#[40]⟩ : ByteArray), (⟨#[41]⟩ : ByteArray), (⟨#[123]⟩ : ByteArray), (⟨#[125]⟩ : ByteArray), (⟨#[43]⟩ : ByteArray), (⟨#[45]⟩ : ByteArray), (⟨#[42]⟩ : ByteArray), (⟨#[44]⟩ : ByteArray)] hi (by decide) (by decide)
      obtain ⟨b, i2, h2, e2, m2, c2⟩ := spec_l1Str_ex h1 [(⟨#[32]⟩ : ByteArray), (⟨#[32]⟩ : ByteArray), (⟨#[10]⟩ : ByteArray), (⟨#[]⟩ : ByteArray)] c1 (by decide) (by decide)
      have sa : a.size ≤ 5 := by
        simp only [List.mem_cons, List.not_mem_nil, or_false] at m1
        rcases m1 with rfl | rfl | rfl | rfl | rfl | rfl | rfl | rfl | rfl | rfl | rfl | rfl | rfl | rfl | rfl | rfl | rfl | rfl | rfl | rfl | rfl | rfl | rfl | rfl <;> decide
      have sb : b.size ≤ 1 := by
        simp only [List.mem_cons, List.not_mem_nil, or_false] at m2
        rcases m2 with rfl | rfl | rfl | rfl <;> decide
      have z1 : (x ++ a).size = x.size + a.size := size_app x a
      have z2 : ((x ++ a) ++ b).size = x.size + a.size + b.size := by rw [size_app, size_app]
      have g1 : x.size + a.size ≤ 9223372036854775807 := by omega
      have g2 : (x ++ a).size + b.size ≤ 9223372036854775807 := by omega
      have g3 : ((n + 1 : Nat) : Int) > 0 := by omega
      have hw : wrap64 (((n + 1 : Nat) : Int) - 1) = (n : Int) := by
        rw [w64 (by omega) (by omega)]
        omega
      obtain ⟨s, i', h', E, hs, hc⟩ := ih ((x ++ a) ++ b) i2 h2 c2 (by omega)
      refine ⟨s, i', h', Ev.step (fun k => by rw [spec_l2Text.l0]) ?_, hs, hc⟩
      simp only [g3, if_true, e1, e2, Option.bind_some, g1, g2, hw]
      exact E
  unfold spec_l2Text.f
  obtain ⟨b, i1, h1, e1, p1, q1, c1⟩ := spec_l1Below_ex h 14 hi (by omega) (by omega)
  obtain ⟨n, rfl⟩ : ∃ n : Nat, b = (n : Int) := ⟨b.toNat, by omega⟩
  simp only [e1, Option.bind_some]
  exact key n (⟨#[]⟩ : ByteArray) i1 h1 c1 (by
    have : (⟨#[]⟩ : ByteArray).size = 0 := rfl
    omega)
theorem spec_l2Prog_ex {l : List Int} {i : Int} (h : Int) (hi : At l i) : ∃ s i' h', spec_l2Prog.f l i h = some (s, i', h') ∧ s.size ≤ 3000 ∧ At l i' := by
  unfold spec_l2Prog.f
  obtain ⟨s, i1, h1, e1, m1, c1⟩ := spec_l1Str_ex h ([(⟨#[97,114,114,97,121,32,97,32,56,59,10,102,111,114,32,105,32,61,32,48,32,116,111,32,55,32,123,10,32,32,97,91,105,93,32,61,32,105,32,42,32,50,59,10,125,10,112,114,105,110,116,32,97,91,51,93,59,10]⟩ : ByteArray),(⟨#[97,114,114,97,121,32,97,32,56,59,10,97,114,114,97,121,32,98,32,56,59,10,102,111,114,32,105,32,61,32,48,32,116,111,32,55,32,123,10,32,32,97,91,105,93,32,61,32,105,59,10,125,10,102,111,114,32,105,32,61,32,49,32,116,111,32,55,32,123,10,32,32,98,91,105,93,32,61,32,97,91,105,32,45,32,49,93,32,43,32,97,91,105,93,59,10,125,10]⟩ : ByteArray),(⟨#[97,114,114,97,121,32,97,32,56,59,10,97,91,48,93,32,61,32,49,59,10,102,111,114,32,105,32,61,32,49,32,116,111,32,55,32,123,10,32,32,97,91,105,93,32,61,32,97,91,105,32,45,32,49,93,32,43,32,105,59,10,125,10,112,114,105,110,116,32,97,91,55,93,59,10]⟩ : ByteArray),(⟨#[97,114,114,97,121,32,97,32,56,59,10,102,111,114,32,105,32,61,32,48,32,116,111,32,55,32,123,10,32,32,97,91,105,93,32,61,32,105,32,42,32,105,59,10,125,10,115,32,61,32,53,59,10,102,111,114,32,105,32,61,32,48,32,116,111,32,55,32,123,10,32,32,115,32,61,32,115,32,43,32,97,91,105,93,59,10,125,10,112,114,105,110,116,32,115,59,10]⟩ : ByteArray),(⟨#[97,114,114,97,121,32,97,32,57,59,10,102,111,114,32,105,32,61,32,48,32,116,111,32,56,32,123,10,32,32,116,32,61,32,105,32,42,32,51,59,10,32,32,97,91,105,93,32,61,32,116,32,43,32,49,59,10,125,10,112,114,105,110,116,32,116,59,10]⟩ : ByteArray),(⟨#[97,114,114,97,121,32,97,32,57,59,10,102,111,114,32,105,32,61,32,48,32,116,111,32,50,32,123,10,32,32,102,111,114,32,106,32,61,32,48,32,116,111,32,50,32,123,10,32,32,32,32,97,91,105,32,42,32,51,32,43,32,106,93,32,61,32,105,32,45,32,106,59,10,32,32,125,10,125,10]⟩ : ByteArray),(⟨#[97,114,114,97,121,32,97,32,56,59,10,102,111,114,32,105,32,61,32,50,32,116,111,32,55,32,123,10,32,32,97,91,105,93,32,61,32,97,91,105,32,45,32,50,93,32,43,32,49,59,10,125,10]⟩ : ByteArray),(⟨#[97,114,114,97,121,32,97,32,56,59,10,109,32,61,32,57,57,59,10,102,111,114,32,105,32,61,32,48,32,116,111,32,55,32,123,10,32,32,109,32,61,32,109,105,110,40,109,44,32,97,91,105,93,32,45,32,105,41,59,10,125,10,112,114,105,110,116,32,109,59,10]⟩ : ByteArray),(⟨#[97,114,114,97,121,32,97,32,56,59,10,102,111,114,32,105,32,61,32,48,32,116,111,32,56,32,123,10,32,32,97,91,105,93,32,61,32,49,59,10,125,10]⟩ : ByteArray),(⟨#[97,114,114,97,121,32,97,32,56,59,10,102,111,114,32,105,32,61,32,48,32,116,111,32,51,32,123,10,32,32,97,91,105,93,32,61,32,97,91,105,32,43,32,52,93,32,43,32,49,59,10,125,10]⟩ : ByteArray),(⟨#[97,114,114,97,121,32,97,32,56,59,10,102,111,114,32,105,32,61,32,48,32,116,111,32,55,32,123,10,32,32,97,91,97,91,105,93,93,32,61,32,105,59,10,125,10]⟩ : ByteArray),(⟨#[120,32,61,32,51,59,10,102,111,114,32,105,32,61,32,48,32,116,111,32,120,32,123,10,32,32,121,32,61,32,121,32,42,32,50,32,43,32,105,59,10,125,10,112,114,105,110,116,32,121,32,45,32,120,59,10]⟩ : ByteArray)] : List ByteArray) hi (by decide) (by decide)
  refine ⟨s, i1, h1, by rw [e1]; rfl, ?_, c1⟩
  have : ∀ x ∈ ([(⟨#[97,114,114,97,121,32,97,32,56,59,10,102,111,114,32,105,32,61,32,48,32,116,111,32,55,32,123,10,32,32,97,91,105,93,32,61,32,105,32,42,32,50,59,10,125,10,112,114,105,110,116,32,97,91,51,93,59,10]⟩ : ByteArray),(⟨#[97,114,114,97,121,32,97,32,56,59,10,97,114,114,97,121,32,98,32,56,59,10,102,111,114,32,105,32,61,32,48,32,116,111,32,55,32,123,10,32,32,97,91,105,93,32,61,32,105,59,10,125,10,102,111,114,32,105,32,61,32,49,32,116,111,32,55,32,123,10,32,32,98,91,105,93,32,61,32,97,91,105,32,45,32,49,93,32,43,32,97,91,105,93,59,10,125,10]⟩ : ByteArray),(⟨#[97,114,114,97,121,32,97,32,56,59,10,97,91,48,93,32,61,32,49,59,10,102,111,114,32,105,32,61,32,49,32,116,111,32,55,32,123,10,32,32,97,91,105,93,32,61,32,97,91,105,32,45,32,49,93,32,43,32,105,59,10,125,10,112,114,105,110,116,32,97,91,55,93,59,10]⟩ : ByteArray),(⟨#[97,114,114,97,121,32,97,32,56,59,10,102,111,114,32,105,32,61,32,48,32,116,111,32,55,32,123,10,32,32,97,91,105,93,32,61,32,105,32,42,32,105,59,10,125,10,115,32,61,32,53,59,10,102,111,114,32,105,32,61,32,48,32,116,111,32,55,32,123,10,32,32,115,32,61,32,115,32,43,32,97,91,105,93,59,10,125,10,112,114,105,110,116,32,115,59,10]⟩ : ByteArray),(⟨#[97,114,114,97,121,32,97,32,57,59,10,102,111,114,32,105,32,61,32,48,32,116,111,32,56,32,123,10,32,32,116,32,61,32,105,32,42,32,51,59,10,32,32,97,91,105,93,32,61,32,116,32,43,32,49,59,10,125,10,112,114,105,110,116,32,116,59,10]⟩ : ByteArray),(⟨#[97,114,114,97,121,32,97,32,57,59,10,102,111,114,32,105,32,61,32,48,32,116,111,32,50,32,123,10,32,32,102,111,114,32,106,32,61,32,48,32,116,111,32,50,32,123,10,32,32,32,32,97,91,105,32,42,32,51,32,43,32,106,93,32,61,32,105,32,45,32,106,59,10,32,32,125,10,125,10]⟩ : ByteArray),(⟨#[97,114,114,97,121,32,97,32,56,59,10,102,111,114,32,105,32,61,32,50,32,116,111,32,55,32,123,10,32,32,97,91,105,93,32,61,32,97,91,105,32,45,32,50,93,32,43,32,49,59,10,125,10]⟩ : ByteArray),(⟨#[97,114,114,97,121,32,97,32,56,59,10,109,32,61,32,57,57,59,10,102,111,114,32,105,32,61,32,48,32,116,111,32,55,32,123,10,32,32,109,32,61,32,109,105,110,40,109,44,32,97,91,105,93,32,45,32,105,41,59,10,125,10,112,114,105,110,116,32,109,59,10]⟩ : ByteArray),(⟨#[97,114,114,97,121,32,97,32,56,59,10,102,111,114,32,105,32,61,32,48,32,116,111,32,56,32,123,10,32,32,97,91,105,93,32,61,32,49,59,10,125,10]⟩ : ByteArray),(⟨#[97,114,114,97,121,32,97,32,56,59,10,102,111,114,32,105,32,61,32,48,32,116,111,32,51,32,123,10,32,32,97,91,105,93,32,61,32,97,91,105,32,43,32,52,93,32,43,32,49,59,10,125,10]⟩ : ByteArray),(⟨#[97,114,114,97,121,32,97,32,56,59,10,102,111,114,32,105,32,61,32,48,32,116,111,32,55,32,123,10,32,32,97,91,97,91,105,93,93,32,61,32,105,59,10,125,10]⟩ : ByteArray),(⟨#[120,32,61,32,51,59,10,102,111,114,32,105,32,61,32,48,32,116,111,32,120,32,123,10,32,32,121,32,61,32,121,32,42,32,50,32,43,32,105,59,10,125,10,112,114,105,110,116,32,121,32,45,32,120,59,10]⟩ : ByteArray)] : List ByteArray), x.size ≤ 3000 := by decide +kernel
  exact this s m1
theorem spec_DrawLex_ex (l : List Int) (hl : l.length ≤ maxLen) : ∃ s, Ev (fun k => spec_DrawLex.f k l) s ∧ s.size ≤ 10000 := by
  obtain ⟨h, e0⟩ := spec_l1New_ev l hl
  have h0 : At l 0 := ⟨hl, by omega, by omega⟩
  obtain ⟨t, i1, h1, e1, zt, c1⟩ := spec_l2Text_ex h h0
  obtain ⟨b, i2, h2, e2, p2, q2, c2⟩ := spec_l1Below_ex h1 8 c1 (by omega) (by omega)
  have fill : ∀ n : Nat, ∀ (x : ByteArray) (j : Nat) (i h : Int), j + n = 602 → At l i → x.size + n ≤ 10000 → ∃ s, Ev (fun k => spec_DrawLex.l0 k x (j : Int) l i h) s ∧ s.size ≤ 10000 := by
    intro n
    induction n with
    | zero =>
      intro x j i h hj hi hx
      obtain ⟨b, i3, h3, e3, p3, q3, c3⟩ := spec_l1Below_ex h 3 hi (by omega) (by omega)
      have g : ¬ (j : Int) < wrap64 (599 + b) := by
        rw [w64 (by omega) (by omega)]
        omega
      refine ⟨x, Ev.step (fun k => by rw [spec_DrawLex.l0]) ?_, by omega⟩
      simp only [e3, Option.bind_some, g, if_false]
      exact Ev.now _
    | succ n ih =>
      intro x j i h hj hi hx
      obtain ⟨b, i3, h3, e3, p3, q3, c3⟩ := spec_l1Below_ex h 3 hi (by omega) (by omega)
      by_cases g : (j : Int) < wrap64 (599 + b)
      · have g1 : x.size + 1 ≤ 9223372036854775807 := by omega
        have hw : wrap64 ((j : Int) + 1) = ((j + 1 : Nat) : Int) := by rw [w64 (by omega) (by omega)]; omega
        have z1 : (⟨#[59]⟩ : ByteArray).size = 1 := rfl
        obtain ⟨s, E, hs⟩ := ih (x ++ (⟨#[59]⟩ : ByteArray)) (j + 1) i3 h3 (by omega) c3 (by rw [size_app, z1]; omega)
        refine ⟨s, Ev.step (fun k => by rw [spec_DrawLex.l0]) ?_, hs⟩
        simp only [e3, Option.bind_some, g, g1, if_true, hw]
        exact E
      · refine ⟨x, Ev.step (fun k => by rw [spec_DrawLex.l0]) ?_, by omega⟩
        simp only [e3, Option.bind_some, g, if_false]
        exact Ev.now _
  suffices hJ : ∃ s, Ev (fun k => if b = 0 then ((spec_l1Str.f l i2 h2 (([(⟨#[36]⟩ : ByteArray), (⟨#[65]⟩ : ByteArray), (⟨#[48, 49]⟩ : ByteArray), (⟨#[49, 48, 48, 48, 48, 48, 48]⟩ : ByteArray), (⟨#[57, 57, 57, 57, 57, 57]⟩ : ByteArray), (⟨#[115, 101, 118, 101, 110, 108, 101]⟩ : ByteArray), (⟨#[60]⟩ : ByteArray), (⟨#[9]⟩ : ByteArray)] : List ByteArray))).bind fun bt249 => (if t.size + bt249.1.size ≤ 9223372036854775807 then (some (t ++ bt249.1)) else (none))) else (if b = 1 then ((spec_l2Prog.f l i2 h2).bind fun bt252 => (some bt252.1)) else (if b = 2 then ((spec_l1Below.f l i2 h2 (wrap64 ((t.size : Int) + 1))).bind fun bt255 => (if 0 ≤ bt255.1 then (if bt255.1 ≤ (t.size : Int) then ((spec_l1Str.f l bt255.2.1 bt255.2.2 (([(⟨#[32]⟩ : ByteArray), (⟨#[57]⟩ : ByteArray), (⟨#[120]⟩ : ByteArray), (⟨#[255]⟩ : ByteArray)] : List ByteArray))).bind fun bt261 => (if (t.extract 0 (bt255.1 : Int).toNat).size + bt261.1.size ≤ 9223372036854775807 then (if ((t.extract 0 (bt255.1 : Int).toNat) ++ bt261.1).size + (t.extract (bt255.1 : Int).toNat t.size).size ≤ 9223372036854775807 then (some (((t.extract 0 (bt255.1 : Int).toNat) ++ bt261.1) ++ (t.extract (bt255.1 : Int).toNat t.size))) else (none)) else (none))) else (none)) else (none))) else ((spec_l1Once.f l i2 h2 50).bind fun bt264 => (if bt264.1 = true then (spec_DrawLex.l0 k t 0 l bt264.2.1 bt264.2.2) else (some t)))))) s ∧ s.size ≤ 10000 by
    obtain ⟨s, E, hs⟩ := hJ
    refine ⟨s, ?_, hs⟩
    unfold spec_DrawLex.f
    refine Ev.then e0 (Ev.then e1 ?_)
    simp only [e2, Option.bind_some]
    exact E
  by_cases b0 : b = 0
  · obtain ⟨u, i3, h3, e3, m3, c3⟩ := spec_l1Str_ex h2 [(⟨#[36]⟩ : ByteArray), (⟨#[65]⟩ : ByteArray), (⟨#[48, 49]⟩ : ByteArray), (⟨#[49, 48, 48, 48, 48, 48, 48]⟩ : ByteArray), (⟨#[57, 57, 57, 57, 57, 57]⟩ : ByteArray), (⟨#[115, 101, 118, 101, 110, 108, 101]⟩ : ByteArray), (⟨#[60]⟩ : ByteArray), (⟨#[9]⟩ : ByteArray)] c2 (by decide) (by decide)
    have su : u.size ≤ 7 := by
      simp only [List.mem_cons, List.not_mem_nil, or_false] at m3
      rcases m3 with rfl | rfl | rfl | rfl | rfl | rfl | rfl | rfl <;> decide
    have g : t.size + u.size ≤ 9223372036854775807 := by omega
    simp only [b0, if_true, e3, Option.bind_some, g]
    exact ⟨_, Ev.now _, by rw [size_app]; omega⟩
  by_cases b1 : b = 1
  · obtain ⟨u, i3, h3, e3, m3, c3⟩ := spec_l2Prog_ex h2 c2
    simp only [b0, b1, if_true, if_false, e3, Option.bind_some, show ¬ (1 : Int) = 0 by omega]
    exact ⟨_, Ev.now _, by omega⟩
  by_cases b2 : b = 2
  · have hw : wrap64 ((t.size : Int) + 1) = (t.size : Int) + 1 := w64 (by omega) (by omega)
    obtain ⟨j, i3, h3, e3, p3, q3, c3⟩ := spec_l1Below_ex h2 ((t.size : Int) + 1) c2 (by omega) (by omega)
    obtain ⟨u, i4, h4, e4, m4, c4⟩ := spec_l1Str_ex h3 [(⟨#[32]⟩ : ByteArray), (⟨#[57]⟩ : ByteArray), (⟨#[120]⟩ : ByteArray), (⟨#[255]⟩ : ByteArray)] c3 (by decide) (by decide)
    have su : u.size ≤ 1 := by
      simp only [List.mem_cons, List.not_mem_nil, or_false] at m4
      rcases m4 with rfl | rfl | rfl | rfl <;> decide
    have z1 : (t.extract 0 j.toNat).size ≤ t.size := by
      rw [ByteArray.size_extract]
      omega
    have z2 : (t.extract j.toNat t.size).size ≤ t.size := by
      rw [ByteArray.size_extract]
      omega
    have g1 : (t.extract 0 j.toNat).size + u.size ≤ 9223372036854775807 := by omega
    have g2 : ((t.extract 0 j.toNat) ++ u).size + (t.extract j.toNat t.size).size ≤ 9223372036854775807 := by
      rw [size_app]
      omega
    have j1 : j ≤ (t.size : Int) := by omega
    simp only [b2, if_true, if_false, show ¬ (2 : Int) = 0 by omega, show ¬ (2 : Int) = 1 by omega, hw, e3, e4, Option.bind_some, p3, j1, g1, g2]
    exact ⟨_, Ev.now _, by rw [size_app, size_app]; omega⟩
  · obtain ⟨o, i3, h3, e3, c3⟩ := spec_l1Once_ex h2 50 c2 (by omega) (by omega)
    simp only [b0, b1, b2, if_false, e3, Option.bind_some]
    cases o with
    | true =>
      simp only [if_true]
      exact fill 602 t 0 i3 h3 (by omega) c3 (by omega)
    | false =>
      simp only [Bool.false_eq_true, if_false]
      exact ⟨_, Ev.now _, by omega⟩
theorem laws_sameToks_refl (l : List S47) (hl : l.length ≤ maxLen) : Ev (fun k => laws_sameToks.f k l l) true := by
  unfold laws_sameToks.f
  simp only [if_true]
  have key : ∀ d i, i + d = l.length → Ev (fun k => laws_sameToks.l0 k l l (i : Int)) true := by
    intro d
    induction d with
    | zero =>
      intro i hi
      refine Ev.step (fun k => by rw [laws_sameToks.l0]) ?_
      have c1 : ¬ (i : Int) < (l.length : Int) := by omega
      simp only [c1, if_false]
      exact Ev.now _
    | succ d ih =>
      intro i hi
      refine Ev.step (fun k => by rw [laws_sameToks.l0]) ?_
      have c1 : (i : Int) < (l.length : Int) := by omega
      have c0 : (0 : Int) ≤ (i : Int) := by omega
      have hw : wrap64 ((i : Int) + 1) = ((i + 1 : Nat) : Int) := wi (n := l.length) (by omega) hl
      simp only [c1, c0, if_true, beq_self_eq_true, Bool.not_true, Bool.or_self, Bool.false_eq_true, if_false, hw]
      exact ih (i + 1) (by omega)
  exact key l.length 0 (by omega)
theorem good_txt {x : S47} (h : GoodT x) : (-9223372036854775808 ≤ x.f2 ∧ x.f2 ≤ 9223372036854775807) ∧ (txtS x).size ≤ 3000 := by
  rcases h.kind with ⟨k0, k2, _⟩ | ⟨k0, k2, _⟩ | ⟨k0, k1, v, k2, kv⟩ | ⟨k0, k2, _⟩
  · refine ⟨by omega, ?_⟩
    unfold txtS
    rw [if_neg (by omega)]
    exact h.sz
  · refine ⟨by omega, ?_⟩
    unfold txtS
    rw [if_neg (by omega)]
    exact h.sz
  · refine ⟨by omega, ?_⟩
    unfold txtS
    rw [if_pos k0, k2, ← len_size, numS_nat]
    have := (dec_len v (by omega)).2
    omega
  · refine ⟨by omega, ?_⟩
    unfold txtS
    rw [if_neg (by omega)]
    exact h.sz
theorem sumT_le : ∀ (l : List S47), (∀ x ∈ l, GoodT x) → sumT l ≤ 3001 * l.length
  | [], _ => by simp [sumT]
  | x :: xs, h => by
    have ih := sumT_le xs fun y hy => h y (List.mem_cons_of_mem _ hy)
    have h0 := (good_txt (h x List.mem_cons_self)).2
    simp only [sumT, List.length_cons]
    omega
theorem FnLex : laws_FnLex.Pure := by
  intro l hl _ _
  apply Ev.rounds
  unfold laws_FnLex.f laws_big.f
  simp only [Option.bind_some]
  by_cases big : (l.length : Int) > 1048576
  · simp only [big, decide_true, if_true]
    exact Ev.now _
  simp only [big, decide_false, Bool.false_eq_true, if_false]
  obtain ⟨s, Es, zs⟩ := spec_DrawLex_ex l hl
  obtain ⟨h, e0⟩ := spec_l1New_ev l hl
  have h0 : At l 0 := ⟨hl, by omega, by omega⟩
  obtain ⟨a, ia, ha, ea, ma, ca⟩ := spec_l1Str_ex h [(⟨#[]⟩ : ByteArray), (⟨#[97]⟩ : ByteArray), (⟨#[115, 105, 120, 108, 101, 116]⟩ : ByteArray), (⟨#[115, 101, 118, 101, 110, 108, 101]⟩ : ByteArray), (⟨#[102, 111, 114]⟩ : ByteArray), (⟨#[109, 105, 110]⟩ : ByteArray), (⟨#[65]⟩ : ByteArray), (⟨#[97, 49]⟩ : ByteArray), (⟨#[105]⟩ : ByteArray)] h0 (by decide) (by decide)
  have za : a.size ≤ 7 := by
    simp only [List.mem_cons, List.not_mem_nil, or_false] at ma
    rcases ma with rfl | rfl | rfl | rfl | rfl | rfl | rfl | rfl | rfl <;> decide
  have Da : Ev (fun k => spec_DrawNameOk.f k l) a := by
    unfold spec_DrawNameOk.f
    refine Ev.then e0 ?_
    simp only [ea, Option.bind_some]
    exact Ev.now _
  obtain ⟨t, it, ht, et, zt, ct⟩ := spec_l2Text_ex h h0
  obtain ⟨Q, Q1, Q2, Q3⟩ := lex_both t (by simp only [maxLen]; omega) (by omega)
  obtain ⟨Q', P1, _, P3, P4⟩ := lex_good t
  obtain rfl : Q' = Q := Ev.uniq P1 Q1
  have Db : Ev (fun k => spec_DrawTokText.f k l) Q'.1 := by
    unfold spec_DrawTokText.f
    exact Ev.then e0 (Ev.then et (Ev.then Q2 (Ev.now _)))
  obtain ⟨R, R1, R2, R3⟩ := lex_both s (by simp only [maxLen]; omega) (by omega)
  obtain ⟨R', G1, G2, G3, G4⟩ := lex_good s
  obtain rfl : R' = R := Ev.uniq G1 R1
  have sT := sumT_le Q'.1 P3
  obtain ⟨x, X1, X2⟩ := impl_TokText_ev Q'.1 (by omega) (fun y hy => (good_txt (P3 y hy)).1) (by omega)
  obtain ⟨y, Y1, Y2⟩ := spec_TokText_ev Q'.1 (by simp only [maxLen]; omega) (fun y hy => (good_txt (P3 y hy)).1) (by omega)
  have exy : (x.toList != y.toList) = false := by
    rw [X2, Y2]
    simp
  refine Ev.then Es (Ev.then R1 (Ev.then R2 (Ev.then Da (Ev.then Db ?_))))
  simp only [bne_self_eq_false, Bool.false_eq_true, if_false]
  refine Ev.then (laws_sameToks_refl _ (by simp only [maxLen]; omega)) ?_
  simp only [if_true]
  refine Ev.then (impl_NameOk_ev a (by simp only [maxLen]; omega)) (Ev.then (spec_NameOk_ev a (by simp only [maxLen]; omega)) ?_)
  simp only [bne_self_eq_false, Bool.false_eq_true, if_false]
  refine Ev.then X1 (Ev.then Y1 ?_)
  rw [exy]
  refine Ev.step (fun k => by rw [laws_FnLex.j0]) ?_
  simp only [Bool.false_eq_true, if_false]
  obtain ⟨m, ok⟩ := R'
  cases ok with
  | false =>
    have hm : m = [] := G2 rfl
    subst hm
    simp only [Bool.false_eq_true, if_false]
    exact Ev.now _
  | true =>
    have sM := sumT_le m G3
    have G4' : m.length ≤ 600 := G4
    obtain ⟨u, U1, U2⟩ := impl_TokText_ev m (by omega) (fun y hy => (good_txt (G3 y hy)).1) (by omega)
    simp only [if_true]
    refine Ev.then U1 ?_
    by_cases zu : (u.size : Int) > 3000
    · have L : Ev (fun k => impl_Lex.f k u) (([] : List S47), false) := by
        unfold impl_Lex.f
        simp only [zu, if_true]
        exact Ev.now _
      refine Ev.then L ?_
      simp only [zu, if_true, Bool.false_eq_true, if_false]
      exact Ev.now _
    · have L : Ev (fun k => impl_Lex.f k u) (m, true) := by
        unfold impl_Lex.f
        simp only [zu, if_false]
        have := lex_back u (by omega) m 0 [] G3 (by
          have := sits_of u m [] (by rw [U2, List.nil_append])
          exact this) (by simp; omega)
        exact this
      refine Ev.then L ?_
      simp only [zu, if_false, if_true]
      exact Ev.then (laws_sameToks_refl m (by simp only [maxLen]; omega)) (Ev.now _)

end Go.Proofs.YtpencchkfbekdaaDoor.Pure
