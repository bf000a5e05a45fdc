/- The pure statement of FnDigits: what the printed functions compute makes the law answer true. Conditions: those in the statement. -/
import Derived.Test.YtpencchkfbekdaaDoorLem
import Derived.Test.YtpencchkfbekdaaDoorPFnDigitsx0
import Derived.Test.YtpencchkfbekdaaDoorPFnDigitsx1
import Derived.Test.YtpencchkfbekdaaDoorPFnDigitsx2
namespace Go.Proofs.YtpencchkfbekdaaDoor.Pure
open Go.RowKit Go.Proofs.YtpencchkfbekdaaDoor.PFnDigits Go.Proofs.YtpencchkfbekdaaDoorW.PrintWords Go.Proofs.YtpencchkfbekdaaDoorW.PrintLast Go.Proofs.YtpencchkfbekdaaDoorW.PrintMore Go.Proofs.YtpencchkfbekdaaDoor.Lem
set_option linter.unusedVariables false
set_option linter.unusedSimpArgs false

theorem bits_and8 (a : Int) : Go.bits .and .i64 a 255 = a % 256 := by
  have h : (255 : Int) = ((2 ^ 8 - 1 : Nat) : Int) := by decide
  unfold Go.bits
  simp only [Go.IntKind.wrap_i64]
  rw [h]
  simp only [BitVec.toNat_and, BitVec.ofInt_natCast, BitVec.toNat_ofInt, BitVec.toNat_ofNat]
  have e : (2 ^ 8 - 1) % 2 ^ Go.IntKind.bits .i64 = 2 ^ 8 - 1 := by decide
  rw [e, Nat.and_two_pow_sub_one_eq_mod]
  have e2 : Go.IntKind.bits .i64 = 64 := rfl
  rw [e2]
  omega
theorem spec_l1New_ev (l : List Int) (hl : l.length ≤ maxLen) : ∃ h, Ev (fun k => spec_l1New.f k l) (l, 0, h) := by
  have key : ∀ d i, i + d = l.length → ∀ x, ∃ h, Ev (fun k => spec_l1New.l0 k l x (i : Int)) (l, 0, h) := by
    intro d
    induction d with
    | zero =>
      intro i hi x
      refine ⟨x, Ev.step (fun k => by rw [spec_l1New.l0]) ?_⟩
      have c : ¬ (i : Int) < (l.length : Int) := by omega
      simp only [c, if_false]
      exact Ev.now _
    | succ d ih =>
      intro i hi x
      have c : (i : Int) < (l.length : Int) := by omega
      have c0 : (0 : Int) ≤ (i : Int) := by omega
      have hw : wrap64 ((i : Int) + 1) = ((i + 1 : Nat) : Int) := wi (n := l.length) (by omega) hl
      by_cases e : (i : Int) < 4000
      · obtain ⟨h, hh⟩ := ih (i + 1) (by omega) (Go.bits .and .i64 (wrap64 ((wrap64 ((wrap64 (x * 137)) + (wrap64 (rd l (i : Int))))) + 11)) 1073741823)
        refine ⟨h, Ev.step (fun k => by rw [spec_l1New.l0]) ?_⟩
        simp only [c, c0, e, if_true, hw]
        exact hh
      · refine ⟨x, Ev.step (fun k => by rw [spec_l1New.l0]) ?_⟩
        simp only [c, e, if_true, if_false]
        exact Ev.now _
  exact key l.length 0 (by omega) _
/-- Where a cursor may stand. -/
def At (l : List Int) (i : Int) : Prop := l.length ≤ maxLen ∧ 0 ≤ i ∧ i ≤ (l.length : Int)
theorem spec_l1Byte_ex {l : List Int} {i : Int} (h : Int) (hi : At l i) : ∃ b i' h', spec_l1Byte.f l i h = some (b, i', h') ∧ 0 ≤ b ∧ b ≤ 255 ∧ At l i' := by
  obtain ⟨hl, h0, h1⟩ := hi
  have hm := hl
  unfold maxLen at hm
  unfold spec_l1Byte.f
  by_cases c : i < (l.length : Int)
  · simp only [c, h0, if_true]
    have hw : wrap64 (i + 1) = i + 1 := w64 (by omega) (by omega)
    refine ⟨_, _, _, rfl, ?_, ?_, hl, ?_, ?_⟩
    · rw [bits_and8]; omega
    · rw [bits_and8]; omega
    · omega
    · omega
  · simp only [c, if_false]
    refine ⟨_, _, _, rfl, ?_, ?_, hl, h0, h1⟩
    · rw [bits_and8]; omega
    · rw [bits_and8]; omega
theorem spec_l1Below_ex {l : List Int} {i : Int} (h : Int) (n : Int) (hi : At l i) (hn : 0 < n) (hn2 : n ≤ 256) : ∃ b i' h', spec_l1Below.f l i h n = some (b, i', h') ∧ 0 ≤ b ∧ b < n ∧ At l i' := by
  unfold spec_l1Below.f
  obtain ⟨b, i', h', e, b0, b1, c⟩ := spec_l1Byte_ex h hi
  have c1 : ¬ n ≤ 0 := by omega
  have c2 : ¬ n = 0 := by omega
  simp only [c1, c2, hn2, e, if_true, if_false, Option.bind_some]
  refine ⟨_, _, _, rfl, ?_, ?_, c⟩
  · exact Int.tmod_nonneg _ b0
  · exact Int.tmod_lt_of_pos _ hn
theorem spec_l1Int_ex {l : List Int} {i : Int} (h : Int) (q : List Int) (hi : At l i) (hn : 0 < q.length) (hn2 : q.length ≤ 256) : ∃ x i' h', spec_l1Int.f l i h q = some (x, i', h') ∧ x ∈ q ∧ At l i' := by
  unfold spec_l1Int.f
  obtain ⟨b, i', h', e, b0, b1, c⟩ := spec_l1Below_ex h (q.length : Int) hi (by omega) (by omega)
  simp only [e, b0, b1, if_true, Option.bind_some]
  refine ⟨_, _, _, rfl, ?_, c⟩
  obtain ⟨j, rfl⟩ : ∃ j : Nat, b = (j : Int) := ⟨b.toNat, by omega⟩
  exact getD_mem q _ (by omega)
theorem spec_l1Str_ex {l : List Int} {i : Int} (h : Int) (q : List ByteArray) (hi : At l i) (hn : 0 < q.length) (hn2 : q.length ≤ 256) : ∃ x i' h', spec_l1Str.f l i h q = some (x, i', h') ∧ x ∈ q ∧ At l i' := by
  unfold spec_l1Str.f
  obtain ⟨b, i', h', e, b0, b1, c⟩ := spec_l1Below_ex h (q.length : Int) hi (by omega) (by omega)
  simp only [e, b0, b1, if_true, Option.bind_some]
  refine ⟨_, _, _, rfl, ?_, c⟩
  obtain ⟨j, rfl⟩ : ∃ j : Nat, b = (j : Int) := ⟨b.toNat, by omega⟩
  exact getD_mem q _ (by omega)
theorem spec_l1Once_ex {l : List Int} {i : Int} (h : Int) (n : Int) (hi : At l i) (hn : 0 < n) (hn2 : n ≤ 256) : ∃ b i' h', spec_l1Once.f l i h n = some (b, i', h') ∧ At l i' := by
  unfold spec_l1Once.f
  obtain ⟨b, i', h', e, b0, b1, c⟩ := spec_l1Below_ex h n hi hn hn2
  simp only [e, Option.bind_some]
  exact ⟨_, _, _, rfl, c⟩
open Go.Lib
/-! ### numerals -/
def finN (n : Int) (l : List UInt8) : ByteArray := if n < 0 then ⟨(45 :: l).toArray⟩ else ⟨l.toArray⟩
theorem strOne (d : Nat) (l : List UInt8) (h : d < 10) : strOfNums [wrap64 (48 + (d : Int)) % 256] ++ (⟨l.toArray⟩ : ByteArray) = ⟨(UInt8.ofNat (48 + d) :: l).toArray⟩ := by
  have e : wrap64 (48 + (d : Int)) % 256 = ((48 + d : Nat) : Int) := by
    rw [w64 (by omega) (by omega)]
    omega
  rw [e]
  apply ByteArray.ext
  rw [ByteArray.data_append]
  simp only [strOfNums, List.map_cons, List.map_nil, Int.toNat_natCast]
  simp
theorem strOne_size (x : Int) : (strOfNums [x]).size = 1 := by simp [strOfNums, ByteArray.size]
theorem digits_step (m : Nat) (h : m ≠ 0) (l : List UInt8) : (if m / 10 = 0 then UInt8.ofNat (48 + m % 10) :: l else decDigits (m / 10) ++ UInt8.ofNat (48 + m % 10) :: l) = decDigits m ++ l := by
  by_cases c : m < 10
  · rw [if_pos (by omega), decDigits_one c, Nat.mod_eq_of_lt c]
    rfl
  · rw [if_neg (by omega), decDigits.eq_1 m, dif_neg c, List.append_assoc]
    rfl
theorem spec_NumText_l0 (n : Int) : ∀ (j : Nat) (x : Int) (l : List UInt8), x.natAbs < 10 ^ j → l.length + j ≤ 100 → -9223372036854775808 ≤ x → x ≤ 9223372036854775807 → Ev (fun k => spec_NumText.l0 k n (⟨l.toArray⟩ : ByteArray) x) (finN n (if x.natAbs = 0 then l else decDigits x.natAbs ++ l)) := by
  have zero : ∀ (l : List UInt8), l.length ≤ 100 → Ev (fun k => spec_NumText.l0 k n (⟨l.toArray⟩ : ByteArray) 0) (finN n l) := by
    intro l hl
    refine Ev.step (fun k => by rw [spec_NumText.l0]) ?_
    have hs : (⟨l.toArray⟩ : ByteArray).size = l.length := by simp [ByteArray.size]
    have c : 1 + (⟨l.toArray⟩ : ByteArray).size ≤ 9223372036854775807 := by omega
    unfold finN
    by_cases hn : n < 0
    · simp only [hn, c, if_true]
      have e : (⟨#[45]⟩ : ByteArray) ++ (⟨l.toArray⟩ : ByteArray) = ⟨(45 :: l).toArray⟩ := by
        apply ByteArray.ext
        rw [ByteArray.data_append]
        simp
      rw [e]
      exact Ev.now _
    · simp only [hn, if_true, if_false]
      exact Ev.now _
  intro j
  induction j with
  | zero =>
    intro x l hx hl h0 h1
    have e : x = 0 := by
      have : x.natAbs = 0 := by simpa using hx
      omega
    subst e
    exact zero l (by omega)
  | succ j ih =>
    intro x l hx hl h0 h1
    by_cases e : x = 0
    · subst e
      exact zero l (by omega)
    have hm : x.natAbs ≠ 0 := by omega
    have hsz : (⟨l.toArray⟩ : ByteArray).size = l.length := by simp [ByteArray.size]
    have ht : (Int.tdiv x 10).natAbs = x.natAbs / 10 := Int.natAbs_tdiv x 10
    have hr : (Int.tmod x 10).natAbs = x.natAbs % 10 := Int.natAbs_tmod x 10
    have hd : x.natAbs % 10 < 10 := Nat.mod_lt _ (by omega)
    have tb : -9223372036854775808 ≤ Int.tdiv x 10 ∧ Int.tdiv x 10 ≤ 9223372036854775807 := by omega
    have hw : wrap64 (Int.tdiv x 10) = Int.tdiv x 10 := w64 (by omega) (by omega)
    have next := ih (Int.tdiv x 10) (UInt8.ofNat (48 + x.natAbs % 10) :: l) (by
      rw [ht]
      rw [Nat.pow_succ] at hx
      exact Nat.div_lt_of_lt_mul (by omega)) (by simp; omega) tb.1 tb.2
    rw [ht, digits_step _ hm] at next
    rw [if_neg hm]
    refine Ev.step (fun k => by rw [spec_NumText.l0]) ?_
    by_cases c : Int.tmod x 10 < 0
    · have e1 : wrap64 (-(Int.tmod x 10)) = ((x.natAbs % 10 : Nat) : Int) := by
        rw [w64 (by omega) (by omega), ← hr]
        omega
      have c2 : (strOfNums [wrap64 (48 + ((x.natAbs % 10 : Nat) : Int)) % 256]).size + (⟨l.toArray⟩ : ByteArray).size ≤ 9223372036854775807 := by
        rw [strOne_size]
        omega
      simp only [e, c, if_true, if_false, Option.bind_some, e1, c2, hw, strOne _ l hd]
      exact next
    · have e1 : Int.tmod x 10 = ((x.natAbs % 10 : Nat) : Int) := by
        rw [← hr]
        omega
      have c2 : (strOfNums [wrap64 (48 + ((x.natAbs % 10 : Nat) : Int)) % 256]).size + (⟨l.toArray⟩ : ByteArray).size ≤ 9223372036854775807 := by
        rw [strOne_size]
        omega
      rw [e1] at c
      simp only [e, if_false, Option.bind_some, e1, c, c2, if_true, hw, strOne _ l hd]
      exact next
def numS (n : Int) : ByteArray := ⟨(itoa n).toArray⟩
theorem spec_NumText_ev (n : Int) (h0 : -9223372036854775808 ≤ n) (h1 : n ≤ 9223372036854775807) : Ev (fun k => spec_NumText.f k n) (numS n) := by
  unfold spec_NumText.f
  by_cases e : n = 0
  · subst e
    simp only [if_true]
    have : numS 0 = (⟨#[48]⟩ : ByteArray) := by
      unfold numS itoa
      rw [if_neg (by omega)]
      have : decDigits (0 : Int).toNat = [48] := by
        rw [show (0 : Int).toNat = 0 from rfl, decDigits_one (by omega)]
        rfl
      rw [this]
    rw [this]
    exact Ev.now _
  · simp only [e, if_false]
    have := spec_NumText_l0 n 19 n [] (by
      have : (10 : Nat) ^ 19 = 10000000000000000000 := by decide
      omega) (by simp) h0 h1
    rw [if_neg (by omega), List.append_nil] at this
    have e2 : finN n (decDigits n.natAbs) = numS n := by
      unfold finN numS itoa
      by_cases c : n < 0
      · rw [if_pos c, if_pos c]
      · rw [if_neg c, if_neg c, show n.natAbs = n.toNat by omega]
    rw [e2] at this
    exact this
theorem impl_NumText_eq (n : Int) (h0 : -9223372036854775808 ≤ n) (h1 : n ≤ 9223372036854775807) : impl_NumText.f n = some (numS n) := by
  unfold impl_NumText.f strconv_Itoa_32.f
  simp only [h0, h1, if_true, Option.bind_some]
  rfl
/-! ### numerals, read -/
def valN (acc : Nat) (l : List UInt8) : Nat := l.foldl (fun a c => a * 10 + (c.toNat - 48)) acc
def digL (l : List UInt8) : Bool := l.all fun c => decide (48 ≤ c.toNat) && decide (c.toNat ≤ 57)
theorem valN_snoc (acc : Nat) (l : List UInt8) (c : UInt8) : valN acc (l ++ [c]) = valN acc l * 10 + (c.toNat - 48) := by simp [valN]
theorem head_snoc {l : List UInt8} (h : l ≠ []) (c : UInt8) : (l ++ [c]).head? = l.head? := by
  cases l with
  | nil => exact absurd rfl h
  | cons a t => rfl
theorem dig_ofNat (n : Nat) (h : n < 10) : (UInt8.ofNat (48 + n)).toNat = 48 + n := by
  rw [UInt8.toNat_ofNat']
  exact Nat.mod_eq_of_lt (by omega)
theorem dig_back (c : UInt8) (h : 48 ≤ c.toNat) : UInt8.ofNat (48 + (c.toNat - 48)) = c := by
  rw [show 48 + (c.toNat - 48) = c.toNat by omega]
  exact UInt8.ofNat_toNat
theorem dec_val : ∀ r : List UInt8, digL r = true → r ≠ [] → (r.length = 1 ∨ r.reverse.head? ≠ some 48) → decDigits (valN 0 r.reverse) = r.reverse
  | [], _, h, _ => absurd rfl h
  | c :: r, hd, _, hh => by
    have hd' : (48 ≤ c.toNat ∧ c.toNat ≤ 57) ∧ digL r = true := by
      simpa only [digL, List.all_cons, Bool.and_eq_true, decide_eq_true_eq] using hd
    rw [List.reverse_cons, valN_snoc]
    have hc := dig_back c hd'.1.1
    by_cases hr : r = []
    · subst hr
      rw [show valN 0 ([] : List UInt8).reverse * 10 + (c.toNat - 48) = c.toNat - 48 by simp [valN], decDigits_one (by omega), hc]
      rfl
    · have hr' : r.reverse ≠ [] := by simpa using hr
      have hlen : 1 ≤ r.length := Nat.pos_of_ne_zero fun e => hr (List.eq_nil_of_length_eq_zero e)
      have hh' : r.reverse.head? ≠ some 48 := by
        rcases hh with hh | hh
        · exact absurd (by simpa using hh) hr
        · rwa [List.reverse_cons, head_snoc hr'] at hh
      have ih := dec_val r hd'.2 hr (.inr hh')
      have hp : valN 0 r.reverse ≠ 0 := fun e => by
        rw [e, decDigits_one (by omega)] at ih
        apply hh'
        rw [← ih]
        rfl
      rw [decDigits.eq_1, dif_neg (by omega), show (valN 0 r.reverse * 10 + (c.toNat - 48)) / 10 = valN 0 r.reverse by omega, show (valN 0 r.reverse * 10 + (c.toNat - 48)) % 10 = c.toNat - 48 by omega, ih, hc]
theorem dec_ne (m : Nat) : decDigits m ≠ [] := fun e => by
  have := decDigits_length m
  rw [e] at this
  have := nDigits_pos m
  simp at *
  omega
theorem dec_head (m : Nat) : m ≠ 0 → (decDigits m).head? ≠ some 48 := by
  induction m using Nat.strongRecOn with
  | _ m ih =>
    intro hm
    by_cases h : m < 10
    · rw [decDigits_one h]
      intro e
      have e' : UInt8.ofNat (48 + m) = 48 := by simpa using e
      have := congrArg UInt8.toNat e'
      rw [dig_ofNat m h] at this
      have h48 : (48 : UInt8).toNat = 48 := rfl
      omega
    · rw [decDigits.eq_1, dif_neg h, head_snoc (dec_ne _)]
      exact ih (m / 10) (by omega) (by omega)
theorem dec_back (m : Nat) : valN 0 (decDigits m) = m ∧ digL (decDigits m) = true := by
  induction m using Nat.strongRecOn with
  | _ m ih =>
    by_cases h : m < 10
    · rw [decDigits_one h]
      have := dig_ofNat m h
      refine ⟨?_, ?_⟩
      · simp only [valN, List.foldl_cons, List.foldl_nil, this]
        omega
      · simp only [digL, List.all_cons, List.all_nil, this, Bool.and_true, Bool.and_eq_true, decide_eq_true_eq]
        omega
    · obtain ⟨i1, i2⟩ := ih (m / 10) (by omega)
      have := dig_ofNat (m % 10) (by omega)
      rw [decDigits.eq_1, dif_neg h]
      refine ⟨?_, ?_⟩
      · rw [valN_snoc, i1, this]
        omega
      · unfold digL at i2 ⊢
        rw [List.all_append, i2]
        simp only [List.all_cons, List.all_nil, this, Bool.and_true, Bool.true_and, Bool.and_eq_true, decide_eq_true_eq]
        omega
theorem valN_bd : ∀ (l : List UInt8) (acc : Nat), digL l = true → valN acc l + 1 ≤ (acc + 1) * 10 ^ l.length
  | [], acc, _ => by simp [valN]
  | c :: l, acc, h => by
    have h' : (48 ≤ c.toNat ∧ c.toNat ≤ 57) ∧ digL l = true := by
      simpa only [digL, List.all_cons, Bool.and_eq_true, decide_eq_true_eq] using h
    have ih := valN_bd l (acc * 10 + (c.toNat - 48)) h'.2
    have e : valN acc (c :: l) = valN (acc * 10 + (c.toNat - 48)) l := rfl
    rw [e, List.length_cons, Nat.pow_succ, Nat.mul_comm (10 ^ l.length), ← Nat.mul_assoc]
    exact Nat.le_trans ih (Nat.mul_le_mul_right _ (by omega))
/-- What a numeral says. -/
def parseS (s : ByteArray) : Int × Bool :=
  if 1 ≤ s.toList.length ∧ s.toList.length ≤ 10 ∧ digL s.toList = true ∧ (s.toList.length = 1 ∨ s.toList.head? ≠ some 48) ∧ valN 0 s.toList ≤ 2147483647 then ((valN 0 s.toList : Nat), true) else (0, false)
theorem len_size (s : ByteArray) : s.toList.length = s.size := by
  rw [Lem.toList_data]
  rfl
theorem bt_list (s : ByteArray) (i : Nat) (h : i < s.size) : bt s (i : Int) = (((s.toList.getD i 0).toNat : Nat) : Int) := by
  unfold bt
  have h' : (i : Int).toNat < s.size := by simpa using h
  rw [dif_pos h', Lem.toList_data]
  have h2 : i < s.data.toList.length := by simpa using h
  simp only [Int.toNat_natCast, List.getD_eq_getElem?_getD, List.getElem?_eq_getElem h2, Option.getD_some]
  rfl
theorem head_bt (s : ByteArray) (h : 0 < s.size) : bt s 0 = 48 ↔ s.toList.head? = some 48 := by
  have e := bt_list s 0 h
  rw [show ((0 : Nat) : Int) = 0 from rfl] at e
  rw [e]
  have hl : 0 < s.toList.length := by rw [len_size]; exact h
  cases hs : s.toList with
  | nil => rw [hs] at hl; simp at hl
  | cons a t =>
    simp only [List.getD_cons_zero, List.head?_cons, Option.some.injEq]
    constructor
    · intro q
      apply UInt8.toNat_inj.1
      have h48 : (48 : UInt8).toNat = 48 := rfl
      omega
    · intro q
      rw [q]
      rfl
theorem toList_mk (l : List UInt8) : (⟨l.toArray⟩ : ByteArray).toList = l := by rw [Lem.toList_data]
theorem numS_nat (v : Nat) : (numS (v : Int)).toList = decDigits v := by
  unfold numS itoa
  rw [toList_mk, if_neg (by omega)]
  rfl
theorem num_iff {l : List UInt8} (hd : digL l = true) (hl : 1 ≤ l.length) : decDigits (valN 0 l) = l ↔ (l.length = 1 ∨ l.head? ≠ some 48) := by
  constructor
  · intro e
    by_cases h : l.length = 1
    · exact .inl h
    · refine .inr fun q => ?_
      rw [← e] at q
      by_cases hv : valN 0 l = 0
      · rw [hv, decDigits_one (by omega)] at e
        rw [← e] at h
        exact h rfl
      · exact dec_head _ hv q
  · intro h
    have hr : digL l.reverse = true := by
      unfold digL at hd ⊢
      rw [List.all_reverse]
      exact hd
    have := dec_val l.reverse hr (by
      intro e
      have : l = [] := by simpa using e
      rw [this] at hl
      simp at hl) (by simpa using h)
    rwa [List.reverse_reverse] at this
theorem lst_step {s : ByteArray} {i : Nat} (h : i < s.size) (v : Nat) (hv : v < 1000000000000) :
    ((¬ bt s (i : Int) < 48 ∧ ¬ bt s (i : Int) > 57) → wrap64 (wrap64 ((v : Int) * 10) + (bt s (i : Int) - 48) % 256) = ((v * 10 + ((s.toList.getD i 0).toNat - 48) : Nat) : Int)) ∧
    (digL (s.toList.drop i) = ((!decide (bt s (i : Int) < 48) && !decide (bt s (i : Int) > 57)) && digL (s.toList.drop (i + 1)))) ∧
    valN v (s.toList.drop i) = valN (v * 10 + ((s.toList.getD i 0).toNat - 48)) (s.toList.drop (i + 1)) := by
  have e := bt_list s i h
  have hd : s.toList.drop i = s.toList.getD i 0 :: s.toList.drop (i + 1) := drop_cons _ _ (by rw [len_size]; exact h)
  have hc : (s.toList.getD i 0).toNat < 256 := UInt8.toNat_lt _
  generalize s.toList.getD i 0 = c at *
  refine ⟨?_, ?_, ?_⟩
  · rintro ⟨h1, h2⟩
    rw [e] at h1 h2 ⊢
    rw [w64 (x := (v : Int) * 10) (by omega) (by omega), w64 (by omega) (by omega)]
    omega
  · rw [hd, e]
    simp only [digL, List.all_cons]
    congr 1
    rw [Bool.eq_iff_iff]
    simp only [Bool.and_eq_true, decide_eq_true_eq, Bool.not_eq_true', decide_eq_false_iff_not]
    omega
  · rw [hd]
    rfl
theorem spec_l1In_eqP (a b c : Int) : spec_l1In.f a b c = some (decide (b ≤ a) && decide (a ≤ c)) := by
  unfold spec_l1In.f
  by_cases h : a ≥ b
  · have h' : b ≤ a := h
    simp [h']
  · have h' : ¬ b ≤ a := h
    simp [h']
theorem impl_inRange_eqP (a b c : Int) : impl_inRange.f a b c = some (decide (b ≤ a) && decide (a ≤ c)) := by
  unfold impl_inRange.f
  by_cases h : a ≥ b
  · have h' : b ≤ a := h
    simp [h']
  · have h' : ¬ b ≤ a := h
    simp [h']
theorem pow_le (i : Nat) (h : i ≤ 11) : 10 ^ i ≤ 100000000000 := by
  have : 10 ^ i ≤ 10 ^ 11 := Nat.pow_le_pow_right (by omega) h
  exact this
theorem impl_ParseNum_ev (s : ByteArray) : Ev (fun k => impl_ParseNum.f k s) (parseS s) := by
  unfold impl_ParseNum.f
  simp only [impl_inRange_eqP, Option.bind_some]
  have ls := len_size s
  by_cases c : 1 ≤ s.size ∧ s.size ≤ 10
  · have c' : (decide ((1 : Int) ≤ (s.size : Int)) && decide ((s.size : Int) ≤ 10)) = true := by
      simp only [Bool.and_eq_true, decide_eq_true_eq]
      omega
    simp only [c', if_true]
    have key : ∀ d i, i + d = s.size → ∀ v : Nat, v < 10 ^ i → Ev (fun k => impl_ParseNum.l0 k s (v : Int) (i : Int)) (if digL (s.toList.drop i) = true then (if decDigits (valN v (s.toList.drop i)) = s.toList ∧ valN v (s.toList.drop i) ≤ 2147483647 then ((valN v (s.toList.drop i) : Nat), true) else (0, false)) else (0, false)) := by
      intro d
      induction d with
      | zero =>
        intro i hi v hv
        have hp := pow_le i (by omega)
        have c1 : ¬ (i : Int) < (s.size : Int) := by omega
        refine Ev.step (fun k => by rw [impl_ParseNum.l0]) ?_
        rw [List.drop_eq_nil_of_le (by omega)]
        simp only [c1, if_false, impl_NumText_eq (v : Int) (by omega) (by omega), Option.bind_some, numS_nat, impl_isWord.f, impl_inRange_eqP, digL, List.all_nil, if_true, valN, List.foldl_nil]
        by_cases e : decDigits v = s.toList
        · by_cases b : v ≤ 2147483647
          · have b' : (decide ((-2147483648 : Int) ≤ (v : Int)) && decide ((v : Int) ≤ 2147483647)) = true := by
              simp only [Bool.and_eq_true, decide_eq_true_eq]
              omega
            simp only [e, b, b', if_true, and_self]
            exact Ev.now _
          · have b' : (decide ((-2147483648 : Int) ≤ (v : Int)) && decide ((v : Int) ≤ 2147483647)) = false := by
              rw [Bool.and_eq_false_iff]
              exact .inr (decide_eq_false (by omega))
            simp only [e, b, b', if_true, and_false, if_false, Bool.false_eq_true]
            exact Ev.now _
        · simp only [e, false_and, if_false]
          exact Ev.now _
      | succ d ih =>
        intro i hi v hv
        have hp := pow_le i (by omega)
        have c1 : (i : Int) < (s.size : Int) := by omega
        have c0 : (0 : Int) ≤ (i : Int) := by omega
        have hw : wrap64 ((i : Int) + 1) = ((i + 1 : Nat) : Int) := by rw [w64 (by omega) (by omega)]; omega
        obtain ⟨h1, h2, h3⟩ := lst_step (s := s) (i := i) (by omega) v (by omega)
        have hb := bt_list s i (by omega)
        refine Ev.step (fun k => by rw [impl_ParseNum.l0]) ?_
        by_cases q1 : bt s (i : Int) < 48
        · simp only [c0, c1, q1, if_true, h2, decide_true, Bool.not_true, Bool.false_and, Bool.false_eq_true, if_false]
          exact Ev.now _
        · by_cases q2 : bt s (i : Int) > 57
          · simp only [c0, c1, q1, q2, if_true, if_false, h2, decide_true, Bool.not_true, Bool.and_false, Bool.false_and, Bool.false_eq_true]
            exact Ev.now _
          · have next := ih (i + 1) (by omega) (v * 10 + ((s.toList.getD i 0).toNat - 48)) (by rw [Nat.pow_succ]; omega)
            rw [← h3] at next
            simp only [c0, c1, q1, q2, if_true, if_false, h1 ⟨q1, q2⟩, hw, h2, decide_false, Bool.not_false, Bool.true_and]
            exact next
    have := key s.size 0 (by omega) 0 (by simp)
    rw [List.drop_zero] at this
    have e : (if digL s.toList = true then (if decDigits (valN 0 s.toList) = s.toList ∧ valN 0 s.toList ≤ 2147483647 then (((valN 0 s.toList : Nat) : Int), true) else (0, false)) else (0, false)) = parseS s := by
      unfold parseS
      by_cases hd : digL s.toList = true
      · rw [if_pos hd]
        have hi := num_iff hd (by omega)
        by_cases q : decDigits (valN 0 s.toList) = s.toList ∧ valN 0 s.toList ≤ 2147483647
        · rw [if_pos q, if_pos ⟨by omega, by omega, hd, hi.1 q.1, q.2⟩]
        · rw [if_neg q, if_neg fun h => q ⟨hi.2 h.2.2.2.1, h.2.2.2.2⟩]
      · rw [if_neg hd, if_neg fun h => hd h.2.2.1]
    rw [e] at this
    exact this
  · have c' : (decide ((1 : Int) ≤ (s.size : Int)) && decide ((s.size : Int) ≤ 10)) = false := by
      cases q : (decide ((1 : Int) ≤ (s.size : Int)) && decide ((s.size : Int) ≤ 10)) with
      | false => rfl
      | true =>
        simp only [Bool.and_eq_true, decide_eq_true_eq] at q
        exact absurd ⟨by omega, by omega⟩ c
    simp only [c', Bool.false_eq_true, if_false]
    have e : parseS s = (0, false) := by
      unfold parseS
      rw [if_neg fun h => c ⟨by omega, by omega⟩]
    rw [e]
    exact Ev.now _
theorem spec_ParseNum_ev (s : ByteArray) (hs : s.size ≤ 140737488351232) : Ev (fun k => spec_ParseNum.f k s) (parseS s) := by
  unfold spec_ParseNum.f
  have ls := len_size s
  by_cases c : 1 ≤ s.size ∧ s.size ≤ 10
  · have c' : (decide ((1 : Int) ≤ (s.size : Int)) && decide ((s.size : Int) ≤ 10)) = true := by
      simp only [Bool.and_eq_true, decide_eq_true_eq]
      omega
    have key : ∀ d i, i + d = s.size → ∀ v : Nat, v < 10 ^ i → Ev (fun k => spec_ParseNum.l0 k s (v : Int) (i : Int)) (if digL (s.toList.drop i) = true then (if (s.toList.length = 1 ∨ s.toList.head? ≠ some 48) ∧ valN v (s.toList.drop i) ≤ 2147483647 then ((valN v (s.toList.drop i) : Nat), true) else (0, false)) else (0, false)) := by
      intro d
      induction d with
      | zero =>
        intro i hi v hv
        have hp := pow_le i (by omega)
        have c1 : ¬ (i : Int) < (s.size : Int) := by omega
        refine Ev.step (fun k => by rw [spec_ParseNum.l0]) ?_
        simp only [c1, if_false]
        refine Ev.step (fun k => by rw [spec_ParseNum.j1]) ?_
        rw [List.drop_eq_nil_of_le (by omega)]
        have c3 : (0 : Int) < (s.size : Int) := by omega
        have hh := head_bt s (by omega)
        simp only [Bool.false_eq_true, if_false, spec_l1In_eqP, c', Option.bind_some, if_true, digL, List.all_nil, valN, List.foldl_nil, c3]
        by_cases g : (s.size : Int) > 1
        · simp only [g, if_true]
          have n1 : ¬ s.toList.length = 1 := by omega
          by_cases q : bt s 0 = 48
          · have : s.toList.head? = some 48 := hh.1 q
            simp only [q, if_true, n1, this, ne_eq, not_true_eq_false, or_self, false_and, if_false]
            exact Ev.now _
          · have hne : ¬ s.toList.head? = some 48 := fun h => q (hh.2 h)
            simp only [q, if_false, n1, hne, ne_eq, not_false_eq_true, or_true, true_and]
            by_cases b : v ≤ 2147483647
            · have b' : ¬ (v : Int) > 2147483647 := by omega
              simp only [b, b', if_true, if_false]
              exact Ev.now _
            · have b' : (v : Int) > 2147483647 := by omega
              simp only [b, b', if_true, if_false]
              exact Ev.now _
        · simp only [g, if_false]
          have n1 : s.toList.length = 1 := by omega
          simp only [n1, true_or, true_and]
          by_cases b : v ≤ 2147483647
          · have b' : ¬ (v : Int) > 2147483647 := by omega
            simp only [b, b', if_true, if_false]
            exact Ev.now _
          · have b' : (v : Int) > 2147483647 := by omega
            simp only [b, b', if_true, if_false]
            exact Ev.now _
      | succ d ih =>
        intro i hi v hv
        have hp := pow_le i (by omega)
        have c1 : (i : Int) < (s.size : Int) := by omega
        have c0 : (0 : Int) ≤ (i : Int) := by omega
        have c2 : (i : Int) < 11 := by omega
        have hw : wrap64 ((i : Int) + 1) = ((i + 1 : Nat) : Int) := by rw [w64 (by omega) (by omega)]; omega
        obtain ⟨h1, h2, h3⟩ := lst_step (s := s) (i := i) (by omega) v (by omega)
        have hb := bt_list s i (by omega)
        have hr := bt_range s (i : Int)
        have wb : wrap64 (bt s (i : Int)) = bt s (i : Int) := w64 (by omega) (by omega)
        refine Ev.step (fun k => by rw [spec_ParseNum.l0]) ?_
        simp only [c1, if_true, c2, decide_true]
        refine Ev.step (fun k => by rw [spec_ParseNum.j1]) ?_
        simp only [c0, c1, if_true, spec_l1In_eqP, Option.bind_some, wb]
        by_cases q : 48 ≤ bt s (i : Int) ∧ bt s (i : Int) ≤ 57
        · have q1 : ¬ bt s (i : Int) < 48 := by omega
          have q2 : ¬ bt s (i : Int) > 57 := by omega
          have next := ih (i + 1) (by omega) (v * 10 + ((s.toList.getD i 0).toNat - 48)) (by rw [Nat.pow_succ]; omega)
          rw [← h3] at next
          simp only [q.1, q.2, decide_true, Bool.and_self, if_true, h1 ⟨q1, q2⟩, hw, h2, q1, q2, decide_false, Bool.not_false, Bool.true_and]
          exact next
        · have q' : (decide (48 ≤ bt s (i : Int)) && decide (bt s (i : Int) ≤ 57)) = false := by
            cases x : (decide (48 ≤ bt s (i : Int)) && decide (bt s (i : Int) ≤ 57)) with
            | false => rfl
            | true =>
              simp only [Bool.and_eq_true, decide_eq_true_eq] at x
              exact absurd x q
          have q2 : (!decide (bt s (i : Int) < 48) && !decide (bt s (i : Int) > 57)) = false := by
            cases x : (!decide (bt s (i : Int) < 48) && !decide (bt s (i : Int) > 57)) with
            | false => rfl
            | true =>
              simp only [Bool.and_eq_true, Bool.not_eq_true', decide_eq_false_iff_not] at x
              exact absurd ⟨by omega, by omega⟩ q
          simp only [q', Bool.false_eq_true, if_false, h2, q2, Bool.false_and]
          exact Ev.now _
    have := key s.size 0 (by omega) 0 (by simp)
    rw [List.drop_zero] at this
    have e : (if digL s.toList = true then (if (s.toList.length = 1 ∨ s.toList.head? ≠ some 48) ∧ valN 0 s.toList ≤ 2147483647 then (((valN 0 s.toList : Nat) : Int), true) else (0, false)) else (0, false)) = parseS s := by
      unfold parseS
      by_cases hd : digL s.toList = true
      · rw [if_pos hd]
        by_cases q : (s.toList.length = 1 ∨ s.toList.head? ≠ some 48) ∧ valN 0 s.toList ≤ 2147483647
        · rw [if_pos q, if_pos ⟨by omega, by omega, hd, q.1, q.2⟩]
        · rw [if_neg q, if_neg fun h => q ⟨h.2.2.2.1, h.2.2.2.2⟩]
      · rw [if_neg hd, if_neg fun h => hd h.2.2.1]
    rw [e] at this
    exact this
  · have e : parseS s = (0, false) := by
      unfold parseS
      rw [if_neg fun h => c ⟨by omega, by omega⟩]
    rw [e]
    have c' : (decide ((1 : Int) ≤ (s.size : Int)) && decide ((s.size : Int) ≤ 10)) = false := by
      cases q : (decide ((1 : Int) ≤ (s.size : Int)) && decide ((s.size : Int) ≤ 10)) with
      | false => rfl
      | true =>
        simp only [Bool.and_eq_true, decide_eq_true_eq] at q
        exact absurd ⟨by omega, by omega⟩ c
    have stop : ∀ (x y : Int), Ev (fun k => spec_ParseNum.j1 k s x y false) (0, false) := fun x y => by
      refine Ev.step (fun k => by rw [spec_ParseNum.j1]) ?_
      simp only [Bool.false_eq_true, if_false, spec_l1In_eqP, c', Option.bind_some]
      exact Ev.now _
    have key : ∀ d i : Nat, i + d = 11 → ∀ v : Nat, v < 10 ^ i → Ev (fun k => spec_ParseNum.l0 k s (v : Int) (i : Int)) (0, false) := by
      intro d
      induction d with
      | zero =>
        intro i hi v hv
        have c2 : ¬ (i : Int) < 11 := by omega
        refine Ev.step (fun k => by rw [spec_ParseNum.l0]) ?_
        by_cases c1 : (i : Int) < (s.size : Int)
        · simp only [c1, if_true, c2, decide_false]
          exact stop _ _
        · simp only [c1, if_false]
          exact stop _ _
      | succ d ih =>
        intro i hi v hv
        have hp := pow_le i (by omega)
        refine Ev.step (fun k => by rw [spec_ParseNum.l0]) ?_
        by_cases c1 : (i : Int) < (s.size : Int)
        · have c0 : (0 : Int) ≤ (i : Int) := by omega
          have c2 : (i : Int) < 11 := by omega
          have hw : wrap64 ((i : Int) + 1) = ((i + 1 : Nat) : Int) := by rw [w64 (by omega) (by omega)]; omega
          obtain ⟨h1, _, _⟩ := lst_step (s := s) (i := i) (by omega) v (by omega)
          have hb := bt_list s i (by omega)
          have hr := bt_range s (i : Int)
          have wb : wrap64 (bt s (i : Int)) = bt s (i : Int) := w64 (by omega) (by omega)
          simp only [c1, if_true, c2, decide_true]
          refine Ev.step (fun k => by rw [spec_ParseNum.j1]) ?_
          simp only [c0, c1, if_true, spec_l1In_eqP, Option.bind_some, wb]
          by_cases q : 48 ≤ bt s (i : Int) ∧ bt s (i : Int) ≤ 57
          · simp only [q.1, q.2, decide_true, Bool.and_self, if_true, h1 ⟨by omega, by omega⟩, hw]
            exact ih (i + 1) (by omega) _ (by rw [Nat.pow_succ]; omega)
          · have q' : (decide (48 ≤ bt s (i : Int)) && decide (bt s (i : Int) ≤ 57)) = false := by
              cases x : (decide (48 ≤ bt s (i : Int)) && decide (bt s (i : Int) ≤ 57)) with
              | false => rfl
              | true =>
                simp only [Bool.and_eq_true, decide_eq_true_eq] at x
                exact absurd x q
            simp only [q', Bool.false_eq_true, if_false]
            exact Ev.now _
        · simp only [c1, if_false]
          exact stop _ _
    exact key 11 0 (by omega) 0 (by simp)
theorem nDigits_le : ∀ (k u : Nat), 1 ≤ k → u < 10 ^ k → nDigits u ≤ k
  | 0, _, h, _ => by omega
  | k + 1, u, _, h => by
    by_cases c : u < 10
    · rw [nDigits_small c]
      omega
    · rw [nDigits_big c]
      by_cases hk : k = 0
      · subst hk
        simp at h
        omega
      · have := nDigits_le k (u / 10) (by omega) (by rw [Nat.pow_succ] at h; omega)
        omega
theorem dec_len (v : Nat) (h : v < 10000000000) : 1 ≤ (decDigits v).length ∧ (decDigits v).length ≤ 10 := by
  rw [decDigits_length]
  exact ⟨nDigits_pos v, nDigits_le 10 v (by omega) h⟩
theorem parse_num (v : Nat) (h : v ≤ 2147483647) : parseS (numS (v : Int)) = ((v : Int), true) := by
  have hb := dec_back v
  have hl := dec_len v (by omega)
  unfold parseS
  have hh : (decDigits v).length = 1 ∨ (decDigits v).head? ≠ some 48 := by
    by_cases hv : v < 10
    · left
      rw [decDigits_one hv]
      rfl
    · exact .inr (dec_head v (by omega))
  rw [numS_nat, if_pos ⟨hl.1, hl.2, hb.2, hh, by rw [hb.1]; exact h⟩, hb.1]
theorem num_parse {s : ByteArray} {v : Int} (h : parseS s = (v, true)) : ∃ n : Nat, v = (n : Int) ∧ (numS v).toList = s.toList ∧ n ≤ 2147483647 := by
  unfold parseS at h
  split at h
  · rename_i c
    have hv : ((valN 0 s.toList : Nat) : Int) = v := congrArg Prod.fst h
    refine ⟨valN 0 s.toList, hv.symm, ?_, c.2.2.2.2⟩
    rw [← hv, numS_nat]
    exact (num_iff c.2.2.1 c.1).2 c.2.2.2.1
  · cases congrArg Prod.snd h
theorem laws_at_ex (l : List Int) (hl : l.length ≤ maxLen) (hx : ∀ x ∈ l, (Lit.int .u8 x).wf = true) (a : Int) (h0 : 0 ≤ a) (h1 : a ≤ 4) : ∃ b, laws_at.f l a = some b ∧ 0 ≤ b ∧ b ≤ 255 := by
  unfold laws_at.f
  simp only [maxLen] at hl
  by_cases c : a < (l.length : Int)
  · obtain ⟨j, rfl⟩ : ∃ j : Nat, a = (j : Int) := ⟨a.toNat, by omega⟩
    have hm : rd l (j : Int) ∈ l := getD_mem l _ (by omega)
    have hw := hx _ hm
    have hb : 0 ≤ rd l (j : Int) ∧ rd l (j : Int) ≤ 255 := by
      simpa [Lit.wf, IntKind.min, IntKind.max, IntKind.bits, IntKind.signed] using hw
    simp only [c, h0, if_true]
    refine ⟨_, rfl, ?_⟩
    rw [w64 (by omega) (by omega)]
    exact hb
  · simp only [c, if_false]
    refine ⟨_, rfl, ?_⟩
    rw [w64 (x := a * 31) (by omega) (by omega), w64 (x := (l.length : Int) * 7) (by omega) (by omega), w64 (by omega) (by omega)]
    have := Int.tmod_lt_of_pos (a * 31 + (l.length : Int) * 7) (show (0 : Int) < 256 by omega)
    have := Int.tmod_nonneg (a := a * 31 + (l.length : Int) * 7) 256 (by omega)
    omega
theorem spec_l1Below_big {l : List Int} {i : Int} (h : Int) (hi : At l i) : ∃ b i' h', spec_l1Below.f l i h 70000 = some (b, i', h') ∧ 0 ≤ b ∧ b < 70000 ∧ At l i' := by
  unfold spec_l1Below.f
  obtain ⟨b, i1, h1, e1, p1, q1, c1⟩ := spec_l1Byte_ex h hi
  obtain ⟨b2, i2, h2, e2, p2, q2, c2⟩ := spec_l1Byte_ex h1 c1
  obtain ⟨b3, i3, h3, e3, p3, q3, c3⟩ := spec_l1Byte_ex h2 c2
  have n1 : ¬ (70000 : Int) ≤ 0 := by omega
  have n2 : ¬ (70000 : Int) ≤ 256 := by omega
  have n3 : ¬ (70000 : Int) = 0 := by omega
  simp only [n1, n2, n3, e1, e2, e3, if_false, Option.bind_some]
  refine ⟨_, _, _, rfl, ?_, ?_, c3⟩
  · rw [w64 (x := b * 65536) (by omega) (by omega), w64 (x := b2 * 256) (by omega) (by omega), w64 (x := b * 65536 + b2 * 256) (by omega) (by omega), w64 (by omega) (by omega)]
    exact Int.tmod_nonneg _ (by omega)
  · exact Int.tmod_lt_of_pos _ (by omega)
theorem numS_size (v : Nat) (h : v < 10000000000) : (numS (v : Int)).size ≤ 10 := by
  rw [← len_size, numS_nat]
  exact (dec_len v h).2
theorem spec_DrawParseNum_ex (l : List Int) (hl : l.length ≤ maxLen) : ∃ s, Ev (fun k => spec_DrawParseNum.f k l) s ∧ s.size ≤ 140737488351232 := by
  obtain ⟨h, e0⟩ := spec_l1New_ev l hl
  have h0 : At l 0 := ⟨hl, by omega, by omega⟩
  obtain ⟨b, i1, h1, e1, c1⟩ := spec_l1Once_ex h 3 h0 (by omega) (by omega)
  unfold spec_DrawParseNum.f
  cases b with
  | true =>
    obtain ⟨s, i2, h2, e2, hs, c2⟩ := spec_l1Str_ex h1 [(⟨#[]⟩ : ByteArray), (⟨#[48, 48]⟩ : ByteArray), (⟨#[48, 49]⟩ : ByteArray), (⟨#[120]⟩ : ByteArray), (⟨#[45, 49]⟩ : ByteArray), (⟨#[50, 49, 52, 55, 52, 56, 51, 54, 52, 55]⟩ : ByteArray), (⟨#[50, 49, 52, 55, 52, 56, 51, 54, 52, 56]⟩ : ByteArray), (⟨#[57, 57, 57, 57, 57, 57, 57, 57, 57, 57, 57]⟩ : ByteArray), (⟨#[49, 32]⟩ : ByteArray)] c1 (by decide) (by decide)
    refine ⟨s, Ev.then e0 ?_, ?_⟩
    · simp only [e1, e2, Option.bind_some, if_true]
      exact Ev.now _
    · have : s.size ≤ 11 := by
        simp only [List.mem_cons, List.not_mem_nil, or_false] at hs
        rcases hs with rfl | rfl | rfl | rfl | rfl | rfl | rfl | rfl | rfl <;> decide
      omega
  | false =>
    obtain ⟨v, i2, h2, e2, p2, q2, c2⟩ := spec_l1Below_big h1 c1
    obtain ⟨n, rfl⟩ : ∃ n : Nat, v = (n : Int) := ⟨v.toNat, by omega⟩
    refine ⟨numS (n : Int), Ev.then e0 ?_, ?_⟩
    · simp only [e1, e2, Option.bind_some, Bool.false_eq_true, if_false]
      exact Ev.then (spec_NumText_ev (n : Int) (by omega) (by omega)) (Ev.now _)
    · have := numS_size n (by omega)
      omega
theorem spec_DrawNumText_ex (l : List Int) (hl : l.length ≤ maxLen) : ∃ v, Ev (fun k => spec_DrawNumText.f k l) v ∧ -9223372036854775808 ≤ v ∧ v ≤ 9223372036854775807 := by
  obtain ⟨h, e0⟩ := spec_l1New_ev l hl
  have h0 : At l 0 := ⟨hl, by omega, by omega⟩
  obtain ⟨v, i1, h1, e1, hv, c1⟩ := spec_l1Int_ex h [0, 1, 2, 3, 7, (-1), (-5), 100, 65536, 2147483647, (-2147483648), 2147483648, 4294967296, (-2147483649), 9223372036854775807, (-9223372036854775808)] h0 (by decide) (by decide)
  refine ⟨v, ?_, ?_⟩
  · unfold spec_DrawNumText.f spec_l1Word.f
    refine Ev.then e0 ?_
    simp only [e1, Option.bind_some]
    exact Ev.now _
  · simp only [List.mem_cons, List.not_mem_nil, or_false] at hv
    omega
theorem FnDigits : laws_FnDigits.Pure := by
  intro l hl _ hx
  apply Ev.rounds
  unfold laws_FnDigits.f laws_big.f
  simp only [Option.bind_some]
  by_cases big : (l.length : Int) > 1048576
  · simp only [big, decide_true, if_true]
    exact Ev.now _
  simp only [big, decide_false, Bool.false_eq_true, if_false]
  obtain ⟨a, ea, a0, a1⟩ := laws_at_ex l hl hx 2 (by omega) (by omega)
  obtain ⟨b, eb, b0, b1⟩ := laws_at_ex l hl hx 3 (by omega) (by omega)
  obtain ⟨c, ec, c0, c1⟩ := laws_at_ex l hl hx 4 (by omega) (by omega)
  have hw : wrap64 (wrap64 (wrap64 (wrap64 (a * 256) + b) * 256) + c) = (a * 256 + b) * 256 + c := by
    rw [w64 (x := a * 256) (by omega) (by omega), w64 (x := a * 256 + b) (by omega) (by omega), w64 (x := (a * 256 + b) * 256) (by omega) (by omega), w64 (by omega) (by omega)]
  obtain ⟨n, hn⟩ : ∃ n : Nat, (a * 256 + b) * 256 + c = (n : Int) := ⟨((a * 256 + b) * 256 + c).toNat, by omega⟩
  obtain ⟨s, Es, hs⟩ := spec_DrawParseNum_ex l hl
  obtain ⟨v, Ev0, v0, v1⟩ := spec_DrawNumText_ex l hl
  have P1 := impl_ParseNum_ev (numS (n : Int))
  rw [parse_num n (by omega)] at P1
  simp only [ea, eb, ec, Option.bind_some, hw, hn, impl_NumText_eq (n : Int) (by omega) (by omega)]
  refine Ev.then P1 (Ev.then Es (Ev.then (impl_ParseNum_ev s) (Ev.then (spec_ParseNum_ev s hs) (Ev.then Ev0 ?_))))
  simp only [if_true, beq_self_eq_true]
  have fin : Ev (fun k => (impl_NumText.f v).bind fun t186 => ((spec_NumText.f k v).bind fun t187 => (some (t186.toList == t187.toList)))) true := by
    simp only [impl_NumText_eq v v0 v1, Option.bind_some]
    refine Ev.then (spec_NumText_ev v v0 v1) ?_
    simp only [beq_self_eq_true]
    exact Ev.now _
  cases hp : parseS s with
  | mk y is =>
  cases is with
  | false =>
    simp only [Bool.false_eq_true, if_false]
    exact fin
  | true =>
    obtain ⟨m, rfl, e, hm⟩ := num_parse hp
    simp only [if_true, impl_NumText_eq (m : Int) (by omega) (by omega), Option.bind_some, e]
    exact fin

end Go.Proofs.YtpencchkfbekdaaDoor.Pure
