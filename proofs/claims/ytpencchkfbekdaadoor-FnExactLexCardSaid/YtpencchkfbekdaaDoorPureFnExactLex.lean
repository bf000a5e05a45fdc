/- The pure statement of FnExactLex: what the printed functions compute makes the law answer true. Conditions: those in the statement. -/
import Derived.Test.YtpencchkfbekdaaDoorLem
import Derived.Test.YtpencchkfbekdaaDoorPFnExactLexx0
import Derived.Test.YtpencchkfbekdaaDoorPFnExactLexx1
import Derived.Test.YtpencchkfbekdaaDoorPFnExactLexx2
import Derived.Test.YtpencchkfbekdaaDoorPFnExactLexx3
import Derived.Test.YtpencchkfbekdaaDoorPFnExactLexx4
import Derived.Test.YtpencchkfbekdaaDoorPFnExactLexx5
import Derived.Test.YtpencchkfbekdaaDoorPFnExactLexx6
import Derived.Test.YtpencchkfbekdaaDoorPFnExactLexx7
namespace Go.Proofs.YtpencchkfbekdaaDoor.Pure
open Go.RowKit Go.Proofs.YtpencchkfbekdaaDoor.PFnExactLex Go.Proofs.YtpencchkfbekdaaDoorW.PrintWords Go.Proofs.YtpencchkfbekdaaDoorW.PrintLast Go.Proofs.YtpencchkfbekdaaDoorW.PrintMore Go.Proofs.YtpencchkfbekdaaDoor.Lem
set_option linter.unusedVariables false
set_option linter.unusedSimpArgs false

theorem spec_l1In_eq (a b c : Int) : spec_l1In.f a b c = some (decide (b ≤ a) && decide (a ≤ c)) := by
  unfold spec_l1In.f
  by_cases h : a ≥ b
  · have h' : b ≤ a := h
    simp [h']
  · have h' : ¬ b ≤ a := h
    simp [h']
theorem impl_inRange_eq (a b c : Int) : impl_inRange.f a b c = some (decide (b ≤ a) && decide (a ≤ c)) := by
  unfold impl_inRange.f
  by_cases h : a ≥ b
  · have h' : b ≤ a := h
    simp [h']
  · have h' : ¬ b ≤ a := h
    simp [h']
theorem impl_isLetter_eq (a : Int) : impl_isLetter.f a = some (decide (97 ≤ a) && decide (a ≤ 122)) := by
  unfold impl_isLetter.f
  by_cases h : a ≥ 97
  · have h' : 97 ≤ a := h
    simp [h']
  · have h' : ¬ 97 ≤ a := h
    simp [h']
theorem spec_l2Small_eq (a : Int) (h0 : 0 ≤ a) (h1 : a ≤ 255) : spec_l2Small.f a = some (decide (97 ≤ a) && decide (a ≤ 122)) := by
  unfold spec_l2Small.f
  rw [w64 (by omega) (by omega), spec_l1In_eq]
  rfl
theorem spec_l2Has_ev (xs : List ByteArray) (s : ByteArray) (hn : xs.length ≤ maxLen) : Ev (fun k => spec_l2Has.f k xs s) (xs.any fun x => x.toList == s.toList) := by
  unfold spec_l2Has.f
  have key : ∀ d i, i + d = xs.length → Ev (fun k => spec_l2Has.l0 k xs s (i : Int)) ((xs.drop i).any fun x => x.toList == s.toList) := by
    intro d
    induction d with
    | zero =>
      intro i hi
      refine Ev.step (fun k => by rw [spec_l2Has.l0]) ?_
      have c : ¬ (i : Int) < (xs.length : Int) := by omega
      simp only [c, if_false]
      rw [List.drop_eq_nil_of_le (by omega)]
      exact Ev.now _
    | succ d ih =>
      intro i hi
      refine Ev.step (fun k => by rw [spec_l2Has.l0]) ?_
      have c : (i : Int) < (xs.length : Int) := by omega
      have c0 : (0 : Int) ≤ (i : Int) := by omega
      have hw : wrap64 ((i : Int) + 1) = ((i + 1 : Nat) : Int) := wi (by omega) hn
      have hd : xs.drop i = rdOf ByteArray.empty xs (i : Int) :: xs.drop (i + 1) := by
        rw [List.drop_eq_getElem_cons (by omega)]
        simp [rdOf, List.getElem?_eq_getElem (show i < xs.length by omega)]
      rw [hd, List.any_cons]
      simp only [c, c0, if_true, hw]
      by_cases e : (rdOf ByteArray.empty xs (i : Int)).toList = s.toList
      · simp only [e, if_true, beq_self_eq_true, Bool.true_or]
        exact Ev.now _
      · simp only [e, if_false]
        have e' : ((rdOf ByteArray.empty xs (i : Int)).toList == s.toList) = false := by simpa using e
        rw [e', Bool.false_or]
        exact ih (i + 1) (by omega)
  have := key xs.length 0 (by omega)
  simpa using this
theorem spec_l2Kept_ev (s : ByteArray) : Ev (fun k => spec_l2Kept.f k s) (keptS s) := by
  unfold spec_l2Kept.f
  refine Ev.then (spec_l2Has_ev _ s (by simp [maxLen])) ?_
  have : (List.any [(⟨#[97, 114, 114, 97, 121]⟩ : ByteArray), (⟨#[102, 111, 114]⟩ : ByteArray), (⟨#[116, 111]⟩ : ByteArray), (⟨#[112, 114, 105, 110, 116]⟩ : ByteArray), (⟨#[109, 105, 110]⟩ : ByteArray), (⟨#[109, 97, 120]⟩ : ByteArray)] fun x => x.toList == s.toList) = keptS s := by
    simp only [keptS, keptL, List.any_cons, List.any_nil, toList_data]
  rw [this]
  exact Ev.now _
theorem impl_isKept_eq (s : ByteArray) : impl_isKept.f s = some (keptS s) := by
  unfold impl_isKept.f keptS keptL
  have hb : ∀ l : List UInt8, decide (s.toList = l) = (l == s.toList) := fun l => by
    by_cases h : s.toList = l
    · rw [decide_eq_true h, ← h, beq_self_eq_true]
    · rw [decide_eq_false h, beq_eq_false_iff_ne.mpr (fun e => h e.symm)]
  simp only [if_or, hb, List.any_cons, List.any_nil]
theorem spec_NameOk_ev (s : ByteArray) (hn : s.size ≤ maxLen) : Ev (fun k => spec_NameOk.f k s) (nameS s) := by
  unfold spec_NameOk.f nameS
  refine Ev.run (g := fun k i (_ : Unit) => spec_NameOk.l0 k s i) _ _ ?_ ?_ ()
  · intro i u hi
    have c : (i : Int) < (s.size : Int) := by omega
    have c0 : (0 : Int) ≤ (i : Int) := by omega
    have hw : wrap64 ((i : Int) + 1) = ((i + 1 : Nat) : Int) := wi hi hn
    have hl : spec_l2Small.f (bt s (i : Int)) = some (letS s i) := spec_l2Small_eq _ (bt_range s i).1 (bt_range s i).2
    cases e : letS s i with
    | true =>
      simp only [if_true]
      intro r hr
      refine Ev.step (fun k => by rw [spec_NameOk.l0]) ?_
      simp only [c, c0, if_true, hl, e, Option.bind_some, hw]
      exact hr
    | false =>
      simp only [Bool.false_eq_true, if_false]
      refine Ev.step (fun k => by rw [spec_NameOk.l0]) ?_
      simp only [c, c0, if_true, hl, e, Option.bind_some, Bool.false_eq_true, if_false]
      exact Ev.now _
  · intro u
    refine Ev.step (fun k => by rw [spec_NameOk.l0]) ?_
    have c : ¬ (s.size : Int) < (s.size : Int) := by omega
    simp only [c, if_false, spec_l1In_eq, Option.bind_some]
    have e1 : (decide ((1 : Int) ≤ (s.size : Int)) && decide ((s.size : Int) ≤ 6)) = (decide (1 ≤ s.size) && decide (s.size ≤ 6)) := by
      rw [Bool.eq_iff_iff]
      simp
      omega
    rw [e1]
    cases e : (decide (1 ≤ s.size) && decide (s.size ≤ 6)) with
    | true =>
      simp only [if_true, Bool.true_and]
      exact Ev.then (spec_l2Kept_ev s) (Ev.now _)
    | false =>
      simp only [Bool.false_eq_true, if_false, Bool.false_and]
      exact Ev.now _
theorem impl_NameOk_ev (s : ByteArray) (hn : s.size ≤ maxLen) : Ev (fun k => impl_NameOk.f k s) (nameS s) := by
  unfold impl_NameOk.f nameS
  refine Ev.run (g := fun k i (_ : Unit) => impl_NameOk.l0 k s i) _ _ ?_ ?_ ()
  · intro i u hi
    have c : (i : Int) < (s.size : Int) := by omega
    have c0 : (0 : Int) ≤ (i : Int) := by omega
    have hw : wrap64 ((i : Int) + 1) = ((i + 1 : Nat) : Int) := wi hi hn
    have hl : impl_isLetter.f (bt s (i : Int)) = some (letS s i) := impl_isLetter_eq _
    cases e : letS s i with
    | true =>
      simp only [if_true]
      intro r hr
      refine Ev.step (fun k => by rw [impl_NameOk.l0]) ?_
      simp only [c, c0, if_true, hl, e, Option.bind_some, hw]
      exact hr
    | false =>
      simp only [Bool.false_eq_true, if_false]
      refine Ev.step (fun k => by rw [impl_NameOk.l0]) ?_
      simp only [c, c0, if_true, hl, e, Option.bind_some, Bool.false_eq_true, if_false]
      exact Ev.now _
  · intro u
    refine Ev.step (fun k => by rw [impl_NameOk.l0]) ?_
    have c : ¬ (s.size : Int) < (s.size : Int) := by omega
    simp only [c, if_false, impl_inRange_eq, Option.bind_some]
    have e1 : (decide ((1 : Int) ≤ (s.size : Int)) && decide ((s.size : Int) ≤ 6)) = (decide (1 ≤ s.size) && decide (s.size ≤ 6)) := by
      rw [Bool.eq_iff_iff]
      simp
      omega
    rw [e1]
    cases e : (decide (1 ≤ s.size) && decide (s.size ≤ 6)) with
    | true =>
      simp only [if_true, Bool.true_and, impl_isKept_eq, Option.bind_some]
      exact Ev.now _
    | false =>
      simp only [Bool.false_eq_true, if_false, Bool.false_and]
      exact Ev.now _

theorem eqTok_one (x : S47) : laws_eqTok.f x.f0 x.f1 x.f2 x.f0 x.f1 x.f2 = some true := by
  unfold laws_eqTok.f
  simp
theorem eqTokS_ev (l : List S47) (hl : l.length ≤ maxLen) : Ev (fun k => laws_eqTokS.f k l l) true := by
  unfold laws_eqTokS.f
  simp only [if_true]
  have key : ∀ d i, i + d = l.length → Ev (fun k => laws_eqTokS.l0 k l l (i : Int)) true := by
    intro d
    induction d with
    | zero =>
      intro i hi
      refine Ev.step (fun k => by rw [laws_eqTokS.l0]) ?_
      have c : ¬ (i : Int) < (l.length : Int) := by omega
      simp only [c, if_false]
      exact Ev.now _
    | succ d ih =>
      intro i hi
      refine Ev.step (fun k => by rw [laws_eqTokS.l0]) ?_
      have c : (i : Int) < (l.length : Int) := by omega
      have c0 : (0 : Int) ≤ (i : Int) := by omega
      have hw : wrap64 ((i : Int) + 1) = ((i + 1 : Nat) : Int) := wi (n := l.length) (by omega) hl
      simp only [c, c0, if_true, eqTok_one (rd_T47 l (i : Int)), Option.bind_some, hw]
      exact ih (i + 1) (by omega)
  exact key l.length 0 (by omega)
open Go.Lib
/-! ### numerals -/
def finN (n : Int) (l : List UInt8) : ByteArray := if n < 0 then ⟨(45 :: l).toArray⟩ else ⟨l.toArray⟩
theorem strOne (d : Nat) (l : List UInt8) (h : d < 10) : strOfNums [wrap64 (48 + (d : Int)) % 256] ++ (⟨l.toArray⟩ : ByteArray) = ⟨(UInt8.ofNat (48 + d) :: l).toArray⟩ := by
  have e : wrap64 (48 + (d : Int)) % 256 = ((48 + d : Nat) : Int) := by
    rw [w64 (by omega) (by omega)]
    omega
  rw [e]
  apply ByteArray.ext
  rw [ByteArray.data_append]
  simp only [strOfNums, List.map_cons, List.map_nil, Int.toNat_natCast]
  simp
theorem strOne_size (x : Int) : (strOfNums [x]).size = 1 := by simp [strOfNums, ByteArray.size]
theorem digits_step (m : Nat) (h : m ≠ 0) (l : List UInt8) : (if m / 10 = 0 then UInt8.ofNat (48 + m % 10) :: l else decDigits (m / 10) ++ UInt8.ofNat (48 + m % 10) :: l) = decDigits m ++ l := by
  by_cases c : m < 10
  · rw [if_pos (by omega), decDigits_one c, Nat.mod_eq_of_lt c]
    rfl
  · rw [if_neg (by omega), decDigits.eq_1 m, dif_neg c, List.append_assoc]
    rfl
def numS (n : Int) : ByteArray := ⟨(itoa n).toArray⟩
theorem impl_NumText_eq (n : Int) (h0 : -9223372036854775808 ≤ n) (h1 : n ≤ 9223372036854775807) : impl_NumText.f n = some (numS n) := by
  unfold impl_NumText.f strconv_Itoa_32.f
  simp only [h0, h1, if_true, Option.bind_some]
  rfl
/-! ### numerals, read -/
def valN (acc : Nat) (l : List UInt8) : Nat := l.foldl (fun a c => a * 10 + (c.toNat - 48)) acc
def digL (l : List UInt8) : Bool := l.all fun c => decide (48 ≤ c.toNat) && decide (c.toNat ≤ 57)
theorem valN_snoc (acc : Nat) (l : List UInt8) (c : UInt8) : valN acc (l ++ [c]) = valN acc l * 10 + (c.toNat - 48) := by simp [valN]
theorem head_snoc {l : List UInt8} (h : l ≠ []) (c : UInt8) : (l ++ [c]).head? = l.head? := by
  cases l with
  | nil => exact absurd rfl h
  | cons a t => rfl
theorem dig_ofNat (n : Nat) (h : n < 10) : (UInt8.ofNat (48 + n)).toNat = 48 + n := by
  rw [UInt8.toNat_ofNat']
  exact Nat.mod_eq_of_lt (by omega)
theorem dig_back (c : UInt8) (h : 48 ≤ c.toNat) : UInt8.ofNat (48 + (c.toNat - 48)) = c := by
  rw [show 48 + (c.toNat - 48) = c.toNat by omega]
  exact UInt8.ofNat_toNat
theorem dec_val : ∀ r : List UInt8, digL r = true → r ≠ [] → (r.length = 1 ∨ r.reverse.head? ≠ some 48) → decDigits (valN 0 r.reverse) = r.reverse
  | [], _, h, _ => absurd rfl h
  | c :: r, hd, _, hh => by
    have hd' : (48 ≤ c.toNat ∧ c.toNat ≤ 57) ∧ digL r = true := by
      simpa only [digL, List.all_cons, Bool.and_eq_true, decide_eq_true_eq] using hd
    rw [List.reverse_cons, valN_snoc]
    have hc := dig_back c hd'.1.1
    by_cases hr : r = []
    · subst hr
      rw [show valN 0 ([] : List UInt8).reverse * 10 + (c.toNat - 48) = c.toNat - 48 by simp [valN], decDigits_one (by omega), hc]
      rfl
    · have hr' : r.reverse ≠ [] := by simpa using hr
      have hlen : 1 ≤ r.length := Nat.pos_of_ne_zero fun e => hr (List.eq_nil_of_length_eq_zero e)
      have hh' : r.reverse.head? ≠ some 48 := by
        rcases hh with hh | hh
        · exact absurd (by simpa using hh) hr
        · rwa [List.reverse_cons, head_snoc hr'] at hh
      have ih := dec_val r hd'.2 hr (.inr hh')
      have hp : valN 0 r.reverse ≠ 0 := fun e => by
        rw [e, decDigits_one (by omega)] at ih
        apply hh'
        rw [← ih]
        rfl
      rw [decDigits.eq_1, dif_neg (by omega), show (valN 0 r.reverse * 10 + (c.toNat - 48)) / 10 = valN 0 r.reverse by omega, show (valN 0 r.reverse * 10 + (c.toNat - 48)) % 10 = c.toNat - 48 by omega, ih, hc]
theorem dec_ne (m : Nat) : decDigits m ≠ [] := fun e => by
  have := decDigits_length m
  rw [e] at this
  have := nDigits_pos m
  simp at *
  omega
theorem dec_head (m : Nat) : m ≠ 0 → (decDigits m).head? ≠ some 48 := by
  induction m using Nat.strongRecOn with
  | _ m ih =>
    intro hm
    by_cases h : m < 10
    · rw [decDigits_one h]
      intro e
      have e' : UInt8.ofNat (48 + m) = 48 := by simpa using e
      have := congrArg UInt8.toNat e'
      rw [dig_ofNat m h] at this
      have h48 : (48 : UInt8).toNat = 48 := rfl
      omega
    · rw [decDigits.eq_1, dif_neg h, head_snoc (dec_ne _)]
      exact ih (m / 10) (by omega) (by omega)
theorem dec_back (m : Nat) : valN 0 (decDigits m) = m ∧ digL (decDigits m) = true := by
  induction m using Nat.strongRecOn with
  | _ m ih =>
    by_cases h : m < 10
    · rw [decDigits_one h]
      have := dig_ofNat m h
      refine ⟨?_, ?_⟩
      · simp only [valN, List.foldl_cons, List.foldl_nil, this]
        omega
      · simp only [digL, List.all_cons, List.all_nil, this, Bool.and_true, Bool.and_eq_true, decide_eq_true_eq]
        omega
    · obtain ⟨i1, i2⟩ := ih (m / 10) (by omega)
      have := dig_ofNat (m % 10) (by omega)
      rw [decDigits.eq_1, dif_neg h]
      refine ⟨?_, ?_⟩
      · rw [valN_snoc, i1, this]
        omega
      · unfold digL at i2 ⊢
        rw [List.all_append, i2]
        simp only [List.all_cons, List.all_nil, this, Bool.and_true, Bool.true_and, Bool.and_eq_true, decide_eq_true_eq]
        omega
theorem valN_bd : ∀ (l : List UInt8) (acc : Nat), digL l = true → valN acc l + 1 ≤ (acc + 1) * 10 ^ l.length
  | [], acc, _ => by simp [valN]
  | c :: l, acc, h => by
    have h' : (48 ≤ c.toNat ∧ c.toNat ≤ 57) ∧ digL l = true := by
      simpa only [digL, List.all_cons, Bool.and_eq_true, decide_eq_true_eq] using h
    have ih := valN_bd l (acc * 10 + (c.toNat - 48)) h'.2
    have e : valN acc (c :: l) = valN (acc * 10 + (c.toNat - 48)) l := rfl
    rw [e, List.length_cons, Nat.pow_succ, Nat.mul_comm (10 ^ l.length), ← Nat.mul_assoc]
    exact Nat.le_trans ih (Nat.mul_le_mul_right _ (by omega))
/-- What a numeral says. -/
def parseS (s : ByteArray) : Int × Bool :=
  if 1 ≤ s.toList.length ∧ s.toList.length ≤ 10 ∧ digL s.toList = true ∧ (s.toList.length = 1 ∨ s.toList.head? ≠ some 48) ∧ valN 0 s.toList ≤ 2147483647 then ((valN 0 s.toList : Nat), true) else (0, false)
theorem len_size (s : ByteArray) : s.toList.length = s.size := by
  rw [Lem.toList_data]
  rfl
theorem bt_list (s : ByteArray) (i : Nat) (h : i < s.size) : bt s (i : Int) = (((s.toList.getD i 0).toNat : Nat) : Int) := by
  unfold bt
  have h' : (i : Int).toNat < s.size := by simpa using h
  rw [dif_pos h', Lem.toList_data]
  have h2 : i < s.data.toList.length := by simpa using h
  simp only [Int.toNat_natCast, List.getD_eq_getElem?_getD, List.getElem?_eq_getElem h2, Option.getD_some]
  rfl
theorem head_bt (s : ByteArray) (h : 0 < s.size) : bt s 0 = 48 ↔ s.toList.head? = some 48 := by
  have e := bt_list s 0 h
  rw [show ((0 : Nat) : Int) = 0 from rfl] at e
  rw [e]
  have hl : 0 < s.toList.length := by rw [len_size]; exact h
  cases hs : s.toList with
  | nil => rw [hs] at hl; simp at hl
  | cons a t =>
    simp only [List.getD_cons_zero, List.head?_cons, Option.some.injEq]
    constructor
    · intro q
      apply UInt8.toNat_inj.1
      have h48 : (48 : UInt8).toNat = 48 := rfl
      omega
    · intro q
      rw [q]
      rfl
theorem toList_mk (l : List UInt8) : (⟨l.toArray⟩ : ByteArray).toList = l := by rw [Lem.toList_data]
theorem numS_nat (v : Nat) : (numS (v : Int)).toList = decDigits v := by
  unfold numS itoa
  rw [toList_mk, if_neg (by omega)]
  rfl
theorem num_iff {l : List UInt8} (hd : digL l = true) (hl : 1 ≤ l.length) : decDigits (valN 0 l) = l ↔ (l.length = 1 ∨ l.head? ≠ some 48) := by
  constructor
  · intro e
    by_cases h : l.length = 1
    · exact .inl h
    · refine .inr fun q => ?_
      rw [← e] at q
      by_cases hv : valN 0 l = 0
      · rw [hv, decDigits_one (by omega)] at e
        rw [← e] at h
        exact h rfl
      · exact dec_head _ hv q
  · intro h
    have hr : digL l.reverse = true := by
      unfold digL at hd ⊢
      rw [List.all_reverse]
      exact hd
    have := dec_val l.reverse hr (by
      intro e
      have : l = [] := by simpa using e
      rw [this] at hl
      simp at hl) (by simpa using h)
    rwa [List.reverse_reverse] at this
theorem lst_step {s : ByteArray} {i : Nat} (h : i < s.size) (v : Nat) (hv : v < 1000000000000) :
    ((¬ bt s (i : Int) < 48 ∧ ¬ bt s (i : Int) > 57) → wrap64 (wrap64 ((v : Int) * 10) + (bt s (i : Int) - 48) % 256) = ((v * 10 + ((s.toList.getD i 0).toNat - 48) : Nat) : Int)) ∧
    (digL (s.toList.drop i) = ((!decide (bt s (i : Int) < 48) && !decide (bt s (i : Int) > 57)) && digL (s.toList.drop (i + 1)))) ∧
    valN v (s.toList.drop i) = valN (v * 10 + ((s.toList.getD i 0).toNat - 48)) (s.toList.drop (i + 1)) := by
  have e := bt_list s i h
  have hd : s.toList.drop i = s.toList.getD i 0 :: s.toList.drop (i + 1) := drop_cons _ _ (by rw [len_size]; exact h)
  have hc : (s.toList.getD i 0).toNat < 256 := UInt8.toNat_lt _
  generalize s.toList.getD i 0 = c at *
  refine ⟨?_, ?_, ?_⟩
  · rintro ⟨h1, h2⟩
    rw [e] at h1 h2 ⊢
    rw [w64 (x := (v : Int) * 10) (by omega) (by omega), w64 (by omega) (by omega)]
    omega
  · rw [hd, e]
    simp only [digL, List.all_cons]
    congr 1
    rw [Bool.eq_iff_iff]
    simp only [Bool.and_eq_true, decide_eq_true_eq, Bool.not_eq_true', decide_eq_false_iff_not]
    omega
  · rw [hd]
    rfl
theorem spec_l1In_eqP (a b c : Int) : spec_l1In.f a b c = some (decide (b ≤ a) && decide (a ≤ c)) := by
  unfold spec_l1In.f
  by_cases h : a ≥ b
  · have h' : b ≤ a := h
    simp [h']
  · have h' : ¬ b ≤ a := h
    simp [h']
theorem impl_inRange_eqP (a b c : Int) : impl_inRange.f a b c = some (decide (b ≤ a) && decide (a ≤ c)) := by
  unfold impl_inRange.f
  by_cases h : a ≥ b
  · have h' : b ≤ a := h
    simp [h']
  · have h' : ¬ b ≤ a := h
    simp [h']
theorem pow_le (i : Nat) (h : i ≤ 11) : 10 ^ i ≤ 100000000000 := by
  have : 10 ^ i ≤ 10 ^ 11 := Nat.pow_le_pow_right (by omega) h
  exact this
theorem impl_ParseNum_ev (s : ByteArray) : Ev (fun k => impl_ParseNum.f k s) (parseS s) := by
  unfold impl_ParseNum.f
  simp only [impl_inRange_eqP, Option.bind_some]
  have ls := len_size s
  by_cases c : 1 ≤ s.size ∧ s.size ≤ 10
  · have c' : (decide ((1 : Int) ≤ (s.size : Int)) && decide ((s.size : Int) ≤ 10)) = true := by
      simp only [Bool.and_eq_true, decide_eq_true_eq]
      omega
    simp only [c', if_true]
    have key : ∀ d i, i + d = s.size → ∀ v : Nat, v < 10 ^ i → Ev (fun k => impl_ParseNum.l0 k s (v : Int) (i : Int)) (if digL (s.toList.drop i) = true then (if decDigits (valN v (s.toList.drop i)) = s.toList ∧ valN v (s.toList.drop i) ≤ 2147483647 then ((valN v (s.toList.drop i) : Nat), true) else (0, false)) else (0, false)) := by
      intro d
      induction d with
      | zero =>
        intro i hi v hv
        have hp := pow_le i (by omega)
        have c1 : ¬ (i : Int) < (s.size : Int) := by omega
        refine Ev.step (fun k => by rw [impl_ParseNum.l0]) ?_
        rw [List.drop_eq_nil_of_le (by omega)]
        simp only [c1, if_false, impl_NumText_eq (v : Int) (by omega) (by omega), Option.bind_some, numS_nat, impl_isWord.f, impl_inRange_eqP, digL, List.all_nil, if_true, valN, List.foldl_nil]
        by_cases e : decDigits v = s.toList
        · by_cases b : v ≤ 2147483647
          · have b' : (decide ((-2147483648 : Int) ≤ (v : Int)) && decide ((v : Int) ≤ 2147483647)) = true := by
              simp only [Bool.and_eq_true, decide_eq_true_eq]
              omega
            simp only [e, b, b', if_true, and_self]
            exact Ev.now _
          · have b' : (decide ((-2147483648 : Int) ≤ (v : Int)) && decide ((v : Int) ≤ 2147483647)) = false := by
              rw [Bool.and_eq_false_iff]
              exact .inr (decide_eq_false (by omega))
            simp only [e, b, b', if_true, and_false, if_false, Bool.false_eq_true]
            exact Ev.now _
        · simp only [e, false_and, if_false]
          exact Ev.now _
      | succ d ih =>
        intro i hi v hv
        have hp := pow_le i (by omega)
        have c1 : (i : Int) < (s.size : Int) := by omega
        have c0 : (0 : Int) ≤ (i : Int) := by omega
        have hw : wrap64 ((i : Int) + 1) = ((i + 1 : Nat) : Int) := by rw [w64 (by omega) (by omega)]; omega
        obtain ⟨h1, h2, h3⟩ := lst_step (s := s) (i := i) (by omega) v (by omega)
        have hb := bt_list s i (by omega)
        refine Ev.step (fun k => by rw [impl_ParseNum.l0]) ?_
        by_cases q1 : bt s (i : Int) < 48
        · simp only [c0, c1, q1, if_true, h2, decide_true, Bool.not_true, Bool.false_and, Bool.false_eq_true, if_false]
          exact Ev.now _
        · by_cases q2 : bt s (i : Int) > 57
          · simp only [c0, c1, q1, q2, if_true, if_false, h2, decide_true, Bool.not_true, Bool.and_false, Bool.false_and, Bool.false_eq_true]
            exact Ev.now _
          · have next := ih (i + 1) (by omega) (v * 10 + ((s.toList.getD i 0).toNat - 48)) (by rw [Nat.pow_succ]; omega)
            rw [← h3] at next
            simp only [c0, c1, q1, q2, if_true, if_false, h1 ⟨q1, q2⟩, hw, h2, decide_false, Bool.not_false, Bool.true_and]
            exact next
    have := key s.size 0 (by omega) 0 (by simp)
    rw [List.drop_zero] at this
    have e : (if digL s.toList = true then (if decDigits (valN 0 s.toList) = s.toList ∧ valN 0 s.toList ≤ 2147483647 then (((valN 0 s.toList : Nat) : Int), true) else (0, false)) else (0, false)) = parseS s := by
      unfold parseS
      by_cases hd : digL s.toList = true
      · rw [if_pos hd]
        have hi := num_iff hd (by omega)
        by_cases q : decDigits (valN 0 s.toList) = s.toList ∧ valN 0 s.toList ≤ 2147483647
        · rw [if_pos q, if_pos ⟨by omega, by omega, hd, hi.1 q.1, q.2⟩]
        · rw [if_neg q, if_neg fun h => q ⟨hi.2 h.2.2.2.1, h.2.2.2.2⟩]
      · rw [if_neg hd, if_neg fun h => hd h.2.2.1]
    rw [e] at this
    exact this
  · have c' : (decide ((1 : Int) ≤ (s.size : Int)) && decide ((s.size : Int) ≤ 10)) = false := by
      cases q : (decide ((1 : Int) ≤ (s.size : Int)) && decide ((s.size : Int) ≤ 10)) with
      | false => rfl
      | true =>
        simp only [Bool.and_eq_true, decide_eq_true_eq] at q
        exact absurd ⟨by omega, by omega⟩ c
    simp only [c', Bool.false_eq_true, if_false]
    have e : parseS s = (0, false) := by
      unfold parseS
      rw [if_neg fun h => c ⟨by omega, by omega⟩]
    rw [e]
    exact Ev.now _
theorem spec_ParseNum_ev (s : ByteArray) (hs : s.size ≤ 140737488351232) : Ev (fun k => spec_ParseNum.f k s) (parseS s) := by
  unfold spec_ParseNum.f
  have ls := len_size s
  by_cases c : 1 ≤ s.size ∧ s.size ≤ 10
  · have c' : (decide ((1 : Int) ≤ (s.size : Int)) && decide ((s.size : Int) ≤ 10)) = true := by
      simp only [Bool.and_eq_true, decide_eq_true_eq]
      omega
    have key : ∀ d i, i + d = s.size → ∀ v : Nat, v < 10 ^ i → Ev (fun k => spec_ParseNum.l0 k s (v : Int) (i : Int)) (if digL (s.toList.drop i) = true then (if (s.toList.length = 1 ∨ s.toList.head? ≠ some 48) ∧ valN v (s.toList.drop i) ≤ 2147483647 then ((valN v (s.toList.drop i) : Nat), true) else (0, false)) else (0, false)) := by
      intro d
      induction d with
      | zero =>
        intro i hi v hv
        have hp := pow_le i (by omega)
        have c1 : ¬ (i : Int) < (s.size : Int) := by omega
        refine Ev.step (fun k => by rw [spec_ParseNum.l0]) ?_
        simp only [c1, if_false]
        refine Ev.step (fun k => by rw [spec_ParseNum.j1]) ?_
        rw [List.drop_eq_nil_of_le (by omega)]
        have c3 : (0 : Int) < (s.size : Int) := by omega
        have hh := head_bt s (by omega)
        simp only [Bool.false_eq_true, if_false, spec_l1In_eqP, c', Option.bind_some, if_true, digL, List.all_nil, valN, List.foldl_nil, c3]
        by_cases g : (s.size : Int) > 1
        · simp only [g, if_true]
          have n1 : ¬ s.toList.length = 1 := by omega
          by_cases q : bt s 0 = 48
          · have : s.toList.head? = some 48 := hh.1 q
            simp only [q, if_true, n1, this, ne_eq, not_true_eq_false, or_self, false_and, if_false]
            exact Ev.now _
          · have hne : ¬ s.toList.head? = some 48 := fun h => q (hh.2 h)
            simp only [q, if_false, n1, hne, ne_eq, not_false_eq_true, or_true, true_and]
            by_cases b : v ≤ 2147483647
            · have b' : ¬ (v : Int) > 2147483647 := by omega
              simp only [b, b', if_true, if_false]
              exact Ev.now _
            · have b' : (v : Int) > 2147483647 := by omega
              simp only [b, b', if_true, if_false]
              exact Ev.now _
        · simp only [g, if_false]
          have n1 : s.toList.length = 1 := by omega
          simp only [n1, true_or, true_and]
          by_cases b : v ≤ 2147483647
          · have b' : ¬ (v : Int) > 2147483647 := by omega
            simp only [b, b', if_true, if_false]
            exact Ev.now _
          · have b' : (v : Int) > 2147483647 := by omega
            simp only [b, b', if_true, if_false]
            exact Ev.now _
      | succ d ih =>
        intro i hi v hv
        have hp := pow_le i (by omega)
        have c1 : (i : Int) < (s.size : Int) := by omega
        have c0 : (0 : Int) ≤ (i : Int) := by omega
        have c2 : (i : Int) < 11 := by omega
        have hw : wrap64 ((i : Int) + 1) = ((i + 1 : Nat) : Int) := by rw [w64 (by omega) (by omega)]; omega
        obtain ⟨h1, h2, h3⟩ := lst_step (s := s) (i := i) (by omega) v (by omega)
        have hb := bt_list s i (by omega)
        have hr := bt_range s (i : Int)
        have wb : wrap64 (bt s (i : Int)) = bt s (i : Int) := w64 (by omega) (by omega)
        refine Ev.step (fun k => by rw [spec_ParseNum.l0]) ?_
        simp only [c1, if_true, c2, decide_true]
        refine Ev.step (fun k => by rw [spec_ParseNum.j1]) ?_
        simp only [c0, c1, if_true, spec_l1In_eqP, Option.bind_some, wb]
        by_cases q : 48 ≤ bt s (i : Int) ∧ bt s (i : Int) ≤ 57
        · have q1 : ¬ bt s (i : Int) < 48 := by omega
          have q2 : ¬ bt s (i : Int) > 57 := by omega
          have next := ih (i + 1) (by omega) (v * 10 + ((s.toList.getD i 0).toNat - 48)) (by rw [Nat.pow_succ]; omega)
          rw [← h3] at next
          simp only [q.1, q.2, decide_true, Bool.and_self, if_true, h1 ⟨q1, q2⟩, hw, h2, q1, q2, decide_false, Bool.not_false, Bool.true_and]
          exact next
        · have q' : (decide (48 ≤ bt s (i : Int)) && decide (bt s (i : Int) ≤ 57)) = false := by
            cases x : (decide (48 ≤ bt s (i : Int)) && decide (bt s (i : Int) ≤ 57)) with
            | false => rfl
            | true =>
              simp only [Bool.and_eq_true, decide_eq_true_eq] at x
              exact absurd x q
          have q2 : (!decide (bt s (i : Int) < 48) && !decide (bt s (i : Int) > 57)) = false := by
            cases x : (!decide (bt s (i : Int) < 48) && !decide (bt s (i : Int) > 57)) with
            | false => rfl
            | true =>
              simp only [Bool.and_eq_true, Bool.not_eq_true', decide_eq_false_iff_not] at x
              exact absurd ⟨by omega, by omega⟩ q
          simp only [q', Bool.false_eq_true, if_false, h2, q2, Bool.false_and]
          exact Ev.now _
    have := key s.size 0 (by omega) 0 (by simp)
    rw [List.drop_zero] at this
    have e : (if digL s.toList = true then (if (s.toList.length = 1 ∨ s.toList.head? ≠ some 48) ∧ valN 0 s.toList ≤ 2147483647 then (((valN 0 s.toList : Nat) : Int), true) else (0, false)) else (0, false)) = parseS s := by
      unfold parseS
      by_cases hd : digL s.toList = true
      · rw [if_pos hd]
        by_cases q : (s.toList.length = 1 ∨ s.toList.head? ≠ some 48) ∧ valN 0 s.toList ≤ 2147483647
        · rw [if_pos q, if_pos ⟨by omega, by omega, hd, q.1, q.2⟩]
        · rw [if_neg q, if_neg fun h => q ⟨h.2.2.2.1, h.2.2.2.2⟩]
      · rw [if_neg hd, if_neg fun h => hd h.2.2.1]
    rw [e] at this
    exact this
  · have e : parseS s = (0, false) := by
      unfold parseS
      rw [if_neg fun h => c ⟨by omega, by omega⟩]
    rw [e]
    have c' : (decide ((1 : Int) ≤ (s.size : Int)) && decide ((s.size : Int) ≤ 10)) = false := by
      cases q : (decide ((1 : Int) ≤ (s.size : Int)) && decide ((s.size : Int) ≤ 10)) with
      | false => rfl
      | true =>
        simp only [Bool.and_eq_true, decide_eq_true_eq] at q
        exact absurd ⟨by omega, by omega⟩ c
    have stop : ∀ (x y : Int), Ev (fun k => spec_ParseNum.j1 k s x y false) (0, false) := fun x y => by
      refine Ev.step (fun k => by rw [spec_ParseNum.j1]) ?_
      simp only [Bool.false_eq_true, if_false, spec_l1In_eqP, c', Option.bind_some]
      exact Ev.now _
    have key : ∀ d i : Nat, i + d = 11 → ∀ v : Nat, v < 10 ^ i → Ev (fun k => spec_ParseNum.l0 k s (v : Int) (i : Int)) (0, false) := by
      intro d
      induction d with
      | zero =>
        intro i hi v hv
        have c2 : ¬ (i : Int) < 11 := by omega
        refine Ev.step (fun k => by rw [spec_ParseNum.l0]) ?_
        by_cases c1 : (i : Int) < (s.size : Int)
        · simp only [c1, if_true, c2, decide_false]
          exact stop _ _
        · simp only [c1, if_false]
          exact stop _ _
      | succ d ih =>
        intro i hi v hv
        have hp := pow_le i (by omega)
        refine Ev.step (fun k => by rw [spec_ParseNum.l0]) ?_
        by_cases c1 : (i : Int) < (s.size : Int)
        · have c0 : (0 : Int) ≤ (i : Int) := by omega
          have c2 : (i : Int) < 11 := by omega
          have hw : wrap64 ((i : Int) + 1) = ((i + 1 : Nat) : Int) := by rw [w64 (by omega) (by omega)]; omega
          obtain ⟨h1, _, _⟩ := lst_step (s := s) (i := i) (by omega) v (by omega)
          have hb := bt_list s i (by omega)
          have hr := bt_range s (i : Int)
          have wb : wrap64 (bt s (i : Int)) = bt s (i : Int) := w64 (by omega) (by omega)
          simp only [c1, if_true, c2, decide_true]
          refine Ev.step (fun k => by rw [spec_ParseNum.j1]) ?_
          simp only [c0, c1, if_true, spec_l1In_eqP, Option.bind_some, wb]
          by_cases q : 48 ≤ bt s (i : Int) ∧ bt s (i : Int) ≤ 57
          · simp only [q.1, q.2, decide_true, Bool.and_self, if_true, h1 ⟨by omega, by omega⟩, hw]
            exact ih (i + 1) (by omega) _ (by rw [Nat.pow_succ]; omega)
          · have q' : (decide (48 ≤ bt s (i : Int)) && decide (bt s (i : Int) ≤ 57)) = false := by
              cases x : (decide (48 ≤ bt s (i : Int)) && decide (bt s (i : Int) ≤ 57)) with
              | false => rfl
              | true =>
                simp only [Bool.and_eq_true, decide_eq_true_eq] at x
                exact absurd x q
            simp only [q', Bool.false_eq_true, if_false]
            exact Ev.now _
        · simp only [c1, if_false]
          exact stop _ _
    exact key 11 0 (by omega) 0 (by simp)
/-! ### signs -/
def isL (b : Int) : Bool := decide (97 ≤ b) && decide (b ≤ 122)
def isD (b : Int) : Bool := decide (48 ≤ b) && decide (b ≤ 57)
/-- How many bytes in a row are such ones, from a place on, at most so many. -/
def runN (p : Int → Bool) (s : ByteArray) : Nat → Nat → Nat
  | 0, _ => 0
  | d + 1, i => if p (bt s (i : Int)) = true then runN p s d (i + 1) + 1 else 0
theorem runN_le (p : Int → Bool) (s : ByteArray) : ∀ d i, runN p s d i ≤ d
  | 0, _ => Nat.le_refl _
  | d + 1, i => by
    have := runN_le p s d (i + 1)
    unfold runN
    split <;> omega
theorem bt_sub (s : ByteArray) (a j : Nat) (h : a + j < s.size) : bt (s.extract a s.size) (j : Int) = bt s ((a + j : Nat) : Int) := by
  have h1 : j < (s.extract a s.size).size := by
    rw [ByteArray.size_extract]
    omega
  unfold bt
  rw [dif_pos (show (j : Int).toNat < (s.extract a s.size).size by simpa using h1), dif_pos (show ((a + j : Nat) : Int).toNat < s.size by rw [Int.toNat_natCast]; exact h)]
  simp only [Int.toNat_natCast]
  rw [ByteArray.getElem_extract]
theorem runN_sub (p : Int → Bool) (s : ByteArray) (a : Nat) : ∀ d j, a + j + d = s.size → runN p (s.extract a s.size) d j = runN p s d (a + j)
  | 0, _, _ => rfl
  | d + 1, j, h => by
    unfold runN
    rw [bt_sub s a j (by omega), runN_sub p s a d (j + 1) (by omega)]
    rfl
theorem runL_ev (s : ByteArray) (hs : s.size ≤ maxLen) : Ev (fun k => impl_runOf50.f k s) (s.extract 0 (runN isL s s.size 0)) := by
  unfold impl_runOf50.f
  have key : ∀ d i, i + d = s.size → Ev (fun k => impl_runOf50.l0 k s (i : Int)) (s.extract 0 (i + runN isL s d i)) := by
    intro d
    induction d with
    | zero =>
      intro i hi
      have c : ¬ (i : Int) < (s.size : Int) := by omega
      have c0 : (0 : Int) ≤ (i : Int) := by omega
      have c2 : (i : Int) ≤ (s.size : Int) := by omega
      refine Ev.step (fun k => by rw [impl_runOf50.l0]) ?_
      simp only [c, c0, c2, if_true, if_false, Int.toNat_natCast, runN, Nat.add_zero]
      exact Ev.now _
    | succ d ih =>
      intro i hi
      have c : (i : Int) < (s.size : Int) := by omega
      have c0 : (0 : Int) ≤ (i : Int) := by omega
      have c2 : (i : Int) ≤ (s.size : Int) := by omega
      have hw : wrap64 ((i : Int) + 1) = ((i + 1 : Nat) : Int) := wi (n := s.size) (by omega) hs
      refine Ev.step (fun k => by rw [impl_runOf50.l0]) ?_
      have eL : impl_isLetter.f (bt s (i : Int)) = some (isL (bt s (i : Int))) := impl_isLetter_eq _
      simp only [c, c0, c2, if_true, eL, Option.bind_some, hw, runN]
      cases isL (bt s (i : Int)) with
      | true =>
        simp only [if_true]
        have := ih (i + 1) (by omega)
        rwa [show i + 1 + runN isL s d (i + 1) = i + (runN isL s d (i + 1) + 1) by omega] at this
      | false =>
        simp only [Bool.false_eq_true, if_false, Int.toNat_natCast, Nat.add_zero]
        exact Ev.now _
  have := key s.size 0 (by omega)
  rwa [Nat.zero_add] at this
theorem fig_eq (b : Int) : impl_runOfFig.f b = some (isD b) := by
  unfold impl_runOfFig.f isD
  by_cases h : b ≥ 48
  · have h' : 48 ≤ b := h
    simp [h']
  · have h' : ¬ 48 ≤ b := h
    simp [h']
theorem runD_ev (s : ByteArray) (hs : s.size ≤ maxLen) : Ev (fun k => impl_runOf63.f k s) (s.extract 0 (runN isD s s.size 0)) := by
  unfold impl_runOf63.f
  have key : ∀ d i, i + d = s.size → Ev (fun k => impl_runOf63.l0 k s (i : Int)) (s.extract 0 (i + runN isD s d i)) := by
    intro d
    induction d with
    | zero =>
      intro i hi
      have c : ¬ (i : Int) < (s.size : Int) := by omega
      have c0 : (0 : Int) ≤ (i : Int) := by omega
      have c2 : (i : Int) ≤ (s.size : Int) := by omega
      refine Ev.step (fun k => by rw [impl_runOf63.l0]) ?_
      simp only [c, c0, c2, if_true, if_false, Int.toNat_natCast, runN, Nat.add_zero]
      exact Ev.now _
    | succ d ih =>
      intro i hi
      have c : (i : Int) < (s.size : Int) := by omega
      have c0 : (0 : Int) ≤ (i : Int) := by omega
      have c2 : (i : Int) ≤ (s.size : Int) := by omega
      have hw : wrap64 ((i : Int) + 1) = ((i + 1 : Nat) : Int) := wi (n := s.size) (by omega) hs
      refine Ev.step (fun k => by rw [impl_runOf63.l0]) ?_
      simp only [c, c0, c2, if_true, fig_eq, Option.bind_some, hw, runN]
      cases isD (bt s (i : Int)) with
      | true =>
        simp only [if_true]
        have := ih (i + 1) (by omega)
        rwa [show i + 1 + runN isD s d (i + 1) = i + (runN isD s d (i + 1) + 1) by omega] at this
      | false =>
        simp only [Bool.false_eq_true, if_false, Int.toNat_natCast, Nat.add_zero]
        exact Ev.now _
  have := key s.size 0 (by omega)
  rwa [Nat.zero_add] at this
def marksL : List UInt8 := [59, 61, 91, 93, 40, 41, 123, 125, 43, 45, 42, 44]
def markS (x : ByteArray) : Bool := marksL.any fun m => m == x.data.toList.getD 0 0
theorem mark_fin : ∀ n : Fin 256, (decide (0 ≤ Go.Lib.indexByte [59, 61, 91, 93, 40, 41, 123, 125, 43, 45, 42, 44] (UInt8.ofNat n.val))) = marksL.any (fun m => m == UInt8.ofNat n.val) := by decide +kernel
theorem mark_impl (c : UInt8) : (decide (0 ≤ Go.Lib.indexByte [59, 61, 91, 93, 40, 41, 123, 125, 43, 45, 42, 44] c)) = marksL.any (fun m => m == c) := by
  have := mark_fin ⟨c.toNat, UInt8.toNat_lt c⟩
  simpa using this
theorem one_byte {x : ByteArray} (h : x.size = 1) : ∃ c, x = (⟨#[c]⟩ : ByteArray) := by
  obtain ⟨⟨l⟩⟩ := x
  have hl : l.length = 1 := by simpa [ByteArray.size] using h
  match l, hl with
  | [c], _ => exact ⟨c, rfl⟩
/-- What stands at a place: kind, text, number, how many bytes, whether it is right. -/
def tokR (s : ByteArray) (a : Nat) : Int × ByteArray × Int × Int × Bool :=
  if runN isL s (s.size - a) a ≠ 0 then
    (if keptS (s.extract a (a + runN isL s (s.size - a) a)) = true then (3, s.extract a (a + runN isL s (s.size - a) a), 0, (runN isL s (s.size - a) a : Nat), true) else (1, s.extract a (a + runN isL s (s.size - a) a), 0, (runN isL s (s.size - a) a : Nat), nameS (s.extract a (a + runN isL s (s.size - a) a))))
  else if runN isD s (s.size - a) a ≠ 0 then
    (2, (⟨#[]⟩ : ByteArray), (parseS (s.extract a (a + runN isD s (s.size - a) a))).1, (runN isD s (s.size - a) a : Nat), (parseS (s.extract a (a + runN isD s (s.size - a) a))).2 && decide ((parseS (s.extract a (a + runN isD s (s.size - a) a))).1 ≤ 999999))
  else (4, s.extract a (a + 1), 0, 1, markS (s.extract a (a + 1)))
theorem ext_nil (s : ByteArray) (a n : Nat) (h : a + n ≤ s.size) : (s.extract a (a + n)).toList = ([] : List UInt8) ↔ n = 0 := by
  have hs : (s.extract a (a + n)).toList.length = n := by
    rw [len_size, ByteArray.size_extract]
    omega
  constructor
  · intro e
    rw [e] at hs
    exact hs.symm
  · intro e
    exact List.eq_nil_of_length_eq_zero (hs.trans e)
theorem impl_tokOf_ev (s : ByteArray) (a : Nat) (ha : a < s.size) (hs : s.size ≤ maxLen) : Ev (fun k => impl_tokOf.f k (s.extract a s.size)) (tokR s a) := by
  have sz : (s.extract a s.size).size = s.size - a := by
    rw [ByteArray.size_extract]
    omega
  have sub : ∀ n, n ≤ s.size - a → (s.extract a s.size).extract 0 n = s.extract a (a + n) := fun n hn => by
    rw [ByteArray.extract_extract, Nat.add_zero, Nat.min_eq_left (by omega)]
  have zs : ∀ n, n ≤ s.size - a → (s.extract a (a + n)).size = n := fun n hn => by
    rw [ByteArray.size_extract]
    omega
  have nl := runN_le isL s (s.size - a) a
  have nd := runN_le isD s (s.size - a) a
  have E1 := runL_ev (s.extract a s.size) (by omega)
  have E2 := runD_ev (s.extract a s.size) (by omega)
  rw [sz, runN_sub isL s a (s.size - a) 0 (by omega), Nat.add_zero, sub _ nl] at E1
  rw [sz, runN_sub isD s a (s.size - a) 0 (by omega), Nat.add_zero, sub _ nd] at E2
  unfold impl_tokOf.f impl_runOf.f tokR
  simp only [if_true, show ¬ (63 : Int) = 50 by omega, if_false]
  generalize runN isL s (s.size - a) a = n at *
  generalize runN isD s (s.size - a) a = m at *
  refine Ev.then E1 ?_
  by_cases c : n = 0
  · have e1 := (ext_nil s a n (by omega)).2 c
    rw [if_neg (show ¬ n ≠ 0 by omega)]
    simp only [e1, if_true]
    refine Ev.then E2 ?_
    by_cases c2 : m = 0
    · have e2 := (ext_nil s a m (by omega)).2 c2
      have i1 : (0 : Int) ≤ 1 := by omega
      have i2 : (1 : Int) ≤ ((s.extract a s.size).size : Int) := by omega
      rw [if_neg (show ¬ m ≠ 0 by omega)]
      simp only [e2, if_true, i1, i2]
      rw [sub 1 (by omega)]
      have s1 := zs 1 (by omega)
      unfold strings_Contains.f
      simp only [s1, if_true, Option.bind_some]
      have em : (decide (0 ≤ Go.Lib.indexByte ((⟨#[59, 61, 91, 93, 40, 41, 123, 125, 43, 45, 42, 44]⟩ : ByteArray).data.toList) ((s.extract a (a + 1)).data.toList.getD 0 0))) = markS (s.extract a (a + 1)) := mark_impl _
      rw [em]
      exact Ev.now _
    · have e2 : ¬ (s.extract a (a + m)).toList = ([] : List UInt8) := fun e => c2 ((ext_nil s a m (by omega)).1 e)
      rw [if_pos (show m ≠ 0 from c2)]
      simp only [e2, if_false]
      refine Ev.then (impl_ParseNum_ev _) ?_
      rw [zs m nd]
      cases hp : (parseS (s.extract a (a + m))).2 with
      | true =>
        simp only [if_true, Bool.true_and]
        exact Ev.now _
      | false =>
        simp only [Bool.false_eq_true, if_false, Bool.false_and]
        exact Ev.now _
  · have e1 : ¬ (s.extract a (a + n)).toList = ([] : List UInt8) := fun e => c ((ext_nil s a n (by omega)).1 e)
    rw [if_pos (show n ≠ 0 from c)]
    simp only [e1, if_false, impl_isKept_eq, Option.bind_some]
    rw [zs n nl]
    cases keptS (s.extract a (a + n)) with
    | true =>
      simp only [if_true]
      exact Ev.now _
    | false =>
      simp only [Bool.false_eq_true, if_false]
      exact Ev.then (impl_NameOk_ev _ (by rw [zs n nl]; omega)) (Ev.now _)
theorem spec_digit_eq (a : Int) (h0 : 0 ≤ a) (h1 : a ≤ 255) : spec_l2Digit.f a = some (isD a) := by
  unfold spec_l2Digit.f isD
  rw [w64 (by omega) (by omega), spec_l1In_eqP]
  rfl
/-- What the reference's next sign is. -/
def nextR (t : Int × ByteArray × Int × Int × Bool) (a : Nat) : Int × ByteArray × Int × Int :=
  if t.2.2.2.2 = true then (t.1, t.2.1, t.2.2.1, (a : Int) + t.2.2.2.1) else (0, (⟨#[]⟩ : ByteArray), 0, (a : Int) + t.2.2.2.1)
theorem spec_l2Next_ev (s : ByteArray) (a : Nat) (ha : a < s.size) (hs : s.size ≤ maxLen) (hz : s.size ≤ 140737488351232) : Ev (fun k => spec_l2Next.f k s (a : Int)) (nextR (tokR s a) a) := by
  have hs' := hs
  simp only [maxLen] at hs'
  have a0 : (0 : Int) ≤ (a : Int) := by omega
  have a1 : (a : Int) < (s.size : Int) := by omega
  have zs : ∀ n, n ≤ s.size - a → (s.extract a (a + n)).size = n := fun n hn => by
    rw [ByteArray.size_extract]
    omega
  have nl := runN_le isL s (s.size - a) a
  have nd := runN_le isD s (s.size - a) a
  obtain ⟨e, he⟩ : ∃ e, s.size - a = e + 1 := ⟨s.size - a - 1, by omega⟩
  have hr := bt_range s (a : Int)
  have eS : spec_l2Small.f (bt s (a : Int)) = some (isL (bt s (a : Int))) := spec_l2Small_eq _ hr.1 hr.2
  have eD := spec_digit_eq (bt s (a : Int)) hr.1 hr.2
  have un : ∀ p, runN p s (s.size - a) a = if p (bt s (a : Int)) = true then runN p s e (a + 1) + 1 else 0 := fun p => by
    rw [he]
    rfl
  have loopL : ∀ d i, i + d = s.size → ∀ R, Ev (fun k => spec_l2Next.j1 k s (a : Int) ((i + runN isL s d i : Nat) : Int)) R → Ev (fun k => spec_l2Next.l0 k s (a : Int) (i : Int)) R := by
    intro d
    induction d with
    | zero =>
      intro i hi R hR
      have c : ¬ (i : Int) < (s.size : Int) := by omega
      refine Ev.step (fun k => by rw [spec_l2Next.l0]) ?_
      simp only [c, if_false]
      exact hR
    | succ d ih =>
      intro i hi R hR
      have c : (i : Int) < (s.size : Int) := by omega
      have c0 : (0 : Int) ≤ (i : Int) := by omega
      have hw : wrap64 ((i : Int) + 1) = ((i + 1 : Nat) : Int) := wi (n := s.size) (by omega) hs
      have hr := bt_range s (i : Int)
      have eS : spec_l2Small.f (bt s (i : Int)) = some (isL (bt s (i : Int))) := spec_l2Small_eq _ hr.1 hr.2
      refine Ev.step (fun k => by rw [spec_l2Next.l0]) ?_
      simp only [c, c0, if_true, eS, Option.bind_some, hw]
      unfold runN at hR
      cases hp : isL (bt s (i : Int)) with
      | true =>
        rw [if_pos hp, show i + (runN isL s d (i + 1) + 1) = i + 1 + runN isL s d (i + 1) by omega] at hR
        simp only [if_true]
        exact ih (i + 1) (by omega) R hR
      | false =>
        rw [if_neg (by rw [hp]; simp), Nat.add_zero] at hR
        simp only [Bool.false_eq_true, if_false]
        exact hR
  have loopD : ∀ d i, i + d = s.size → ∀ R, Ev (fun k => spec_l2Next.j3 k s (a : Int) ((i + runN isD s d i : Nat) : Int)) R → Ev (fun k => spec_l2Next.l1 k s (a : Int) (i : Int)) R := by
    intro d
    induction d with
    | zero =>
      intro i hi R hR
      have c : ¬ (i : Int) < (s.size : Int) := by omega
      refine Ev.step (fun k => by rw [spec_l2Next.l1]) ?_
      simp only [c, if_false]
      exact hR
    | succ d ih =>
      intro i hi R hR
      have c : (i : Int) < (s.size : Int) := by omega
      have c0 : (0 : Int) ≤ (i : Int) := by omega
      have hw : wrap64 ((i : Int) + 1) = ((i + 1 : Nat) : Int) := wi (n := s.size) (by omega) hs
      have hr := bt_range s (i : Int)
      have eD := spec_digit_eq (bt s (i : Int)) hr.1 hr.2
      refine Ev.step (fun k => by rw [spec_l2Next.l1]) ?_
      simp only [c, c0, if_true, eD, Option.bind_some, hw]
      unfold runN at hR
      cases hp : isD (bt s (i : Int)) with
      | true =>
        rw [if_pos hp, show i + (runN isD s d (i + 1) + 1) = i + 1 + runN isD s d (i + 1) by omega] at hR
        simp only [if_true]
        exact ih (i + 1) (by omega) R hR
      | false =>
        rw [if_neg (by rw [hp]; simp), Nat.add_zero] at hR
        simp only [Bool.false_eq_true, if_false]
        exact hR
  unfold spec_l2Next.f
  simp only [a0, a1, if_true, eS, Option.bind_some]
  cases hL : isL (bt s (a : Int)) with
  | true =>
    simp only [if_true]
    have hn := un isL
    rw [if_pos hL] at hn
    refine loopL (s.size - a) a (by omega) _ ?_
    unfold tokR
    have c : runN isL s (s.size - a) a ≠ 0 := by omega
    rw [if_pos c]
    generalize runN isL s (s.size - a) a = n at *
    have i1 : (a : Int) ≤ ((a + n : Nat) : Int) := by omega
    have i2 : ((a + n : Nat) : Int) ≤ (s.size : Int) := by omega
    have i3 : ((a + n : Nat) : Int) = (a : Int) + (n : Int) := by omega
    refine Ev.step (fun k => by rw [spec_l2Next.j1]) ?_
    simp only [a0, i1, i2, if_true, Int.toNat_natCast]
    refine Ev.then (spec_l2Kept_ev _) ?_
    cases keptS (s.extract a (a + n)) with
    | true =>
      simp only [if_true, nextR, i3]
      exact Ev.now _
    | false =>
      simp only [Bool.false_eq_true, if_false]
      refine Ev.then (spec_NameOk_ev _ (by rw [zs n nl]; omega)) ?_
      cases nameS (s.extract a (a + n)) with
      | true =>
        simp only [if_true, nextR, i3]
        exact Ev.now _
      | false =>
        simp only [Bool.false_eq_true, if_false, nextR, i3]
        exact Ev.now _
  | false =>
    simp only [Bool.false_eq_true, if_false, eD, Option.bind_some]
    have hn := un isL
    rw [if_neg (by rw [hL]; simp)] at hn
    unfold tokR
    rw [if_neg (by rw [hn]; simp)]
    cases hD : isD (bt s (a : Int)) with
    | true =>
      simp only [if_true]
      have hm := un isD
      rw [if_pos hD] at hm
      refine loopD (s.size - a) a (by omega) _ ?_
      have c : runN isD s (s.size - a) a ≠ 0 := by omega
      rw [if_pos c]
      generalize runN isD s (s.size - a) a = n at *
      have i1 : (a : Int) ≤ ((a + n : Nat) : Int) := by omega
      have i2 : ((a + n : Nat) : Int) ≤ (s.size : Int) := by omega
      have i3 : ((a + n : Nat) : Int) = (a : Int) + (n : Int) := by omega
      refine Ev.step (fun k => by rw [spec_l2Next.j3]) ?_
      simp only [a0, i1, i2, if_true, Int.toNat_natCast]
      refine Ev.then (spec_ParseNum_ev _ (by rw [zs n nd]; omega)) ?_
      cases hp : (parseS (s.extract a (a + n))).2 with
      | true =>
        simp only [if_true]
        refine Ev.step (fun k => by rw [spec_l2Next.j4]) ?_
        by_cases q : (parseS (s.extract a (a + n))).1 ≤ 999999
        · have q' : ¬ (parseS (s.extract a (a + n))).1 > 999999 := by omega
          simp only [q, q', decide_true, decide_false, Bool.false_eq_true, if_false, Bool.and_self, nextR, if_true, i3]
          exact Ev.now _
        · have q' : (parseS (s.extract a (a + n))).1 > 999999 := by omega
          simp only [q, q', decide_true, decide_false, Bool.false_eq_true, if_false, Bool.and_false, nextR, if_true, i3]
          exact Ev.now _
      | false =>
        simp only [Bool.false_eq_true, if_false]
        refine Ev.step (fun k => by rw [spec_l2Next.j4]) ?_
        simp only [if_true, Bool.false_and, nextR, Bool.false_eq_true, if_false, i3]
        exact Ev.now _
    | false =>
      have hm := un isD
      rw [if_neg (by rw [hD]; simp)] at hm
      rw [if_neg (by rw [hm]; simp)]
      have hw : wrap64 ((a : Int) + 1) = ((a + 1 : Nat) : Int) := wi (n := s.size) (by omega) hs
      have i1 : (a : Int) ≤ ((a + 1 : Nat) : Int) := by omega
      have i2 : ((a + 1 : Nat) : Int) ≤ (s.size : Int) := by omega
      have i3 : ((a + 1 : Nat) : Int) = (a : Int) + 1 := by omega
      simp only [Bool.false_eq_true, if_false, hw, i1, i2, if_true, Int.toNat_natCast]
      have s1 := zs 1 (by omega)
      refine Ev.then (spec_l2Has_ev _ _ (by simp only [List.length_cons, List.length_nil, maxLen]; omega)) ?_
      have em : ([(⟨#[59]⟩ : ByteArray), (⟨#[61]⟩ : ByteArray), (⟨#[91]⟩ : ByteArray), (⟨#[93]⟩ : ByteArray), (⟨#[40]⟩ : ByteArray), (⟨#[41]⟩ : ByteArray), (⟨#[123]⟩ : ByteArray), (⟨#[125]⟩ : ByteArray), (⟨#[43]⟩ : ByteArray), (⟨#[45]⟩ : ByteArray), (⟨#[42]⟩ : ByteArray), (⟨#[44]⟩ : ByteArray)].any fun x => x.toList == (s.extract a (a + 1)).toList) = markS (s.extract a (a + 1)) := by
        obtain ⟨c, hc⟩ := one_byte s1
        rw [hc]
        unfold markS marksL
        simp only [List.any_cons, List.any_nil, Lem.toList_data]
        simp
      rw [em]
      cases markS (s.extract a (a + 1)) with
      | true =>
        simp only [if_true, nextR, i3]
        exact Ev.now _
      | false =>
        simp only [Bool.false_eq_true, if_false, nextR, i3]
        exact Ev.now _
theorem tokR_step (s : ByteArray) (a : Nat) (ha : a < s.size) : ∃ n : Nat, (tokR s a).2.2.2.1 = (n : Int) ∧ 1 ≤ n ∧ a + n ≤ s.size ∧ (tokR s a).1 ≠ 0 := by
  have nl := runN_le isL s (s.size - a) a
  have nd := runN_le isD s (s.size - a) a
  unfold tokR
  split
  · split
    · exact ⟨_, rfl, by omega, by omega, by simp⟩
    · exact ⟨_, rfl, by omega, by omega, by simp⟩
  · split
    · exact ⟨_, rfl, by omega, by omega, by simp⟩
    · exact ⟨1, rfl, by omega, by omega, by simp⟩
theorem lex_both (s : ByteArray) (hs : s.size ≤ maxLen) (hz : s.size ≤ 140737488351232) : ∃ R : List S47 × Bool, Ev (fun k => impl_Lex.f k s) R ∧ Ev (fun k => spec_Lex.f k s) R ∧ R.1.length ≤ 600 := by
  have hs' := hs
  simp only [maxLen] at hs'
  unfold impl_Lex.f spec_Lex.f
  simp only [Option.bind_some]
  by_cases big : (s.size : Int) > 3000
  · simp only [big, if_true]
    exact ⟨_, Ev.now _, Ev.now _, by simp⟩
  simp only [big, if_false]
  have key : ∀ d a, a + d = s.size → ∀ acc : List S47, acc.length ≤ 600 → ∃ R : List S47 × Bool, Ev (fun k => impl_Lex.l0 k s acc (a : Int)) R ∧ Ev (fun k => spec_Lex.l0 k s acc (a : Int)) R ∧ R.1.length ≤ 600 := by
    intro d
    induction d using Nat.strongRecOn with
    | _ d ih =>
      intro a had acc hac
      by_cases c : a < s.size
      · have c1 : (a : Int) < (s.size : Int) := by omega
        have c0 : (0 : Int) ≤ (a : Int) := by omega
        have c2 : (a : Int) ≤ (s.size : Int) := by omega
        have hw : wrap64 ((a : Int) + 1) = ((a + 1 : Nat) : Int) := wi (n := s.size) (by omega) hs
        have skip : ∃ R : List S47 × Bool, Ev (fun k => impl_Lex.j1 k s acc (a : Int) true) R ∧ Ev (fun k => spec_Lex.j1 k s acc (a : Int) true) R ∧ R.1.length ≤ 600 := by
          obtain ⟨R, E1, E2, hR⟩ := ih (d - 1) (by omega) (a + 1) (by omega) acc hac
          refine ⟨R, Ev.step (fun k => by rw [impl_Lex.j1]) ?_, Ev.step (fun k => by rw [spec_Lex.j1]) ?_, hR⟩
          · simp only [if_true, hw]
            exact E1
          · simp only [if_true, hw]
            exact E2
        have tok : ∃ R : List S47 × Bool, Ev (fun k => impl_Lex.j1 k s acc (a : Int) false) R ∧ Ev (fun k => spec_Lex.j1 k s acc (a : Int) false) R ∧ R.1.length ≤ 600 := by
          have T1 := impl_tokOf_ev s a c hs
          have T2 := spec_l2Next_ev s a c hs hz
          obtain ⟨n, hn, n1, n2, k0⟩ := tokR_step s a c
          have hadv : wrap64 ((a : Int) + (tokR s a).2.2.2.1) = ((a + n : Nat) : Int) := by
            rw [hn, w64 (by omega) (by omega)]
            omega
          have hadv2 : (a : Int) + (tokR s a).2.2.2.1 = ((a + n : Nat) : Int) := by
            rw [hn]
            omega
          have iS : (fun k => impl_Lex.j1 (k + 1) s acc (a : Int) false) = fun k => impl_Lex.j1 (k + 1) s acc (a : Int) false := rfl
          unfold nextR at T2
          cases ok : (tokR s a).2.2.2.2 with
          | false =>
            rw [ok] at T2
            refine ⟨([], false), Ev.step (fun k => by rw [impl_Lex.j1]) ?_, Ev.step (fun k => by rw [spec_Lex.j1]) ?_, by simp⟩
            · simp only [Bool.false_eq_true, if_false, c0, c2, if_true, Int.toNat_natCast]
              refine Ev.then T1 ?_
              simp only [ok, Bool.false_eq_true, if_false]
              exact Ev.now _
            · simp only [Bool.false_eq_true, if_false] at T2 ⊢
              refine Ev.then T2 ?_
              simp only [if_true]
              exact Ev.now _
          | true =>
            rw [ok] at T2
            simp only [if_true] at T2
            by_cases full : acc.length = 600
            · have f1 : (acc.length : Int) = 600 := by omega
              have f2 : (acc.length : Int) ≥ 600 := by omega
              refine ⟨([], false), Ev.step (fun k => by rw [impl_Lex.j1]) ?_, Ev.step (fun k => by rw [spec_Lex.j1]) ?_, by simp⟩
              · simp only [Bool.false_eq_true, if_false, c0, c2, if_true, Int.toNat_natCast]
                refine Ev.then T1 ?_
                simp only [ok, if_true, f1]
                exact Ev.now _
              · simp only [Bool.false_eq_true, if_false]
                refine Ev.then T2 ?_
                simp only [k0, if_false, f2, if_true]
                exact Ev.now _
            · have f1 : ¬ (acc.length : Int) = 600 := by omega
              have f2 : ¬ (acc.length : Int) ≥ 600 := by omega
              have f3 : acc.length < 4398046511104 := by omega
              obtain ⟨R, E1, E2, hR⟩ := ih (d - n) (by omega) (a + n) (by omega) (acc ++ [⟨(tokR s a).1, (tokR s a).2.1, (tokR s a).2.2.1⟩]) (by simp; omega)
              refine ⟨R, Ev.step (fun k => by rw [impl_Lex.j1]) ?_, Ev.step (fun k => by rw [spec_Lex.j1]) ?_, hR⟩
              · simp only [Bool.false_eq_true, if_false, c0, c2, if_true, Int.toNat_natCast]
                refine Ev.then T1 ?_
                simp only [ok, if_true, f1, if_false, f3, hadv]
                exact E1
              · simp only [Bool.false_eq_true, if_false]
                refine Ev.then T2 ?_
                simp only [k0, if_false, f2, f3, if_true, hadv2]
                exact E2
        by_cases b32 : bt s (a : Int) = 32
        · obtain ⟨R, E1, E2, hR⟩ := skip
          refine ⟨R, Ev.step (fun k => by rw [impl_Lex.l0]) ?_, Ev.step (fun k => by rw [spec_Lex.l0]) ?_, hR⟩
          · simp only [c1, c0, b32, if_true]
            exact E1
          · simp only [c1, c0, b32, if_true]
            exact E2
        · cases b10 : (bt s (a : Int) == 10) with
          | true =>
            obtain ⟨R, E1, E2, hR⟩ := skip
            refine ⟨R, Ev.step (fun k => by rw [impl_Lex.l0]) ?_, Ev.step (fun k => by rw [spec_Lex.l0]) ?_, hR⟩
            · simp only [c1, c0, b32, b10, if_true, if_false]
              exact E1
            · simp only [c1, c0, b32, b10, if_true, if_false]
              exact E2
          | false =>
            obtain ⟨R, E1, E2, hR⟩ := tok
            refine ⟨R, Ev.step (fun k => by rw [impl_Lex.l0]) ?_, Ev.step (fun k => by rw [spec_Lex.l0]) ?_, hR⟩
            · simp only [c1, c0, b32, b10, if_true, if_false]
              exact E1
            · simp only [c1, c0, b32, b10, if_true, if_false]
              exact E2
      · have c1 : ¬ (a : Int) < (s.size : Int) := by omega
        refine ⟨(acc, true), Ev.step (fun k => by rw [impl_Lex.l0]) ?_, Ev.step (fun k => by rw [spec_Lex.l0]) ?_, hac⟩
        · simp only [c1, if_false]
          exact Ev.now _
        · simp only [c1, if_false]
          exact Ev.now _
  exact key s.size 0 (by omega) [] (by simp)
/-! ### marks -/
theorem laws_markText_ev (n : Int) (h0 : 0 ≤ n) (h1 : n < 1152921504606846976) : ∃ s, Ev (fun k => laws_markText.f k n) s := by
  unfold laws_markText.f
  by_cases c : n ≤ 0
  · simp only [c, if_true]
    exact ⟨_, Ev.now _⟩
  · simp only [c, if_false]
    have key : ∀ (j : Nat) (n : Int) (acc : ByteArray), 0 ≤ n → n < (2 : Int) ^ j → n < 9223372036854775808 → acc.size + j ≤ 100 → ∃ s, Ev (fun k => laws_markText.l0 k n acc) s := by
      intro j
      induction j with
      | zero =>
        intro n acc h0 h1 hn hs
        have c : ¬ n > 0 := by simp at h1; omega
        have c2 : 1 + acc.size ≤ 9223372036854775807 := by omega
        refine ⟨(⟨#[109]⟩ : ByteArray) ++ acc, Ev.step (fun k => by rw [laws_markText.l0]) ?_⟩
        simp only [c, c2, if_true, if_false]
        exact Ev.now _
      | succ j ih =>
        intro n acc h0 h1 hn hs
        by_cases c : n > 0
        · have hd : Int.tdiv n 10 = n / 10 := Int.tdiv_eq_ediv_of_nonneg h0
          have hj : (2 : Int) ^ (j + 1) = 2 * 2 ^ j := by rw [Int.pow_succ, Int.mul_comm]
          rw [hj] at h1
          have sz : ∀ x : Int, (strOfNums [x]).size = 1 := fun x => by simp [strOfNums, ByteArray.size]
          obtain ⟨s, hs'⟩ := ih (n / 10) (strOfNums [wrap64 (48 + Int.tmod n 10) % 256] ++ acc) (by omega) (by omega) (by omega) (by rw [ByteArray.size_append, sz]; omega)
          have hw : wrap64 (n / 10) = n / 10 := w64 (by omega) (by omega)
          have c2 : (strOfNums [wrap64 (48 + Int.tmod n 10) % 256]).size + acc.size ≤ 9223372036854775807 := by rw [sz]; omega
          refine ⟨s, Ev.step (fun k => by rw [laws_markText.l0]) ?_⟩
          simp only [c, if_true, Option.bind_some, c2, hd, hw]
          exact hs'
        · have c2 : 1 + acc.size ≤ 9223372036854775807 := by omega
          refine ⟨(⟨#[109]⟩ : ByteArray) ++ acc, Ev.step (fun k => by rw [laws_markText.l0]) ?_⟩
          simp only [c, c2, if_true, if_false]
          exact Ev.now _
    exact key 60 n _ h0 (by simpa using h1) (by omega) (by decide)
theorem rd_set_same (l : List S47) (i : Nat) (x : S47) (h : i < l.length) : rd_T47 (l.set ((i : Int).toNat) x) (i : Int) = x := by
  unfold rd_T47
  rw [Int.toNat_natCast, List.getD_eq_getElem?_getD, List.getElem?_set_self (by omega)]
  rfl
theorem laws_marks_ev (l : List S47) (n0 : Int) (hn : 0 ≤ n0) (hn2 : n0 ≤ 1099511627776) (hl : l.length ≤ 1099511627776) :
    ∃ l', Ev (fun k => laws_markTokS.f k l n0) (n0 + 3 * l.length, l') ∧ Ev (fun k => laws_heldTokS.f k l' n0) (n0 + 3 * l.length) := by
  unfold laws_markTokS.f laws_heldTokS.f
  have key : ∀ d i, i + d = l.length → ∀ cur : List S47, cur.length = l.length → ∃ c', Ev (fun k => laws_markTokS.l0 k cur (n0 + 3 * (i : Int)) (i : Int)) (n0 + 3 * l.length, c') ∧ c'.length = l.length ∧ (∀ j : Nat, j < i → rd_T47 c' (j : Int) = rd_T47 cur (j : Int)) ∧ Ev (fun k => laws_heldTokS.l0 k c' (n0 + 3 * (i : Int)) (i : Int)) (n0 + 3 * l.length) := by
    intro d
    induction d with
    | zero =>
      intro i hi cur hc
      have c1 : ¬ (i : Int) < (cur.length : Int) := by omega
      have e : n0 + 3 * (i : Int) = n0 + 3 * l.length := by omega
      rw [e]
      refine ⟨cur, Ev.step (fun k => by rw [laws_markTokS.l0]) ?_, hc, fun _ _ => rfl, Ev.step (fun k => by rw [laws_heldTokS.l0]) ?_⟩
      · simp only [c1, if_false]
        exact Ev.now _
      · simp only [c1, if_false]
        exact Ev.now _
    | succ d ih =>
      intro i hi cur hc
      have c0 : (0 : Int) ≤ (i : Int) := by omega
      have c1 : (i : Int) < (cur.length : Int) := by omega
      have w1 : wrap64 (n0 + 3 * (i : Int) + 1) = n0 + 3 * (i : Int) + 1 := w64 (by omega) (by omega)
      have w2 : wrap64 (n0 + 3 * (i : Int) + 1 + 1) = n0 + 3 * (i : Int) + 2 := by rw [w64 (by omega) (by omega)]; omega
      have w4 : wrap64 (n0 + 3 * (i : Int) + 2 + 1) = n0 + 3 * ((i + 1 : Nat) : Int) := by rw [w64 (by omega) (by omega)]; omega
      have w3 : wrap64 ((i : Int) + 1) = ((i + 1 : Nat) : Int) := by rw [w64 (by omega) (by omega)]; omega
      obtain ⟨s, hs⟩ := laws_markText_ev (n0 + 3 * (i : Int) + 1) (by omega) (by omega)
      have hi' : i < cur.length := by omega
      have r0 : ∀ v, rd_T47 (cur.set ((i : Int).toNat) v) (i : Int) = v := fun v => rd_set_same cur i v hi'
      have r1 : ∀ u v, rd_T47 ((cur.set ((i : Int).toNat) u).set ((i : Int).toNat) v) (i : Int) = v := fun u v => rd_set_same _ i v (by simp; omega)
      obtain ⟨c', E1, l1, same, E2⟩ := ih (i + 1) (by omega) (((cur.set ((i : Int).toNat) ⟨n0 + 3 * (i : Int), (rd_T47 cur (i : Int)).f1, (rd_T47 cur (i : Int)).f2⟩).set ((i : Int).toNat) ⟨n0 + 3 * (i : Int), s, (rd_T47 cur (i : Int)).f2⟩).set ((i : Int).toNat) ⟨n0 + 3 * (i : Int), s, n0 + 3 * (i : Int) + 2⟩) (by simp; omega)
      have r2 : rd_T47 c' (i : Int) = ⟨n0 + 3 * (i : Int), s, n0 + 3 * (i : Int) + 2⟩ := by
        rw [same i (by omega)]
        exact rd_set_same _ i _ (by simp; omega)
      refine ⟨c', Ev.step (fun k => by rw [laws_markTokS.l0]) ?_, l1, fun j hj => ?_, Ev.step (fun k => by rw [laws_heldTokS.l0]) ?_⟩
      · simp only [c1, c0, if_true, Option.bind_some, w1]
        refine Ev.then hs ?_
        simp only [r0, r1, w2, w3, w4]
        exact E1
      · rw [same j (by omega)]
        unfold rd_T47
        rw [Int.toNat_natCast, Int.toNat_natCast, List.getD_eq_getElem?_getD, List.getD_eq_getElem?_getD, List.getElem?_set_ne (by omega), List.getElem?_set_ne (by omega), List.getElem?_set_ne (by omega), List.getD_eq_getElem?_getD]
      · have c2 : (i : Int) < (c'.length : Int) := by omega
        simp only [c0, c2, if_true, r2, w1]
        refine Ev.then hs ?_
        simp only [if_true, w2, w3, w4]
        exact E2
  obtain ⟨c', E1, _, _, E2⟩ := key l.length 0 (by omega) l rfl
  have e : n0 + 3 * ((0 : Nat) : Int) = n0 := by omega
  rw [e] at E1 E2
  exact ⟨c', E1, E2⟩
theorem FnExactLex : laws_FnExactLex.Pure := by
  intro s hz
  apply Ev.rounds
  unfold laws_FnExactLex.f
  by_cases c : (s.size : Int) > 1048576
  · simp only [c, if_true]
    exact Ev.now _
  simp only [c, if_false]
  have hs : s.size ≤ maxLen := by
    simp only [maxLen]
    omega
  obtain ⟨⟨l, f⟩, Ei, Es, hl⟩ := lex_both s hs hz
  have hl' : l.length ≤ 600 := hl
  have Q := eqTokS_ev l (by simp only [maxLen]; omega)
  obtain ⟨l', K, H⟩ := laws_marks_ev l 1 (by omega) (by omega) (by omega)
  have n1 : ¬ (1 + 3 * (l.length : Int)) < 0 := by omega
  refine Ev.then Es (Ev.then Ei (Ev.then Q ?_))
  simp only [if_true, bne_self_eq_false]
  refine Ev.step (fun k => by rw [laws_FnExactLex.j0]) ?_
  simp only [Bool.false_eq_true, if_false]
  refine Ev.then K (Ev.then H ?_)
  simp only [n1, if_true, if_false]
  refine Ev.then Ei (Ev.then Q ?_)
  simp only [if_true, bne_self_eq_false]
  refine Ev.step (fun k => by rw [laws_FnExactLex.j1]) ?_
  simp only [Bool.false_eq_true, if_false]
  refine Ev.then H ?_
  simp only [n1, if_true, if_false]
  exact Ev.now _

end Go.Proofs.YtpencchkfbekdaaDoor.Pure
