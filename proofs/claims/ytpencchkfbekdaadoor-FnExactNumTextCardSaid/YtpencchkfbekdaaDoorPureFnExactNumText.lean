/- The pure statement of FnExactNumText: what the printed functions compute makes the law answer true. Conditions: those in the statement. -/
import Derived.Test.YtpencchkfbekdaaDoorLem
import Derived.Test.YtpencchkfbekdaaDoorPFnExactNumTextx0
import Derived.Test.YtpencchkfbekdaaDoorPFnExactNumTextx1
namespace Go.Proofs.YtpencchkfbekdaaDoor.Pure
open Go.RowKit Go.Proofs.YtpencchkfbekdaaDoor.PFnExactNumText Go.Proofs.YtpencchkfbekdaaDoorW.PrintWords Go.Proofs.YtpencchkfbekdaaDoorW.PrintLast Go.Proofs.YtpencchkfbekdaaDoorW.PrintMore Go.Proofs.YtpencchkfbekdaaDoor.Lem
set_option linter.unusedVariables false
set_option linter.unusedSimpArgs false

open Go.Lib
/-! ### numerals -/
def finN (n : Int) (l : List UInt8) : ByteArray := if n < 0 then ⟨(45 :: l).toArray⟩ else ⟨l.toArray⟩
theorem strOne (d : Nat) (l : List UInt8) (h : d < 10) : strOfNums [wrap64 (48 + (d : Int)) % 256] ++ (⟨l.toArray⟩ : ByteArray) = ⟨(UInt8.ofNat (48 + d) :: l).toArray⟩ := by
  have e : wrap64 (48 + (d : Int)) % 256 = ((48 + d : Nat) : Int) := by
    rw [w64 (by omega) (by omega)]
    omega
  rw [e]
  apply ByteArray.ext
  rw [ByteArray.data_append]
  simp only [strOfNums, List.map_cons, List.map_nil, Int.toNat_natCast]
  simp
theorem strOne_size (x : Int) : (strOfNums [x]).size = 1 := by simp [strOfNums, ByteArray.size]
theorem digits_step (m : Nat) (h : m ≠ 0) (l : List UInt8) : (if m / 10 = 0 then UInt8.ofNat (48 + m % 10) :: l else decDigits (m / 10) ++ UInt8.ofNat (48 + m % 10) :: l) = decDigits m ++ l := by
  by_cases c : m < 10
  · rw [if_pos (by omega), decDigits_one c, Nat.mod_eq_of_lt c]
    rfl
  · rw [if_neg (by omega), decDigits.eq_1 m, dif_neg c, List.append_assoc]
    rfl
theorem spec_NumText_l0 (n : Int) : ∀ (j : Nat) (x : Int) (l : List UInt8), x.natAbs < 10 ^ j → l.length + j ≤ 100 → -9223372036854775808 ≤ x → x ≤ 9223372036854775807 → Ev (fun k => spec_NumText.l0 k n (⟨l.toArray⟩ : ByteArray) x) (finN n (if x.natAbs = 0 then l else decDigits x.natAbs ++ l)) := by
  have zero : ∀ (l : List UInt8), l.length ≤ 100 → Ev (fun k => spec_NumText.l0 k n (⟨l.toArray⟩ : ByteArray) 0) (finN n l) := by
    intro l hl
    refine Ev.step (fun k => by rw [spec_NumText.l0]) ?_
    have hs : (⟨l.toArray⟩ : ByteArray).size = l.length := by simp [ByteArray.size]
    have c : 1 + (⟨l.toArray⟩ : ByteArray).size ≤ 9223372036854775807 := by omega
    unfold finN
    by_cases hn : n < 0
    · simp only [hn, c, if_true]
      have e : (⟨#[45]⟩ : ByteArray) ++ (⟨l.toArray⟩ : ByteArray) = ⟨(45 :: l).toArray⟩ := by
        apply ByteArray.ext
        rw [ByteArray.data_append]
        simp
      rw [e]
      exact Ev.now _
    · simp only [hn, if_true, if_false]
      exact Ev.now _
  intro j
  induction j with
  | zero =>
    intro x l hx hl h0 h1
    have e : x = 0 := by
      have : x.natAbs = 0 := by simpa using hx
      omega
    subst e
    exact zero l (by omega)
  | succ j ih =>
    intro x l hx hl h0 h1
    by_cases e : x = 0
    · subst e
      exact zero l (by omega)
    have hm : x.natAbs ≠ 0 := by omega
    have hsz : (⟨l.toArray⟩ : ByteArray).size = l.length := by simp [ByteArray.size]
    have ht : (Int.tdiv x 10).natAbs = x.natAbs / 10 := Int.natAbs_tdiv x 10
    have hr : (Int.tmod x 10).natAbs = x.natAbs % 10 := Int.natAbs_tmod x 10
    have hd : x.natAbs % 10 < 10 := Nat.mod_lt _ (by omega)
    have tb : -9223372036854775808 ≤ Int.tdiv x 10 ∧ Int.tdiv x 10 ≤ 9223372036854775807 := by omega
    have hw : wrap64 (Int.tdiv x 10) = Int.tdiv x 10 := w64 (by omega) (by omega)
    have next := ih (Int.tdiv x 10) (UInt8.ofNat (48 + x.natAbs % 10) :: l) (by
      rw [ht]
      rw [Nat.pow_succ] at hx
      exact Nat.div_lt_of_lt_mul (by omega)) (by simp; omega) tb.1 tb.2
    rw [ht, digits_step _ hm] at next
    rw [if_neg hm]
    refine Ev.step (fun k => by rw [spec_NumText.l0]) ?_
    by_cases c : Int.tmod x 10 < 0
    · have e1 : wrap64 (-(Int.tmod x 10)) = ((x.natAbs % 10 : Nat) : Int) := by
        rw [w64 (by omega) (by omega), ← hr]
        omega
      have c2 : (strOfNums [wrap64 (48 + ((x.natAbs % 10 : Nat) : Int)) % 256]).size + (⟨l.toArray⟩ : ByteArray).size ≤ 9223372036854775807 := by
        rw [strOne_size]
        omega
      simp only [e, c, if_true, if_false, Option.bind_some, e1, c2, hw, strOne _ l hd]
      exact next
    · have e1 : Int.tmod x 10 = ((x.natAbs % 10 : Nat) : Int) := by
        rw [← hr]
        omega
      have c2 : (strOfNums [wrap64 (48 + ((x.natAbs % 10 : Nat) : Int)) % 256]).size + (⟨l.toArray⟩ : ByteArray).size ≤ 9223372036854775807 := by
        rw [strOne_size]
        omega
      rw [e1] at c
      simp only [e, if_false, Option.bind_some, e1, c, c2, if_true, hw, strOne _ l hd]
      exact next
def numS (n : Int) : ByteArray := ⟨(itoa n).toArray⟩
theorem spec_NumText_ev (n : Int) (h0 : -9223372036854775808 ≤ n) (h1 : n ≤ 9223372036854775807) : Ev (fun k => spec_NumText.f k n) (numS n) := by
  unfold spec_NumText.f
  by_cases e : n = 0
  · subst e
    simp only [if_true]
    have : numS 0 = (⟨#[48]⟩ : ByteArray) := by
      unfold numS itoa
      rw [if_neg (by omega)]
      have : decDigits (0 : Int).toNat = [48] := by
        rw [show (0 : Int).toNat = 0 from rfl, decDigits_one (by omega)]
        rfl
      rw [this]
    rw [this]
    exact Ev.now _
  · simp only [e, if_false]
    have := spec_NumText_l0 n 19 n [] (by
      have : (10 : Nat) ^ 19 = 10000000000000000000 := by decide
      omega) (by simp) h0 h1
    rw [if_neg (by omega), List.append_nil] at this
    have e2 : finN n (decDigits n.natAbs) = numS n := by
      unfold finN numS itoa
      by_cases c : n < 0
      · rw [if_pos c, if_pos c]
      · rw [if_neg c, if_neg c, show n.natAbs = n.toNat by omega]
    rw [e2] at this
    exact this
theorem impl_NumText_eq (n : Int) (h0 : -9223372036854775808 ≤ n) (h1 : n ≤ 9223372036854775807) : impl_NumText.f n = some (numS n) := by
  unfold impl_NumText.f strconv_Itoa_32.f
  simp only [h0, h1, if_true, Option.bind_some]
  rfl
theorem FnExactNumText : laws_FnExactNumText.Pure := by
  intro a0 h
  have hb := wfI h
  apply Ev.rounds
  unfold laws_FnExactNumText.f
  refine Ev.then (spec_NumText_ev a0 hb.1 (by omega)) ?_
  simp only [impl_NumText_eq a0 hb.1 (show a0 ≤ 9223372036854775807 by omega), Option.bind_some, if_true]
  exact Ev.now _

end Go.Proofs.YtpencchkfbekdaaDoor.Pure
