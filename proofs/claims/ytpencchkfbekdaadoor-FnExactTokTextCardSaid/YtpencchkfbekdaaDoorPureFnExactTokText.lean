/- The pure statement of FnExactTokText: what the printed functions compute makes the law answer true. Conditions: those in the statement. -/
import Derived.Test.YtpencchkfbekdaaDoorLem
import Derived.Test.YtpencchkfbekdaaDoorPFnExactTokTextx0
import Derived.Test.YtpencchkfbekdaaDoorPFnExactTokTextx1
import Derived.Test.YtpencchkfbekdaaDoorPFnExactTokTextx2
namespace Go.Proofs.YtpencchkfbekdaaDoor.Pure
open Go.RowKit Go.Proofs.YtpencchkfbekdaaDoor.PFnExactTokText Go.Proofs.YtpencchkfbekdaaDoorW.PrintWords Go.Proofs.YtpencchkfbekdaaDoorW.PrintLast Go.Proofs.YtpencchkfbekdaaDoorW.PrintMore Go.Proofs.YtpencchkfbekdaaDoor.Lem
set_option linter.unusedVariables false
set_option linter.unusedSimpArgs false

def cvTok (x : S46) : S47 := ⟨x.f0, x.f1, x.f2⟩
theorem szTok_one (y : S46) (hs : y.f1.size ≤ maxLen) (a : Int) (h0 : 0 ≤ a) (h1 : a ≤ 1048576) : ∃ t, laws_szTok.f y.f0 y.f1 y.f2 a = some t ∧ (t < 0 ∨ 0 ≤ t ∧ t ≤ 1048576) := by
  unfold laws_szTok.f
  simp only [maxLen] at hs
  rw [w64 (x := a - (y.f1.size : Int)) (by omega) (by omega)]
  by_cases c : a - (y.f1.size : Int) < 0
  · exact ⟨-1, by rw [if_pos c], .inl (by omega)⟩
  · exact ⟨_, by rw [if_neg c], .inr (by omega)⟩
theorem szTokS_ev (l : List S46) (hl : l.length ≤ maxLen) (hs : ∀ x ∈ l, x.f1.size ≤ maxLen) (a : Int) (h0 : 0 ≤ a) (h1 : a ≤ 1048576) :
    ∃ t, Ev (fun k => laws_szTokS.f k l a) t ∧ (t < 0 ∨ 0 ≤ t ∧ t ≤ 1048576 ∧ l.length ≤ 1048576) := by
  unfold laws_szTokS.f
  have hl' := hl
  simp only [maxLen] at hl'
  rw [w64 (x := a - (l.length : Int)) (by omega) (by omega)]
  by_cases c : a - (l.length : Int) < 0
  · simp only [c, if_true]
    exact ⟨-1, Ev.now _, .inl (by omega)⟩
  · simp only [c, if_false]
    have key : ∀ d i, i + d = l.length → ∀ x : Int, 0 ≤ x → x ≤ 1048576 → ∃ t, Ev (fun k => laws_szTokS.l0 k l x (i : Int)) t ∧ (t < 0 ∨ 0 ≤ t ∧ t ≤ 1048576) := by
      intro d
      induction d with
      | zero =>
        intro i hi x hx0 hx1
        refine ⟨x, Ev.step (fun k => by rw [laws_szTokS.l0]) ?_, .inr ⟨hx0, hx1⟩⟩
        have c : ¬ (i : Int) < (l.length : Int) := by omega
        simp only [c, if_false]
        exact Ev.now _
      | succ d ih =>
        intro i hi x hx0 hx1
        have c : (i : Int) < (l.length : Int) := by omega
        have c0 : (0 : Int) ≤ (i : Int) := by omega
        have hw : wrap64 ((i : Int) + 1) = ((i + 1 : Nat) : Int) := wi (n := l.length) (by omega) hl
        have hr : rd_T46 l (i : Int) ∈ l := getD_mem l _ (by omega)
        obtain ⟨t, ht, h2⟩ := szTok_one (rd_T46 l (i : Int)) (hs _ hr) x hx0 hx1
        by_cases c2 : t < 0
        · refine ⟨-1, Ev.step (fun k => by rw [laws_szTokS.l0]) ?_, .inl (by omega)⟩
          simp only [c, c0, if_true, ht, Option.bind_some, c2]
          exact Ev.now _
        · obtain ⟨q, h3, h4⟩ := ih (i + 1) (by omega) t (by omega) (by omega)
          refine ⟨q, Ev.step (fun k => by rw [laws_szTokS.l0]) ?_, h4⟩
          simp only [c, c0, if_true, ht, Option.bind_some, c2, if_false, hw]
          exact h3
    obtain ⟨t, h2, h3⟩ := key l.length 0 (by omega) (a - (l.length : Int)) (by omega) (by omega)
    exact ⟨t, h2, h3.imp id fun h => ⟨h.1, h.2, by omega⟩⟩
theorem toTokS_ev (l : List S46) (hl : l.length ≤ 1048576) : Ev (fun k => laws_toTokS.f k l) (l.map cvTok) := by
  unfold laws_toTokS.f
  have c1 : (0 : Int) ≤ (l.length : Int) := by omega
  have c2 : ((l.length : Int) : Int).toNat ≤ 8796093022208 := by omega
  simp only [c1, c2, if_true]
  have key : ∀ d i, i + d = l.length → Ev (fun k => laws_toTokS.l0 k l ((l.take i).map cvTok ++ List.replicate d z47) (i : Int)) (l.map cvTok) := by
    intro d
    induction d with
    | zero =>
      intro i hi
      refine Ev.step (fun k => by rw [laws_toTokS.l0]) ?_
      have c : ¬ (i : Int) < (l.length : Int) := by omega
      simp only [c, if_false]
      have : l.take i = l := List.take_of_length_le (by omega)
      rw [this]
      simpa using Ev.now (List.map cvTok l)
    | succ d ih =>
      intro i hi
      refine Ev.step (fun k => by rw [laws_toTokS.l0]) ?_
      have c : (i : Int) < (l.length : Int) := by omega
      have c0 : (0 : Int) ≤ (i : Int) := by omega
      have hw : wrap64 ((i : Int) + 1) = ((i + 1 : Nat) : Int) := wi (n := l.length) (by omega) (by simp only [maxLen]; omega)
      have c3 : (i : Int) < ((((l.take i).map cvTok ++ List.replicate (d + 1) z47).length : Nat) : Int) := by
        rw [List.length_append, List.length_map, List.length_take, List.length_replicate]
        omega
      simp only [c, c0, if_true, laws_toTok.f, Option.bind_some, c3, hw]
      have e : (((l.take i).map cvTok ++ List.replicate (d + 1) z47).set ((i : Int) : Int).toNat (cvTok (rd_T46 l (i : Int)))) = (l.take (i + 1)).map cvTok ++ List.replicate d z47 := by
        have hg : rd_T46 l (i : Int) = l[i]'(by omega) := by
          simp [rd_T46, List.getElem?_eq_getElem (show i < l.length by omega)]
        rw [hg, Int.toNat_natCast, List.take_add_one, List.getElem?_eq_getElem (show i < l.length by omega)]
        rw [List.set_append_right _ _ (by simp; omega)]
        have : i - ((l.take i).map cvTok).length = 0 := by simp; omega
        rw [this, List.replicate_succ, List.set_cons_zero]
        simp only [Option.toList_some, List.map_append, List.map_cons, List.map_nil, List.append_assoc, List.cons_append, List.nil_append]
      have h2 := ih (i + 1) (by omega)
      rw [← e] at h2
      exact h2
  have h0 := key l.length 0 (by omega)
  simpa using h0
theorem eqTok_one (x : S47) : laws_eqTok.f x.f0 x.f1 x.f2 x.f0 x.f1 x.f2 = some true := by
  unfold laws_eqTok.f
  simp
theorem eqTokS_ev (l : List S47) (hl : l.length ≤ maxLen) : Ev (fun k => laws_eqTokS.f k l l) true := by
  unfold laws_eqTokS.f
  simp only [if_true]
  have key : ∀ d i, i + d = l.length → Ev (fun k => laws_eqTokS.l0 k l l (i : Int)) true := by
    intro d
    induction d with
    | zero =>
      intro i hi
      refine Ev.step (fun k => by rw [laws_eqTokS.l0]) ?_
      have c : ¬ (i : Int) < (l.length : Int) := by omega
      simp only [c, if_false]
      exact Ev.now _
    | succ d ih =>
      intro i hi
      refine Ev.step (fun k => by rw [laws_eqTokS.l0]) ?_
      have c : (i : Int) < (l.length : Int) := by omega
      have c0 : (0 : Int) ≤ (i : Int) := by omega
      have hw : wrap64 ((i : Int) + 1) = ((i + 1 : Nat) : Int) := wi (n := l.length) (by omega) hl
      simp only [c, c0, if_true, eqTok_one (rd_T47 l (i : Int)), Option.bind_some, hw]
      exact ih (i + 1) (by omega)
  exact key l.length 0 (by omega)
open Go.Lib
/-! ### numerals -/
def finN (n : Int) (l : List UInt8) : ByteArray := if n < 0 then ⟨(45 :: l).toArray⟩ else ⟨l.toArray⟩
theorem strOne (d : Nat) (l : List UInt8) (h : d < 10) : strOfNums [wrap64 (48 + (d : Int)) % 256] ++ (⟨l.toArray⟩ : ByteArray) = ⟨(UInt8.ofNat (48 + d) :: l).toArray⟩ := by
  have e : wrap64 (48 + (d : Int)) % 256 = ((48 + d : Nat) : Int) := by
    rw [w64 (by omega) (by omega)]
    omega
  rw [e]
  apply ByteArray.ext
  rw [ByteArray.data_append]
  simp only [strOfNums, List.map_cons, List.map_nil, Int.toNat_natCast]
  simp
theorem strOne_size (x : Int) : (strOfNums [x]).size = 1 := by simp [strOfNums, ByteArray.size]
theorem digits_step (m : Nat) (h : m ≠ 0) (l : List UInt8) : (if m / 10 = 0 then UInt8.ofNat (48 + m % 10) :: l else decDigits (m / 10) ++ UInt8.ofNat (48 + m % 10) :: l) = decDigits m ++ l := by
  by_cases c : m < 10
  · rw [if_pos (by omega), decDigits_one c, Nat.mod_eq_of_lt c]
    rfl
  · rw [if_neg (by omega), decDigits.eq_1 m, dif_neg c, List.append_assoc]
    rfl
theorem spec_NumText_l0 (n : Int) : ∀ (j : Nat) (x : Int) (l : List UInt8), x.natAbs < 10 ^ j → l.length + j ≤ 100 → -9223372036854775808 ≤ x → x ≤ 9223372036854775807 → Ev (fun k => spec_NumText.l0 k n (⟨l.toArray⟩ : ByteArray) x) (finN n (if x.natAbs = 0 then l else decDigits x.natAbs ++ l)) := by
  have zero : ∀ (l : List UInt8), l.length ≤ 100 → Ev (fun k => spec_NumText.l0 k n (⟨l.toArray⟩ : ByteArray) 0) (finN n l) := by
    intro l hl
    refine Ev.step (fun k => by rw [spec_NumText.l0]) ?_
    have hs : (⟨l.toArray⟩ : ByteArray).size = l.length := by simp [ByteArray.size]
    have c : 1 + (⟨l.toArray⟩ : ByteArray).size ≤ 9223372036854775807 := by omega
    unfold finN
    by_cases hn : n < 0
    · simp only [hn, c, if_true]
      have e : (⟨#[45]⟩ : ByteArray) ++ (⟨l.toArray⟩ : ByteArray) = ⟨(45 :: l).toArray⟩ := by
        apply ByteArray.ext
        rw [ByteArray.data_append]
        simp
      rw [e]
      exact Ev.now _
    · simp only [hn, if_true, if_false]
      exact Ev.now _
  intro j
  induction j with
  | zero =>
    intro x l hx hl h0 h1
    have e : x = 0 := by
      have : x.natAbs = 0 := by simpa using hx
      omega
    subst e
    exact zero l (by omega)
  | succ j ih =>
    intro x l hx hl h0 h1
    by_cases e : x = 0
    · subst e
      exact zero l (by omega)
    have hm : x.natAbs ≠ 0 := by omega
    have hsz : (⟨l.toArray⟩ : ByteArray).size = l.length := by simp [ByteArray.size]
    have ht : (Int.tdiv x 10).natAbs = x.natAbs / 10 := Int.natAbs_tdiv x 10
    have hr : (Int.tmod x 10).natAbs = x.natAbs % 10 := Int.natAbs_tmod x 10
    have hd : x.natAbs % 10 < 10 := Nat.mod_lt _ (by omega)
    have tb : -9223372036854775808 ≤ Int.tdiv x 10 ∧ Int.tdiv x 10 ≤ 9223372036854775807 := by omega
    have hw : wrap64 (Int.tdiv x 10) = Int.tdiv x 10 := w64 (by omega) (by omega)
    have next := ih (Int.tdiv x 10) (UInt8.ofNat (48 + x.natAbs % 10) :: l) (by
      rw [ht]
      rw [Nat.pow_succ] at hx
      exact Nat.div_lt_of_lt_mul (by omega)) (by simp; omega) tb.1 tb.2
    rw [ht, digits_step _ hm] at next
    rw [if_neg hm]
    refine Ev.step (fun k => by rw [spec_NumText.l0]) ?_
    by_cases c : Int.tmod x 10 < 0
    · have e1 : wrap64 (-(Int.tmod x 10)) = ((x.natAbs % 10 : Nat) : Int) := by
        rw [w64 (by omega) (by omega), ← hr]
        omega
      have c2 : (strOfNums [wrap64 (48 + ((x.natAbs % 10 : Nat) : Int)) % 256]).size + (⟨l.toArray⟩ : ByteArray).size ≤ 9223372036854775807 := by
        rw [strOne_size]
        omega
      simp only [e, c, if_true, if_false, Option.bind_some, e1, c2, hw, strOne _ l hd]
      exact next
    · have e1 : Int.tmod x 10 = ((x.natAbs % 10 : Nat) : Int) := by
        rw [← hr]
        omega
      have c2 : (strOfNums [wrap64 (48 + ((x.natAbs % 10 : Nat) : Int)) % 256]).size + (⟨l.toArray⟩ : ByteArray).size ≤ 9223372036854775807 := by
        rw [strOne_size]
        omega
      rw [e1] at c
      simp only [e, if_false, Option.bind_some, e1, c, c2, if_true, hw, strOne _ l hd]
      exact next
def numS (n : Int) : ByteArray := ⟨(itoa n).toArray⟩
theorem spec_NumText_ev (n : Int) (h0 : -9223372036854775808 ≤ n) (h1 : n ≤ 9223372036854775807) : Ev (fun k => spec_NumText.f k n) (numS n) := by
  unfold spec_NumText.f
  by_cases e : n = 0
  · subst e
    simp only [if_true]
    have : numS 0 = (⟨#[48]⟩ : ByteArray) := by
      unfold numS itoa
      rw [if_neg (by omega)]
      have : decDigits (0 : Int).toNat = [48] := by
        rw [show (0 : Int).toNat = 0 from rfl, decDigits_one (by omega)]
        rfl
      rw [this]
    rw [this]
    exact Ev.now _
  · simp only [e, if_false]
    have := spec_NumText_l0 n 19 n [] (by
      have : (10 : Nat) ^ 19 = 10000000000000000000 := by decide
      omega) (by simp) h0 h1
    rw [if_neg (by omega), List.append_nil] at this
    have e2 : finN n (decDigits n.natAbs) = numS n := by
      unfold finN numS itoa
      by_cases c : n < 0
      · rw [if_pos c, if_pos c]
      · rw [if_neg c, if_neg c, show n.natAbs = n.toNat by omega]
    rw [e2] at this
    exact this
theorem impl_NumText_eq (n : Int) (h0 : -9223372036854775808 ≤ n) (h1 : n ≤ 9223372036854775807) : impl_NumText.f n = some (numS n) := by
  unfold impl_NumText.f strconv_Itoa_32.f
  simp only [h0, h1, if_true, Option.bind_some]
  rfl
/-! ### numerals, read -/
def valN (acc : Nat) (l : List UInt8) : Nat := l.foldl (fun a c => a * 10 + (c.toNat - 48)) acc
def digL (l : List UInt8) : Bool := l.all fun c => decide (48 ≤ c.toNat) && decide (c.toNat ≤ 57)
theorem valN_snoc (acc : Nat) (l : List UInt8) (c : UInt8) : valN acc (l ++ [c]) = valN acc l * 10 + (c.toNat - 48) := by simp [valN]
theorem head_snoc {l : List UInt8} (h : l ≠ []) (c : UInt8) : (l ++ [c]).head? = l.head? := by
  cases l with
  | nil => exact absurd rfl h
  | cons a t => rfl
theorem dig_ofNat (n : Nat) (h : n < 10) : (UInt8.ofNat (48 + n)).toNat = 48 + n := by
  rw [UInt8.toNat_ofNat']
  exact Nat.mod_eq_of_lt (by omega)
theorem dig_back (c : UInt8) (h : 48 ≤ c.toNat) : UInt8.ofNat (48 + (c.toNat - 48)) = c := by
  rw [show 48 + (c.toNat - 48) = c.toNat by omega]
  exact UInt8.ofNat_toNat
theorem dec_val : ∀ r : List UInt8, digL r = true → r ≠ [] → (r.length = 1 ∨ r.reverse.head? ≠ some 48) → decDigits (valN 0 r.reverse) = r.reverse
  | [], _, h, _ => absurd rfl h
  | c :: r, hd, _, hh => by
    have hd' : (48 ≤ c.toNat ∧ c.toNat ≤ 57) ∧ digL r = true := by
      simpa only [digL, List.all_cons, Bool.and_eq_true, decide_eq_true_eq] using hd
    rw [List.reverse_cons, valN_snoc]
    have hc := dig_back c hd'.1.1
    by_cases hr : r = []
    · subst hr
      rw [show valN 0 ([] : List UInt8).reverse * 10 + (c.toNat - 48) = c.toNat - 48 by simp [valN], decDigits_one (by omega), hc]
      rfl
    · have hr' : r.reverse ≠ [] := by simpa using hr
      have hlen : 1 ≤ r.length := Nat.pos_of_ne_zero fun e => hr (List.eq_nil_of_length_eq_zero e)
      have hh' : r.reverse.head? ≠ some 48 := by
        rcases hh with hh | hh
        · exact absurd (by simpa using hh) hr
        · rwa [List.reverse_cons, head_snoc hr'] at hh
      have ih := dec_val r hd'.2 hr (.inr hh')
      have hp : valN 0 r.reverse ≠ 0 := fun e => by
        rw [e, decDigits_one (by omega)] at ih
        apply hh'
        rw [← ih]
        rfl
      rw [decDigits.eq_1, dif_neg (by omega), show (valN 0 r.reverse * 10 + (c.toNat - 48)) / 10 = valN 0 r.reverse by omega, show (valN 0 r.reverse * 10 + (c.toNat - 48)) % 10 = c.toNat - 48 by omega, ih, hc]
theorem dec_ne (m : Nat) : decDigits m ≠ [] := fun e => by
  have := decDigits_length m
  rw [e] at this
  have := nDigits_pos m
  simp at *
  omega
theorem dec_head (m : Nat) : m ≠ 0 → (decDigits m).head? ≠ some 48 := by
  induction m using Nat.strongRecOn with
  | _ m ih =>
    intro hm
    by_cases h : m < 10
    · rw [decDigits_one h]
      intro e
      have e' : UInt8.ofNat (48 + m) = 48 := by simpa using e
      have := congrArg UInt8.toNat e'
      rw [dig_ofNat m h] at this
      have h48 : (48 : UInt8).toNat = 48 := rfl
      omega
    · rw [decDigits.eq_1, dif_neg h, head_snoc (dec_ne _)]
      exact ih (m / 10) (by omega) (by omega)
theorem dec_back (m : Nat) : valN 0 (decDigits m) = m ∧ digL (decDigits m) = true := by
  induction m using Nat.strongRecOn with
  | _ m ih =>
    by_cases h : m < 10
    · rw [decDigits_one h]
      have := dig_ofNat m h
      refine ⟨?_, ?_⟩
      · simp only [valN, List.foldl_cons, List.foldl_nil, this]
        omega
      · simp only [digL, List.all_cons, List.all_nil, this, Bool.and_true, Bool.and_eq_true, decide_eq_true_eq]
        omega
    · obtain ⟨i1, i2⟩ := ih (m / 10) (by omega)
      have := dig_ofNat (m % 10) (by omega)
      rw [decDigits.eq_1, dif_neg h]
      refine ⟨?_, ?_⟩
      · rw [valN_snoc, i1, this]
        omega
      · unfold digL at i2 ⊢
        rw [List.all_append, i2]
        simp only [List.all_cons, List.all_nil, this, Bool.and_true, Bool.true_and, Bool.and_eq_true, decide_eq_true_eq]
        omega
theorem valN_bd : ∀ (l : List UInt8) (acc : Nat), digL l = true → valN acc l + 1 ≤ (acc + 1) * 10 ^ l.length
  | [], acc, _ => by simp [valN]
  | c :: l, acc, h => by
    have h' : (48 ≤ c.toNat ∧ c.toNat ≤ 57) ∧ digL l = true := by
      simpa only [digL, List.all_cons, Bool.and_eq_true, decide_eq_true_eq] using h
    have ih := valN_bd l (acc * 10 + (c.toNat - 48)) h'.2
    have e : valN acc (c :: l) = valN (acc * 10 + (c.toNat - 48)) l := rfl
    rw [e, List.length_cons, Nat.pow_succ, Nat.mul_comm (10 ^ l.length), ← Nat.mul_assoc]
    exact Nat.le_trans ih (Nat.mul_le_mul_right _ (by omega))
/-- What a numeral says. -/
def parseS (s : ByteArray) : Int × Bool :=
  if 1 ≤ s.toList.length ∧ s.toList.length ≤ 10 ∧ digL s.toList = true ∧ (s.toList.length = 1 ∨ s.toList.head? ≠ some 48) ∧ valN 0 s.toList ≤ 2147483647 then ((valN 0 s.toList : Nat), true) else (0, false)
theorem len_size (s : ByteArray) : s.toList.length = s.size := by
  rw [Lem.toList_data]
  rfl
theorem bt_list (s : ByteArray) (i : Nat) (h : i < s.size) : bt s (i : Int) = (((s.toList.getD i 0).toNat : Nat) : Int) := by
  unfold bt
  have h' : (i : Int).toNat < s.size := by simpa using h
  rw [dif_pos h', Lem.toList_data]
  have h2 : i < s.data.toList.length := by simpa using h
  simp only [Int.toNat_natCast, List.getD_eq_getElem?_getD, List.getElem?_eq_getElem h2, Option.getD_some]
  rfl
theorem head_bt (s : ByteArray) (h : 0 < s.size) : bt s 0 = 48 ↔ s.toList.head? = some 48 := by
  have e := bt_list s 0 h
  rw [show ((0 : Nat) : Int) = 0 from rfl] at e
  rw [e]
  have hl : 0 < s.toList.length := by rw [len_size]; exact h
  cases hs : s.toList with
  | nil => rw [hs] at hl; simp at hl
  | cons a t =>
    simp only [List.getD_cons_zero, List.head?_cons, Option.some.injEq]
    constructor
    · intro q
      apply UInt8.toNat_inj.1
      have h48 : (48 : UInt8).toNat = 48 := rfl
      omega
    · intro q
      rw [q]
      rfl
theorem toList_mk (l : List UInt8) : (⟨l.toArray⟩ : ByteArray).toList = l := by rw [Lem.toList_data]
theorem numS_nat (v : Nat) : (numS (v : Int)).toList = decDigits v := by
  unfold numS itoa
  rw [toList_mk, if_neg (by omega)]
  rfl
theorem num_iff {l : List UInt8} (hd : digL l = true) (hl : 1 ≤ l.length) : decDigits (valN 0 l) = l ↔ (l.length = 1 ∨ l.head? ≠ some 48) := by
  constructor
  · intro e
    by_cases h : l.length = 1
    · exact .inl h
    · refine .inr fun q => ?_
      rw [← e] at q
      by_cases hv : valN 0 l = 0
      · rw [hv, decDigits_one (by omega)] at e
        rw [← e] at h
        exact h rfl
      · exact dec_head _ hv q
  · intro h
    have hr : digL l.reverse = true := by
      unfold digL at hd ⊢
      rw [List.all_reverse]
      exact hd
    have := dec_val l.reverse hr (by
      intro e
      have : l = [] := by simpa using e
      rw [this] at hl
      simp at hl) (by simpa using h)
    rwa [List.reverse_reverse] at this
theorem lst_step {s : ByteArray} {i : Nat} (h : i < s.size) (v : Nat) (hv : v < 1000000000000) :
    ((¬ bt s (i : Int) < 48 ∧ ¬ bt s (i : Int) > 57) → wrap64 (wrap64 ((v : Int) * 10) + (bt s (i : Int) - 48) % 256) = ((v * 10 + ((s.toList.getD i 0).toNat - 48) : Nat) : Int)) ∧
    (digL (s.toList.drop i) = ((!decide (bt s (i : Int) < 48) && !decide (bt s (i : Int) > 57)) && digL (s.toList.drop (i + 1)))) ∧
    valN v (s.toList.drop i) = valN (v * 10 + ((s.toList.getD i 0).toNat - 48)) (s.toList.drop (i + 1)) := by
  have e := bt_list s i h
  have hd : s.toList.drop i = s.toList.getD i 0 :: s.toList.drop (i + 1) := drop_cons _ _ (by rw [len_size]; exact h)
  have hc : (s.toList.getD i 0).toNat < 256 := UInt8.toNat_lt _
  generalize s.toList.getD i 0 = c at *
  refine ⟨?_, ?_, ?_⟩
  · rintro ⟨h1, h2⟩
    rw [e] at h1 h2 ⊢
    rw [w64 (x := (v : Int) * 10) (by omega) (by omega), w64 (by omega) (by omega)]
    omega
  · rw [hd, e]
    simp only [digL, List.all_cons]
    congr 1
    rw [Bool.eq_iff_iff]
    simp only [Bool.and_eq_true, decide_eq_true_eq, Bool.not_eq_true', decide_eq_false_iff_not]
    omega
  · rw [hd]
    rfl
theorem pow_le (i : Nat) (h : i ≤ 11) : 10 ^ i ≤ 100000000000 := by
  have : 10 ^ i ≤ 10 ^ 11 := Nat.pow_le_pow_right (by omega) h
  exact this
theorem nDigits_le : ∀ (k u : Nat), 1 ≤ k → u < 10 ^ k → nDigits u ≤ k
  | 0, _, h, _ => by omega
  | k + 1, u, _, h => by
    by_cases c : u < 10
    · rw [nDigits_small c]
      omega
    · rw [nDigits_big c]
      by_cases hk : k = 0
      · subst hk
        simp at h
        omega
      · have := nDigits_le k (u / 10) (by omega) (by rw [Nat.pow_succ] at h; omega)
        omega
/-! ### signs as text -/
def txtS (x : S47) : ByteArray := if x.f0 = 2 then numS x.f2 else x.f1
def sumZ : List S46 → Nat
  | [] => 0
  | x :: xs => x.f1.size + sumZ xs
def sumT : List S47 → Nat
  | [] => 0
  | x :: xs => (txtS x).size + 1 + sumT xs
theorem sumZ_cv : ∀ (l : List S46), (∀ x ∈ l.map cvTok, (numS x.f2).size ≤ 21) → sumT (l.map cvTok) ≤ sumZ l + 22 * l.length
  | [], _ => by simp [sumZ, sumT]
  | x :: xs, h => by
    have ih := sumZ_cv xs fun y hy => h y (by simp only [List.map_cons]; exact List.mem_cons_of_mem _ hy)
    have h0 := h (cvTok x) (by simp)
    have e : (txtS (cvTok x)).size ≤ x.f1.size + 21 := by
      unfold txtS
      split
      · omega
      · exact Nat.le_add_right _ _
    simp only [List.map_cons, sumT, sumZ, List.length_cons]
    omega
theorem szTokS_sum (l : List S46) (hl : l.length ≤ maxLen) (hs : ∀ x ∈ l, x.f1.size ≤ maxLen) :
    ∃ t, Ev (fun k => laws_szTokS.f k l 1048576) t ∧ (t < 0 ∨ (sumZ l + l.length ≤ 1048576)) := by
  unfold laws_szTokS.f
  have hl' := hl
  simp only [maxLen] at hl'
  rw [w64 (x := 1048576 - (l.length : Int)) (by omega) (by omega)]
  by_cases c : 1048576 - (l.length : Int) < 0
  · simp only [c, if_true]
    exact ⟨-1, Ev.now _, .inl (by omega)⟩
  · simp only [c, if_false]
    have key : ∀ d i, i + d = l.length → ∀ x : Int, 0 ≤ x → x ≤ 1048576 → ∃ t, Ev (fun k => laws_szTokS.l0 k l x (i : Int)) t ∧ (t < 0 ∨ 0 ≤ t ∧ t + sumZ (l.drop i) = x) := by
      intro d
      induction d with
      | zero =>
        intro i hi x hx0 hx1
        refine ⟨x, Ev.step (fun k => by rw [laws_szTokS.l0]) ?_, .inr ⟨hx0, ?_⟩⟩
        · have c : ¬ (i : Int) < (l.length : Int) := by omega
          simp only [c, if_false]
          exact Ev.now _
        · rw [List.drop_eq_nil_of_le (by omega)]
          simp [sumZ]
      | succ d ih =>
        intro i hi x hx0 hx1
        have c : (i : Int) < (l.length : Int) := by omega
        have c0 : (0 : Int) ≤ (i : Int) := by omega
        have hw : wrap64 ((i : Int) + 1) = ((i + 1 : Nat) : Int) := wi (n := l.length) (by omega) hl
        have hr : rd_T46 l (i : Int) ∈ l := getD_mem l _ (by omega)
        have hd : l.drop i = rd_T46 l (i : Int) :: l.drop (i + 1) := drop_cons l _ (by omega)
        have hz := hs _ hr
        simp only [maxLen] at hz
        have e1 : wrap64 (x - ((rd_T46 l (i : Int)).f1.size : Int)) = x - ((rd_T46 l (i : Int)).f1.size : Int) := w64 (by omega) (by omega)
        by_cases c2 : x - ((rd_T46 l (i : Int)).f1.size : Int) < 0
        · refine ⟨-1, Ev.step (fun k => by rw [laws_szTokS.l0]) ?_, .inl (by omega)⟩
          have : (-1 : Int) < 0 := by omega
          simp only [c, c0, if_true, laws_szTok.f, e1, c2, Option.bind_some, this]
          exact Ev.now _
        · obtain ⟨q, h3, h4⟩ := ih (i + 1) (by omega) (x - ((rd_T46 l (i : Int)).f1.size : Int)) (by omega) (by omega)
          refine ⟨q, Ev.step (fun k => by rw [laws_szTokS.l0]) ?_, ?_⟩
          · simp only [c, c0, if_true, laws_szTok.f, e1, c2, Option.bind_some, if_false, hw]
            exact h3
          · rw [hd]
            simp only [sumZ]
            omega
    obtain ⟨t, h2, h3⟩ := key l.length 0 (by omega) (1048576 - (l.length : Int)) (by omega) (by omega)
    rw [List.drop_zero] at h3
    exact ⟨t, h2, by omega⟩
theorem toList_app (a b : ByteArray) : (a ++ b).toList = a.toList ++ b.toList := by
  rw [Lem.toList_data, Lem.toList_data, Lem.toList_data, ByteArray.data_append]
  simp
theorem size_app (a b : ByteArray) : (a ++ b).size = a.size + b.size := ByteArray.size_append
def tailT (l : List (List UInt8)) : List UInt8 := (l.map ([32] ++ ·)).flatten
theorem spec_TokText_l0 (l : List S47) (hl : l.length ≤ maxLen) (hx : ∀ x ∈ l, -9223372036854775808 ≤ x.f2 ∧ x.f2 ≤ 9223372036854775807) :
    ∀ d i, i + d = l.length → 1 ≤ i → ∀ s : ByteArray, s.size + sumT (l.drop i) ≤ 4611686018427387904 → ∃ r, Ev (fun k => spec_TokText.l0 k l s (i : Int)) r ∧ r.toList = s.toList ++ tailT ((l.drop i).map fun x => (txtS x).toList) := by
  intro d
  induction d with
  | zero =>
    intro i hi _ s _
    have c : ¬ (i : Int) < (l.length : Int) := by omega
    refine ⟨s, Ev.step (fun k => by rw [spec_TokText.l0]) ?_, ?_⟩
    · simp only [c, if_false]
      exact Ev.now _
    · rw [List.drop_eq_nil_of_le (by omega)]
      simp [tailT]
  | succ d ih =>
    intro i hi h1 s hs
    have c : (i : Int) < (l.length : Int) := by omega
    have c0 : (0 : Int) ≤ (i : Int) := by omega
    have cp : (i : Int) > 0 := by omega
    have hw : wrap64 ((i : Int) + 1) = ((i + 1 : Nat) : Int) := wi (n := l.length) (by omega) hl
    have hd : l.drop i = rd_T47 l (i : Int) :: l.drop (i + 1) := drop_cons l _ (by omega)
    have hb := hx _ (show rd_T47 l (i : Int) ∈ l from getD_mem l _ (by omega))
    rw [hd] at hs ⊢
    simp only [sumT] at hs
    have s1 : (⟨#[32]⟩ : ByteArray).size = 1 := rfl
    have c1 : s.size + 1 ≤ 9223372036854775807 := by omega
    have c2 : (s ++ (⟨#[32]⟩ : ByteArray)).size + (txtS (rd_T47 l (i : Int))).size ≤ 9223372036854775807 := by
      rw [size_app, s1]
      omega
    obtain ⟨r, E, e⟩ := ih (i + 1) (by omega) (by omega) ((s ++ (⟨#[32]⟩ : ByteArray)) ++ txtS (rd_T47 l (i : Int))) (by
      rw [size_app, size_app, s1]
      omega)
    refine ⟨r, Ev.step (fun k => by rw [spec_TokText.l0]) ?_, ?_⟩
    · by_cases k2 : (rd_T47 l (i : Int)).f0 = 2
      · have et : txtS (rd_T47 l (i : Int)) = numS (rd_T47 l (i : Int)).f2 := by
          unfold txtS
          rw [if_pos k2]
        rw [et] at E c2
        simp only [c, c0, cp, c1, k2, if_true, hw]
        refine Ev.then (spec_NumText_ev _ hb.1 hb.2) ?_
        simp only [c2, if_true]
        exact E
      · have et : txtS (rd_T47 l (i : Int)) = (rd_T47 l (i : Int)).f1 := by
          unfold txtS
          rw [if_neg k2]
        rw [et] at E c2
        simp only [c, c0, cp, c1, k2, if_true, if_false, c2, hw]
        exact E
    · rw [e, toList_app, toList_app]
      have : (⟨#[32]⟩ : ByteArray).toList = [32] := by rw [Lem.toList_data]
      rw [this]
      simp [tailT]
theorem join_tail (x : List UInt8) : ∀ (r : List (List UInt8)), Go.Lib.join (x :: r) [32] = x ++ tailT r := by
  intro r
  induction r generalizing x with
  | nil => simp [Go.Lib.join, tailT, List.intercalate]
  | cons y ys ih =>
    have := ih y
    simp only [Go.Lib.join, List.intercalate, List.intersperse, tailT, List.flatten_cons, List.map_cons] at this ⊢
    rw [this]
    simp
theorem spec_TokText_ev (l : List S47) (hl : l.length ≤ maxLen) (hx : ∀ x ∈ l, -9223372036854775808 ≤ x.f2 ∧ x.f2 ≤ 9223372036854775807) (hs : sumT l ≤ 4611686018427387904) :
    ∃ r, Ev (fun k => spec_TokText.f k l) r ∧ r.toList = Go.Lib.join (l.map fun x => (txtS x).toList) [32] := by
  unfold spec_TokText.f
  cases hc : l with
  | nil =>
    refine ⟨(⟨#[]⟩ : ByteArray), Ev.step (fun k => by rw [spec_TokText.l0]) ?_, ?_⟩
    · simp only [List.length_nil, show ¬ (0 : Int) < ((0 : Nat) : Int) by omega, if_false]
      exact Ev.now _
    · rw [Lem.toList_data]
      rfl
  | cons a t =>
    have e0 : rd_T47 l 0 = a := by rw [hc]; rfl
    have ha := hx a (by rw [hc]; exact List.mem_cons_self)
    rw [hc] at hs
    simp only [sumT] at hs
    have hdr : l.drop 1 = t := by rw [hc]; rfl
    obtain ⟨r, E, e⟩ := spec_TokText_l0 l hl hx (l.length - 1) 1 (by rw [hc]; simp only [List.length_cons]; omega) (by omega) ((⟨#[]⟩ : ByteArray) ++ txtS a) (by
      have z : (⟨#[]⟩ : ByteArray).size = 0 := rfl
      rw [size_app, hdr, z]
      omega)
    rw [hdr] at e
    have c : (0 : Int) < (l.length : Int) := by rw [hc]; simp
    have hw : wrap64 ((0 : Int) + 1) = ((1 : Nat) : Int) := w64 (by omega) (by omega)
    have z : (⟨#[]⟩ : ByteArray).size = 0 := rfl
    have c2 : (⟨#[]⟩ : ByteArray).size + (txtS a).size ≤ 9223372036854775807 := by omega
    rw [← hc]
    refine ⟨r, Ev.step (fun k => by rw [spec_TokText.l0]) ?_, ?_⟩
    · by_cases k2 : a.f0 = 2
      · have et : txtS a = numS a.f2 := by
          unfold txtS
          rw [if_pos k2]
        rw [et] at E c2
        simp only [c, e0, k2, if_true, show ¬ (0 : Int) > 0 by omega, if_false, Int.le_refl, hw]
        refine Ev.then (spec_NumText_ev _ ha.1 ha.2) ?_
        simp only [c2, if_true]
        exact E
      · have et : txtS a = a.f1 := by
          unfold txtS
          rw [if_neg k2]
        rw [et] at E c2
        simp only [c, e0, k2, if_true, show ¬ (0 : Int) > 0 by omega, if_false, Int.le_refl, hw, c2]
        exact E
    · rw [e, hc, List.map_cons, join_tail, toList_app]
      have : (⟨#[]⟩ : ByteArray).toList = [] := by rw [Lem.toList_data]
      rw [this, List.nil_append]
theorem tailT_len : ∀ (l : List S47), (tailT (l.map fun x => (txtS x).toList)).length = sumT l
  | [] => by simp [tailT, sumT]
  | x :: xs => by
    have ih := tailT_len xs
    unfold tailT at ih ⊢
    simp only [List.map_cons, List.flatten_cons, List.length_append, List.length_cons, List.length_nil, ih, sumT, len_size]
    omega
theorem join_len (l : List S47) : (Go.Lib.join (l.map fun x => (txtS x).toList) [32]).length ≤ sumT l := by
  cases l with
  | nil => simp [Go.Lib.join, List.intercalate, sumT]
  | cons x xs =>
    rw [List.map_cons, join_tail, List.length_append, tailT_len, len_size]
    simp only [sumT]
    omega
theorem impl_TokText_ev (l : List S47) (hl : l.length ≤ 4000000) (hx : ∀ x ∈ l, -9223372036854775808 ≤ x.f2 ∧ x.f2 ≤ 9223372036854775807) (hs : sumT l ≤ 140737488355328) :
    ∃ r, Ev (fun k => impl_TokText.f k l) r ∧ r.toList = Go.Lib.join (l.map fun x => (txtS x).toList) [32] := by
  unfold impl_TokText.f
  have key : ∀ d i, i + d = l.length → ∀ acc : List ByteArray, acc.length ≤ i → acc ++ (l.drop i).map txtS = l.map txtS → Ev (fun k => impl_TokText.l0 k acc l (l.length : Int) (i : Int)) (⟨(Go.Lib.join (l.map fun x => (txtS x).toList) [32]).toArray⟩ : ByteArray) := by
    intro d
    induction d with
    | zero =>
      intro i hi acc hac e
      have c : ¬ (i : Int) < (l.length : Int) := by omega
      refine Ev.step (fun k => by rw [impl_TokText.l0]) ?_
      simp only [c, if_false]
      rw [List.drop_eq_nil_of_le (by omega), List.map_nil, List.append_nil] at e
      have em : (acc.map fun x => x.data.toList) = l.map fun x => (txtS x).toList := by
        rw [e, List.map_map]
        apply List.map_congr_left
        intro x _
        exact (Lem.toList_data _).symm
      have e32 : (⟨#[32]⟩ : ByteArray).data.toList = [32] := rfl
      have hj := join_len l
      have la : acc.length ≤ 140737488355328 := by omega
      have lj : (Go.Lib.join (l.map fun x => (txtS x).toList) [32]).length ≤ 140737488355328 := by omega
      unfold strings_Join.f
      simp only [em, e32, lj, la, if_true, Option.bind_some]
      exact Ev.now _
    | succ d ih =>
      intro i hi acc hac e
      have c : (i : Int) < (l.length : Int) := by omega
      have c0 : (0 : Int) ≤ (i : Int) := by omega
      have c1 : acc.length < 8796093022208 := by omega
      have hw : wrap64 ((i : Int) + 1) = ((i + 1 : Nat) : Int) := wi (n := l.length) (by omega) (by simp only [maxLen]; omega)
      have hd : l.drop i = rd_T47 l (i : Int) :: l.drop (i + 1) := drop_cons l _ (by omega)
      have hb := hx _ (show rd_T47 l (i : Int) ∈ l from getD_mem l _ (by omega))
      have next := ih (i + 1) (by omega) (acc ++ [txtS (rd_T47 l (i : Int))]) (by simp; omega) (by
        rw [← e, hd]
        simp)
      refine Ev.step (fun k => by rw [impl_TokText.l0]) ?_
      by_cases k2 : (rd_T47 l (i : Int)).f0 = 2
      · have et : txtS (rd_T47 l (i : Int)) = numS (rd_T47 l (i : Int)).f2 := by
          unfold txtS
          rw [if_pos k2]
        rw [et] at next
        simp only [c, c0, c1, k2, if_true, hw, impl_NumText_eq _ hb.1 hb.2, Option.bind_some]
        exact next
      · have et : txtS (rd_T47 l (i : Int)) = (rd_T47 l (i : Int)).f1 := by
          unfold txtS
          rw [if_neg k2]
        rw [et] at next
        simp only [c, c0, c1, k2, if_true, if_false, hw]
        exact next
  exact ⟨_, key l.length 0 (by omega) [] (by simp) (by simp), toList_mk _⟩
theorem num_size (n : Int) (h0 : -9223372036854775808 ≤ n) (h1 : n ≤ 9223372036854775807) : (numS n).size ≤ 21 := by
  have p : (10 : Nat) ^ 19 = 10000000000000000000 := by decide
  rw [← len_size]
  unfold numS itoa
  rw [toList_mk]
  have d : ∀ m : Nat, m ≤ 9223372036854775808 → (decDigits m).length ≤ 19 := fun m hm => by
    rw [decDigits_length]
    exact nDigits_le 19 m (by omega) (by omega)
  split
  · have := d n.natAbs (by omega)
    simp only [List.length_cons]
    omega
  · have := d n.toNat (by omega)
    omega
theorem FnExactTokText (l : List S46) (hl : l.length ≤ maxLen) (hx : ∀ y ∈ l, (Lit.int .i64 y.f0).wf = true ∧ y.f1.size ≤ maxLen ∧ (Lit.int .i64 y.f2).wf = true) :
    ∃ k, laws_FnExactTokText.f k l = some true := by
  have hs : ∀ x ∈ l, x.f1.size ≤ maxLen := fun x h => (hx x h).2.1
  apply Ev.rounds
  unfold laws_FnExactTokText.f
  obtain ⟨t, E1, h1⟩ := szTokS_sum l hl hs
  refine Ev.then E1 ?_
  by_cases e : t < 0
  · simp only [e, if_true]
    exact Ev.now _
  simp only [e, if_false]
  have h1' : sumZ l + l.length ≤ 1048576 := by omega
  have ta := toTokS_ev l (by omega)
  have hf : ∀ x ∈ l.map cvTok, -9223372036854775808 ≤ x.f2 ∧ x.f2 ≤ 9223372036854775807 := fun x h => by
    obtain ⟨y, hy, rfl⟩ := List.mem_map.1 h
    have := wfI (hx y hy).2.2
    exact ⟨this.1, by have := this.2; simp only [cvTok]; omega⟩
  have hz := sumZ_cv l fun x h => num_size x.f2 (hf x h).1 (hf x h).2
  have hlen : (l.map cvTok).length = l.length := by simp
  obtain ⟨r, Es, es⟩ := spec_TokText_ev (l.map cvTok) (by simp only [maxLen]; omega) hf (by omega)
  obtain ⟨q, Ei, ei⟩ := impl_TokText_ev (l.map cvTok) (by omega) hf (by omega)
  have eq : q.toList = r.toList := ei.trans es.symm
  refine Ev.then ta (Ev.then Es (Ev.then ta (Ev.then Ei ?_)))
  simp only [eq_true eq, if_true]
  refine Ev.then ta (Ev.then (eqTokS_ev _ (by simp only [maxLen]; omega)) ?_)
  simp only [if_true]
  exact Ev.now _

end Go.Proofs.YtpencchkfbekdaaDoor.Pure
