/- The pure statement of FnBoxesBent: what the printed functions compute makes the law answer true. Conditions: those in the statement. -/
import Derived.Test.YtelklalagebdgaaLem
import Derived.Test.YtelklalagebdgaaPFnBoxesBentx9
import Derived.Test.YtelklalagebdgaaPFnBoxesBentx9
import Derived.Test.YtelklalagebdgaaPFnBoxesBentx9
import Derived.Test.YtelklalagebdgaaPFnBoxesBentx9
import Derived.Test.YtelklalagebdgaaPFnBoxesBentx9
import Derived.Test.YtelklalagebdgaaPFnBoxesBentx9
import Derived.Test.YtelklalagebdgaaPFnBoxesBentx9
import Derived.Test.YtelklalagebdgaaPFnBoxesBentx9
import Derived.Test.YtelklalagebdgaaPFnBoxesBentx9
import Derived.Test.YtelklalagebdgaaPFnBoxesBentx9
namespace Go.Proofs.Ytelklalagebdgaa.Pure
open Go.RowKit Go.Proofs.Ytelklalagebdgaa.PFnBoxesBent Go.Proofs.YtelklalagebdgaaW.PrintWords Go.Proofs.YtelklalagebdgaaW.PrintLast Go.Proofs.YtelklalagebdgaaW.PrintMore Go.Proofs.Ytelklalagebdgaa.Lem
set_option linter.unusedVariables false
set_option linter.unusedSimpArgs false

theorem spec_l1In_eq (a b c : Int) : spec_l1In.f a b c = some (decide (b ≤ a) && decide (a ≤ c)) := by
  unfold spec_l1In.f
  by_cases h : a ≥ b
  · have h' : b ≤ a := h
    simp [h']
  · have h' : ¬ b ≤ a := h
    simp [h']
theorem impl_inRange_eq (a b c : Int) : impl_inRange.f a b c = some (decide (b ≤ a) && decide (a ≤ c)) := by
  unfold impl_inRange.f
  by_cases h : a ≥ b
  · have h' : b ≤ a := h
    simp [h']
  · have h' : ¬ b ≤ a := h
    simp [h']
theorem impl_isLetter_eq (a : Int) : impl_isLetter.f a = some (decide (97 ≤ a) && decide (a ≤ 122)) := by
  unfold impl_isLetter.f
  by_cases h : a ≥ 97
  · have h' : 97 ≤ a := h
    simp [h']
  · have h' : ¬ 97 ≤ a := h
    simp [h']
theorem spec_l2Small_eq (a : Int) (h0 : 0 ≤ a) (h1 : a ≤ 255) : spec_l2Small.f a = some (decide (97 ≤ a) && decide (a ≤ 122)) := by
  unfold spec_l2Small.f
  rw [w64 (by omega) (by omega), spec_l1In_eq]
  rfl
theorem spec_l2Has_ev (xs : List ByteArray) (s : ByteArray) (hn : xs.length ≤ maxLen) : Ev (fun k => spec_l2Has.f k xs s) (xs.any fun x => x.toList == s.toList) := by
  unfold spec_l2Has.f
  have key : ∀ d i, i + d = xs.length → Ev (fun k => spec_l2Has.l0 k xs s (i : Int)) ((xs.drop i).any fun x => x.toList == s.toList) := by
    intro d
    induction d with
    | zero =>
      intro i hi
      refine Ev.step (fun k => by rw [spec_l2Has.l0]) ?_
      have c : ¬ (i : Int) < (xs.length : Int) := by omega
      simp only [c, if_false]
      rw [List.drop_eq_nil_of_le (by omega)]
      exact Ev.now _
    | succ d ih =>
      intro i hi
      refine Ev.step (fun k => by rw [spec_l2Has.l0]) ?_
      have c : (i : Int) < (xs.length : Int) := by omega
      have c0 : (0 : Int) ≤ (i : Int) := by omega
      have hw : wrap64 ((i : Int) + 1) = ((i + 1 : Nat) : Int) := wi (by omega) hn
      have hd : xs.drop i = rdOf ByteArray.empty xs (i : Int) :: xs.drop (i + 1) := by
        rw [List.drop_eq_getElem_cons (by omega)]
        simp [rdOf, List.getElem?_eq_getElem (show i < xs.length by omega)]
      rw [hd, List.any_cons]
      simp only [c, c0, if_true, hw]
      by_cases e : (rdOf ByteArray.empty xs (i : Int)).toList = s.toList
      · simp only [e, if_true, beq_self_eq_true, Bool.true_or]
        exact Ev.now _
      · simp only [e, if_false]
        have e' : ((rdOf ByteArray.empty xs (i : Int)).toList == s.toList) = false := by simpa using e
        rw [e', Bool.false_or]
        exact ih (i + 1) (by omega)
  have := key xs.length 0 (by omega)
  simpa using this
theorem spec_l2Kept_ev (s : ByteArray) : Ev (fun k => spec_l2Kept.f k s) (keptS s) := by
  unfold spec_l2Kept.f
  refine Ev.then (spec_l2Has_ev _ s (by simp [maxLen])) ?_
  have : (List.any [(⟨#[97, 114, 114, 97, 121]⟩ : ByteArray), (⟨#[102, 111, 114]⟩ : ByteArray), (⟨#[116, 111]⟩ : ByteArray), (⟨#[112, 114, 105, 110, 116]⟩ : ByteArray), (⟨#[109, 105, 110]⟩ : ByteArray), (⟨#[109, 97, 120]⟩ : ByteArray)] fun x => x.toList == s.toList) = keptS s := by
    simp only [keptS, keptL, List.any_cons, List.any_nil, toList_data]
  rw [this]
  exact Ev.now _
theorem impl_isKept_eq (s : ByteArray) : impl_isKept.f s = some (keptS s) := by
  unfold impl_isKept.f keptS keptL
  have hb : ∀ l : List UInt8, decide (s.toList = l) = (l == s.toList) := fun l => by
    by_cases h : s.toList = l
    · rw [decide_eq_true h, ← h, beq_self_eq_true]
    · rw [decide_eq_false h, beq_eq_false_iff_ne.mpr (fun e => h e.symm)]
  simp only [if_or, hb, List.any_cons, List.any_nil]
theorem spec_NameOk_ev (s : ByteArray) (hn : s.size ≤ maxLen) : Ev (fun k => spec_NameOk.f k s) (nameS s) := by
  unfold spec_NameOk.f nameS
  refine Ev.run (g := fun k i (_ : Unit) => spec_NameOk.l0 k s i) _ _ ?_ ?_ ()
  · intro i u hi
    have c : (i : Int) < (s.size : Int) := by omega
    have c0 : (0 : Int) ≤ (i : Int) := by omega
    have hw : wrap64 ((i : Int) + 1) = ((i + 1 : Nat) : Int) := wi hi hn
    have hl : spec_l2Small.f (bt s (i : Int)) = some (letS s i) := spec_l2Small_eq _ (bt_range s i).1 (bt_range s i).2
    cases e : letS s i with
    | true =>
      simp only [if_true]
      intro r hr
      refine Ev.step (fun k => by rw [spec_NameOk.l0]) ?_
      simp only [c, c0, if_true, hl, e, Option.bind_some, hw]
      exact hr
    | false =>
      simp only [Bool.false_eq_true, if_false]
      refine Ev.step (fun k => by rw [spec_NameOk.l0]) ?_
      simp only [c, c0, if_true, hl, e, Option.bind_some, Bool.false_eq_true, if_false]
      exact Ev.now _
  · intro u
    refine Ev.step (fun k => by rw [spec_NameOk.l0]) ?_
    have c : ¬ (s.size : Int) < (s.size : Int) := by omega
    simp only [c, if_false, spec_l1In_eq, Option.bind_some]
    have e1 : (decide ((1 : Int) ≤ (s.size : Int)) && decide ((s.size : Int) ≤ 6)) = (decide (1 ≤ s.size) && decide (s.size ≤ 6)) := by
      rw [Bool.eq_iff_iff]
      simp
      omega
    rw [e1]
    cases e : (decide (1 ≤ s.size) && decide (s.size ≤ 6)) with
    | true =>
      simp only [if_true, Bool.true_and]
      exact Ev.then (spec_l2Kept_ev s) (Ev.now _)
    | false =>
      simp only [Bool.false_eq_true, if_false, Bool.false_and]
      exact Ev.now _
theorem impl_NameOk_ev (s : ByteArray) (hn : s.size ≤ maxLen) : Ev (fun k => impl_NameOk.f k s) (nameS s) := by
  unfold impl_NameOk.f nameS
  refine Ev.run (g := fun k i (_ : Unit) => impl_NameOk.l0 k s i) _ _ ?_ ?_ ()
  · intro i u hi
    have c : (i : Int) < (s.size : Int) := by omega
    have c0 : (0 : Int) ≤ (i : Int) := by omega
    have hw : wrap64 ((i : Int) + 1) = ((i + 1 : Nat) : Int) := wi hi hn
    have hl : impl_isLetter.f (bt s (i : Int)) = some (letS s i) := impl_isLetter_eq _
    cases e : letS s i with
    | true =>
      simp only [if_true]
      intro r hr
      refine Ev.step (fun k => by rw [impl_NameOk.l0]) ?_
      simp only [c, c0, if_true, hl, e, Option.bind_some, hw]
      exact hr
    | false =>
      simp only [Bool.false_eq_true, if_false]
      refine Ev.step (fun k => by rw [impl_NameOk.l0]) ?_
      simp only [c, c0, if_true, hl, e, Option.bind_some, Bool.false_eq_true, if_false]
      exact Ev.now _
  · intro u
    refine Ev.step (fun k => by rw [impl_NameOk.l0]) ?_
    have c : ¬ (s.size : Int) < (s.size : Int) := by omega
    simp only [c, if_false, impl_inRange_eq, Option.bind_some]
    have e1 : (decide ((1 : Int) ≤ (s.size : Int)) && decide ((s.size : Int) ≤ 6)) = (decide (1 ≤ s.size) && decide (s.size ≤ 6)) := by
      rw [Bool.eq_iff_iff]
      simp
      omega
    rw [e1]
    cases e : (decide (1 ≤ s.size) && decide (s.size ≤ 6)) with
    | true =>
      simp only [if_true, Bool.true_and, impl_isKept_eq, Option.bind_some]
      exact Ev.now _
    | false =>
      simp only [Bool.false_eq_true, if_false, Bool.false_and]
      exact Ev.now _

theorem spec_l8Num_eq (n : Int) : spec_l8Num.f n = some (coefOk n) := by
  unfold spec_l8Num.f
  rw [spec_l1In_eq]
  rfl
theorem impl_isCoef_eq (n : Int) : impl_isCoef.f n = some (coefOk n) := by
  unfold impl_isCoef.f
  rw [impl_inRange_eq]
  rfl
def prevT (l : List S73) (i : Nat) : Option ByteArray := if i = 0 then none else some (rd_T73 l ((i - 1 : Nat) : Int)).f0
theorem prevT_succ (l : List S73) (i : Nat) : prevT l (i + 1) = some (rd_T73 l (i : Int)).f0 := by
  unfold prevT
  rw [if_neg (by omega)]
  rfl
theorem spec_AffOk_ev (c : Int) (l : List S73) (hl : l.length ≤ maxLen) (hs : ∀ x ∈ l, x.f0.size ≤ maxLen) : Ev (fun k => spec_AffOk.f k c l) (affOkS S73.f0 S73.f1 c l) := by
  unfold spec_AffOk.f
  have key : ∀ d i, i + d = l.length → Ev (fun k => spec_AffOk.l0 k (i : Int) c l) (affOkL S73.f0 S73.f1 (prevT l i) (l.drop i) && coefOk c) := by
    intro d
    induction d with
    | zero =>
      intro i hi
      refine Ev.step (fun k => by rw [spec_AffOk.l0]) ?_
      have c : ¬ (i : Int) < (l.length : Int) := by omega
      simp only [c, if_false]
      rw [List.drop_eq_nil_of_le (by omega)]
      simp only [spec_l8Num_eq, Option.bind_some, affOkL, Bool.true_and]
      exact Ev.now _
    | succ d ih =>
      intro i hi
      refine Ev.step (fun k => by rw [spec_AffOk.l0]) ?_
      have c : (i : Int) < (l.length : Int) := by omega
      have c0 : (0 : Int) ≤ (i : Int) := by omega
      have hw : wrap64 ((i : Int) + 1) = ((i + 1 : Nat) : Int) := wi (n := l.length) (by omega) hl
      have hd : l.drop i = rd_T73 l (i : Int) :: l.drop (i + 1) := drop_cons l _ (by omega)
      have hm : rd_T73 l (i : Int) ∈ l := getD_mem l _ (by omega)
      have ih' := ih (i + 1) (by omega)
      rw [prevT_succ] at ih'
      rw [hd]
      simp only [c, c0, if_true, hw, affOkL, spec_l8Num_eq, Option.bind_some]
      refine Ev.then (spec_NameOk_ev _ (hs _ hm)) ?_
      cases e1 : nameS (rd_T73 l (i : Int)).f0 with
      | false =>
        simp only [Bool.false_eq_true, if_false, Bool.false_and]
        exact Ev.now _
      | true =>
        by_cases e2 : (rd_T73 l (i : Int)).f1 = 0
        · simp only [e2, if_true, decide_true, Bool.not_true, Bool.false_and, Bool.and_false]
          exact Ev.now _
        · cases e3 : coefOk (rd_T73 l (i : Int)).f1 with
          | false =>
            simp only [e2, if_true, if_false, decide_false, Bool.not_false, Bool.and_false, Bool.false_and, Bool.false_eq_true]
            exact Ev.now _
          | true =>
            simp only [e2, if_true, if_false, decide_false, Bool.not_false, Bool.true_and]
            by_cases e4 : i = 0
            · subst e4
              have c4 : ¬ ((0 : Nat) : Int) > 0 := by omega
              simp only [c4, if_false, prevT, if_true, lessO, Bool.true_and]
              exact ih'
            · have c4 : (i : Int) > 0 := by omega
              have c5 : wrap64 ((i : Int) - 1) = ((i - 1 : Nat) : Int) := by
                simp only [maxLen] at hl
                rw [w64 (by omega) (by omega)]
                omega
              have c6 : (0 : Int) ≤ ((i - 1 : Nat) : Int) := by omega
              have c7 : ((i - 1 : Nat) : Int) < (l.length : Int) := by omega
              simp only [c4, c5, c6, c7, if_true, prevT, e4, if_false, lessO]
              cases e5 : Op.bytesLess (rd_T73 l ((i - 1 : Nat) : Int)).f0.toList (rd_T73 l (i : Int)).f0.toList with
              | false =>
                simp only [Bool.false_eq_true, if_false, Bool.false_and]
                exact Ev.now _
              | true =>
                simp only [if_true, Bool.true_and]
                exact ih'
  exact key l.length 0 (by omega)
theorem impl_AffOk_ev (c : Int) (l : List S73) (hl : l.length ≤ maxLen) (hs : ∀ x ∈ l, x.f0.size ≤ maxLen) : Ev (fun k => impl_AffOk.f k c l) (affOkS S73.f0 S73.f1 c l) := by
  unfold impl_AffOk.f
  have key : ∀ d i, i + d = l.length → Ev (fun k => impl_AffOk.l0 k l (l.length : Int) (i : Int) c l) (affOkL S73.f0 S73.f1 (prevT l i) (l.drop i) && coefOk c) := by
    intro d
    induction d with
    | zero =>
      intro i hi
      refine Ev.step (fun k => by rw [impl_AffOk.l0]) ?_
      have c : ¬ (i : Int) < (l.length : Int) := by omega
      simp only [c, if_false]
      rw [List.drop_eq_nil_of_le (by omega)]
      simp only [impl_isCoef_eq, Option.bind_some, affOkL, Bool.true_and]
      exact Ev.now _
    | succ d ih =>
      intro i hi
      refine Ev.step (fun k => by rw [impl_AffOk.l0]) ?_
      have c : (i : Int) < (l.length : Int) := by omega
      have c0 : (0 : Int) ≤ (i : Int) := by omega
      have hw : wrap64 ((i : Int) + 1) = ((i + 1 : Nat) : Int) := wi (n := l.length) (by omega) hl
      have hd : l.drop i = rd_T73 l (i : Int) :: l.drop (i + 1) := drop_cons l _ (by omega)
      have hm : rd_T73 l (i : Int) ∈ l := getD_mem l _ (by omega)
      have ih' := ih (i + 1) (by omega)
      rw [prevT_succ] at ih'
      rw [hd]
      simp only [c, c0, if_true, hw, affOkL, impl_isCoef_eq, Option.bind_some]
      refine Ev.then (impl_NameOk_ev _ (hs _ hm)) ?_
      cases e1 : nameS (rd_T73 l (i : Int)).f0 with
      | false =>
        simp only [Bool.false_eq_true, if_false, Bool.false_and]
        exact Ev.now _
      | true =>
        by_cases e2 : (rd_T73 l (i : Int)).f1 = 0
        · simp only [e2, if_true, decide_true, Bool.not_true, Bool.false_and, Bool.and_false]
          exact Ev.now _
        · cases e3 : coefOk (rd_T73 l (i : Int)).f1 with
          | false =>
            simp only [e2, if_true, if_false, decide_false, Bool.not_false, Bool.and_false, Bool.false_and, Bool.false_eq_true]
            exact Ev.now _
          | true =>
            simp only [e2, if_true, if_false, decide_false, Bool.not_false, Bool.true_and]
            by_cases e4 : i = 0
            · subst e4
              have c4 : ¬ ((0 : Nat) : Int) > 0 := by omega
              simp only [c4, if_false, prevT, if_true, lessO, Bool.true_and]
              exact ih'
            · have c4 : (i : Int) > 0 := by omega
              have c5 : wrap64 ((i : Int) - 1) = ((i - 1 : Nat) : Int) := by
                simp only [maxLen] at hl
                rw [w64 (by omega) (by omega)]
                omega
              have c6 : (0 : Int) ≤ ((i - 1 : Nat) : Int) := by omega
              have c7 : ((i - 1 : Nat) : Int) < (l.length : Int) := by omega
              simp only [c4, c5, c6, c7, if_true, prevT, e4, if_false, lessO]
              cases e5 : Op.bytesLess (rd_T73 l ((i - 1 : Nat) : Int)).f0.toList (rd_T73 l (i : Int)).f0.toList with
              | false =>
                simp only [Bool.false_eq_true, if_false, Bool.false_and]
                exact Ev.now _
              | true =>
                simp only [if_true, Bool.true_and]
                exact ih'
  exact key l.length 0 (by omega)
theorem spec_l9At_ev (l : List S33) (s : ByteArray) (hl : l.length ≤ maxLen) : Ev (fun k => spec_l9At.f k l s) (idxL S33.f0 0 l s) := by
  unfold spec_l9At.f
  have key : ∀ d i, i + d = l.length → Ev (fun k => spec_l9At.l0 k l s (i : Int)) (idxL S33.f0 i (l.drop i) s) := by
    intro d
    induction d with
    | zero =>
      intro i hi
      refine Ev.step (fun k => by rw [spec_l9At.l0]) ?_
      have c : ¬ (i : Int) < (l.length : Int) := by omega
      simp only [c, if_false]
      rw [List.drop_eq_nil_of_le (by omega)]
      exact Ev.now _
    | succ d ih =>
      intro i hi
      refine Ev.step (fun k => by rw [spec_l9At.l0]) ?_
      have c : (i : Int) < (l.length : Int) := by omega
      have c0 : (0 : Int) ≤ (i : Int) := by omega
      have hw : wrap64 ((i : Int) + 1) = ((i + 1 : Nat) : Int) := wi (n := l.length) (by omega) hl
      have hd : l.drop i = rd_T33 l (i : Int) :: l.drop (i + 1) := drop_cons l _ (by omega)
      rw [hd]
      simp only [c, c0, if_true, hw, idxL]
      by_cases e : (rd_T33 l (i : Int)).f0.toList = s.toList
      · simp only [e, if_true]
        exact Ev.now _
      · simp only [e, if_false]
        exact ih (i + 1) (by omega)
  exact key l.length 0 (by omega)
theorem impl_rngAt_ev (l : List S33) (s : ByteArray) (hl : l.length ≤ maxLen) : Ev (fun k => impl_rngAt.f k l s) (idxL S33.f0 0 l s) := by
  unfold impl_rngAt.f
  have key : ∀ d i, i + d = l.length → Ev (fun k => impl_rngAt.l0 k l s (i : Int)) (idxL S33.f0 i (l.drop i) s) := by
    intro d
    induction d with
    | zero =>
      intro i hi
      refine Ev.step (fun k => by rw [impl_rngAt.l0]) ?_
      have c : ¬ (i : Int) < (l.length : Int) := by omega
      simp only [c, if_false]
      rw [List.drop_eq_nil_of_le (by omega)]
      exact Ev.now _
    | succ d ih =>
      intro i hi
      refine Ev.step (fun k => by rw [impl_rngAt.l0]) ?_
      have c : (i : Int) < (l.length : Int) := by omega
      have c0 : (0 : Int) ≤ (i : Int) := by omega
      have hw : wrap64 ((i : Int) + 1) = ((i + 1 : Nat) : Int) := wi (n := l.length) (by omega) hl
      have hd : l.drop i = rd_T33 l (i : Int) :: l.drop (i + 1) := drop_cons l _ (by omega)
      rw [hd]
      simp only [c, c0, if_true, hw, idxL]
      by_cases e : (rd_T33 l (i : Int)).f0.toList = s.toList
      · simp only [e, if_true]
        exact Ev.now _
      · simp only [e, if_false]
        exact ih (i + 1) (by omega)
  exact key l.length 0 (by omega)
theorem spec_BoxOk_ev (l : List S33) (hl : l.length ≤ maxLen) (hs : ∀ x ∈ l, x.f0.size ≤ maxLen) : Ev (fun k => spec_BoxOk.f k l) (boxOkS S33.f0 S33.f1 S33.f2 l) := by
  unfold spec_BoxOk.f boxOkS
  have key : ∀ d i, i + d = l.length → Ev (fun k => spec_BoxOk.l0 k l (i : Int)) (boxOkL S33.f0 S33.f1 S33.f2 l i (l.drop i)) := by
    intro d
    induction d with
    | zero =>
      intro i hi
      refine Ev.step (fun k => by rw [spec_BoxOk.l0]) ?_
      have c : ¬ (i : Int) < (l.length : Int) := by omega
      simp only [c, if_false]
      rw [List.drop_eq_nil_of_le (by omega)]
      have e : decide ((l.length : Int) ≤ 8) = decide (l.length ≤ 8) := by
        rw [decide_eq_decide]
        omega
      simp only [e, boxOkL]
      exact Ev.now _
    | succ d ih =>
      intro i hi
      refine Ev.step (fun k => by rw [spec_BoxOk.l0]) ?_
      have c : (i : Int) < (l.length : Int) := by omega
      have c0 : (0 : Int) ≤ (i : Int) := by omega
      have hw : wrap64 ((i : Int) + 1) = ((i + 1 : Nat) : Int) := wi (n := l.length) (by omega) hl
      have hd : l.drop i = rd_T33 l (i : Int) :: l.drop (i + 1) := drop_cons l _ (by omega)
      have hm : rd_T33 l (i : Int) ∈ l := getD_mem l _ (by omega)
      rw [hd]
      simp only [c, c0, if_true, hw, boxOkL, spec_l1In_eq, Option.bind_some]
      refine Ev.then (spec_NameOk_ev _ (hs _ hm)) ?_
      cases e1 : nameS (rd_T33 l (i : Int)).f0 with
      | false =>
        simp only [Bool.false_eq_true, if_false, Bool.false_and]
        exact Ev.now _
      | true =>
        rw [show (decide ((-10000 : Int) ≤ (rd_T33 l (i : Int)).f1) && decide ((rd_T33 l (i : Int)).f1 ≤ 10000)) = bndOk (rd_T33 l (i : Int)).f1 from rfl]
        rw [show (decide ((-10000 : Int) ≤ (rd_T33 l (i : Int)).f2) && decide ((rd_T33 l (i : Int)).f2 ≤ 10000)) = bndOk (rd_T33 l (i : Int)).f2 from rfl]
        cases e2 : bndOk (rd_T33 l (i : Int)).f1 with
        | false =>
          simp only [Bool.false_eq_true, if_true, if_false, Bool.false_and, Bool.true_and]
          exact Ev.now _
        | true =>
          cases e3 : bndOk (rd_T33 l (i : Int)).f2 with
          | false =>
            simp only [Bool.false_eq_true, if_true, if_false, Bool.false_and, Bool.true_and]
            exact Ev.now _
          | true =>
            simp only [if_true, Bool.true_and]
            refine Ev.then (spec_l9At_ev l _ hl) ?_
            by_cases e4 : idxL S33.f0 0 l (rd_T33 l (i : Int)).f0 = (i : Int)
            · simp only [e4, if_true, decide_true, Bool.true_and]
              exact ih (i + 1) (by omega)
            · simp only [e4, if_false, decide_false, Bool.false_and]
              exact Ev.now _
  exact key l.length 0 (by omega)
theorem impl_BoxOk_ev (l : List S33) (hl : l.length ≤ maxLen) (hs : ∀ x ∈ l, x.f0.size ≤ maxLen) : Ev (fun k => impl_BoxOk.f k l) (boxOkS S33.f0 S33.f1 S33.f2 l) := by
  unfold impl_BoxOk.f boxOkS
  have key : ∀ d i, i + d = l.length → Ev (fun k => impl_BoxOk.l0 k l l (l.length : Int) (i : Int)) (boxOkL S33.f0 S33.f1 S33.f2 l i (l.drop i)) := by
    intro d
    induction d with
    | zero =>
      intro i hi
      refine Ev.step (fun k => by rw [impl_BoxOk.l0]) ?_
      have c : ¬ (i : Int) < (l.length : Int) := by omega
      simp only [c, if_false]
      rw [List.drop_eq_nil_of_le (by omega)]
      have e : decide ((l.length : Int) ≤ 8) = decide (l.length ≤ 8) := by
        rw [decide_eq_decide]
        omega
      simp only [e, boxOkL]
      exact Ev.now _
    | succ d ih =>
      intro i hi
      refine Ev.step (fun k => by rw [impl_BoxOk.l0]) ?_
      have c : (i : Int) < (l.length : Int) := by omega
      have c0 : (0 : Int) ≤ (i : Int) := by omega
      have hw : wrap64 ((i : Int) + 1) = ((i + 1 : Nat) : Int) := wi (n := l.length) (by omega) hl
      have hd : l.drop i = rd_T33 l (i : Int) :: l.drop (i + 1) := drop_cons l _ (by omega)
      have hm : rd_T33 l (i : Int) ∈ l := getD_mem l _ (by omega)
      rw [hd]
      simp only [c, c0, if_true, hw, boxOkL, impl_inRange_eq, Option.bind_some]
      refine Ev.then (impl_NameOk_ev _ (hs _ hm)) ?_
      cases e1 : nameS (rd_T33 l (i : Int)).f0 with
      | false =>
        simp only [Bool.false_eq_true, if_false, Bool.false_and]
        exact Ev.now _
      | true =>
        rw [show (decide ((-10000 : Int) ≤ (rd_T33 l (i : Int)).f1) && decide ((rd_T33 l (i : Int)).f1 ≤ 10000)) = bndOk (rd_T33 l (i : Int)).f1 from rfl]
        rw [show (decide ((-10000 : Int) ≤ (rd_T33 l (i : Int)).f2) && decide ((rd_T33 l (i : Int)).f2 ≤ 10000)) = bndOk (rd_T33 l (i : Int)).f2 from rfl]
        cases e2 : bndOk (rd_T33 l (i : Int)).f1 with
        | false =>
          simp only [Bool.false_eq_true, if_true, if_false, Bool.false_and, Bool.true_and]
          exact Ev.now _
        | true =>
          cases e3 : bndOk (rd_T33 l (i : Int)).f2 with
          | false =>
            simp only [Bool.false_eq_true, if_true, if_false, Bool.false_and, Bool.true_and]
            exact Ev.now _
          | true =>
            simp only [if_true, Bool.true_and]
            refine Ev.then (impl_rngAt_ev l _ hl) ?_
            by_cases e4 : idxL S33.f0 0 l (rd_T33 l (i : Int)).f0 = (i : Int)
            · simp only [e4, if_true, decide_true, Bool.true_and]
              exact ih (i + 1) (by omega)
            · simp only [e4, if_false, decide_false, Bool.false_and]
              exact Ev.now _
  exact key l.length 0 (by omega)
theorem spec_l9Full_ev (l : List S33) (hl : l.length ≤ maxLen) (hs : ∀ x ∈ l, x.f0.size ≤ maxLen) : Ev (fun k => spec_l9Full.f k l) (fullS S33.f0 S33.f1 S33.f2 l) := by
  unfold spec_l9Full.f
  have key : ∀ d i, i + d = l.length → Ev (fun k => spec_l9Full.l0 k l (i : Int)) (((l.drop i).all fun r => decide (r.f1 ≤ r.f2)) && boxOkS S33.f0 S33.f1 S33.f2 l) := by
    intro d
    induction d with
    | zero =>
      intro i hi
      refine Ev.step (fun k => by rw [spec_l9Full.l0]) ?_
      have c : ¬ (i : Int) < (l.length : Int) := by omega
      simp only [c, if_false]
      rw [List.drop_eq_nil_of_le (by omega)]
      simp only [List.all_nil, Bool.true_and]
      exact Ev.then (spec_BoxOk_ev l hl hs) (Ev.now _)
    | succ d ih =>
      intro i hi
      refine Ev.step (fun k => by rw [spec_l9Full.l0]) ?_
      have c : (i : Int) < (l.length : Int) := by omega
      have c0 : (0 : Int) ≤ (i : Int) := by omega
      have hw : wrap64 ((i : Int) + 1) = ((i + 1 : Nat) : Int) := wi (n := l.length) (by omega) hl
      have hd : l.drop i = rd_T33 l (i : Int) :: l.drop (i + 1) := drop_cons l _ (by omega)
      rw [hd, List.all_cons]
      by_cases e : (rd_T33 l (i : Int)).f1 > (rd_T33 l (i : Int)).f2
      · have e' : ¬ (rd_T33 l (i : Int)).f1 ≤ (rd_T33 l (i : Int)).f2 := by omega
        simp only [c, c0, if_true, hw, e, e', decide_false, Bool.false_and]
        exact Ev.now _
      · have e' : (rd_T33 l (i : Int)).f1 ≤ (rd_T33 l (i : Int)).f2 := by omega
        simp only [c, c0, if_true, hw, e, e', if_false, decide_true, Bool.true_and]
        exact ih (i + 1) (by omega)
  exact key l.length 0 (by omega)
theorem impl_isRight_ev (l : List S33) (hl : l.length ≤ maxLen) (hs : ∀ x ∈ l, x.f0.size ≤ maxLen) : Ev (fun k => impl_isRight.f k l) (fullS S33.f0 S33.f1 S33.f2 l) := by
  unfold impl_isRight.f
  have key : ∀ d i, i + d = l.length → Ev (fun k => impl_isRight.l0 k l l (l.length : Int) (i : Int)) (((l.drop i).all fun r => decide (r.f1 ≤ r.f2)) && boxOkS S33.f0 S33.f1 S33.f2 l) := by
    intro d
    induction d with
    | zero =>
      intro i hi
      refine Ev.step (fun k => by rw [impl_isRight.l0]) ?_
      have c : ¬ (i : Int) < (l.length : Int) := by omega
      simp only [c, if_false]
      rw [List.drop_eq_nil_of_le (by omega)]
      simp only [List.all_nil, Bool.true_and]
      exact Ev.then (impl_BoxOk_ev l hl hs) (Ev.now _)
    | succ d ih =>
      intro i hi
      refine Ev.step (fun k => by rw [impl_isRight.l0]) ?_
      have c : (i : Int) < (l.length : Int) := by omega
      have c0 : (0 : Int) ≤ (i : Int) := by omega
      have hw : wrap64 ((i : Int) + 1) = ((i + 1 : Nat) : Int) := wi (n := l.length) (by omega) hl
      have hd : l.drop i = rd_T33 l (i : Int) :: l.drop (i + 1) := drop_cons l _ (by omega)
      rw [hd, List.all_cons]
      by_cases e : (rd_T33 l (i : Int)).f1 > (rd_T33 l (i : Int)).f2
      · have e' : ¬ (rd_T33 l (i : Int)).f1 ≤ (rd_T33 l (i : Int)).f2 := by omega
        simp only [c, c0, if_true, hw, e, e', decide_false, Bool.false_and]
        exact Ev.now _
      · have e' : (rd_T33 l (i : Int)).f1 ≤ (rd_T33 l (i : Int)).f2 := by omega
        simp only [c, c0, if_true, hw, e, e', if_false, decide_true, Bool.true_and]
        exact ih (i + 1) (by omega)
  exact key l.length 0 (by omega)
abbrev extT (c : Int) (l : List S73) (box : List S33) : Option (Int × Int) := extS S73.f0 S73.f1 S33.f0 S33.f1 S33.f2 c l box
theorem impl_extremes_ev (c : Int) (l : List S73) (box : List S33) (hl : l.length ≤ maxLen) (hs : ∀ x ∈ l, x.f0.size ≤ maxLen) (hb : box.length ≤ maxLen) (hbs : ∀ x ∈ box, x.f0.size ≤ maxLen) :
    Ev (fun k => impl_extremes.f k c l box) (ext3 (extT c l box)) := by
  unfold impl_extremes.f extT extS
  have bad : Ev (fun k => impl_extremes.j0 k box true c l) (ext3 none) := by
    refine Ev.step (fun k => by rw [impl_extremes.j0]) ?_
    simp only [if_true]
    exact Ev.now _
  refine Ev.then (impl_AffOk_ev c l hl hs) ?_
  cases e1 : affOkS S73.f0 S73.f1 c l with
  | false =>
    simp only [Bool.false_eq_true, if_false, Bool.false_and]
    exact bad
  | true =>
    simp only [if_true, Bool.true_and]
    refine Ev.then (impl_isRight_ev box hb hbs) ?_
    cases e2 : fullS S33.f0 S33.f1 S33.f2 box with
    | false =>
      simp only [Bool.false_eq_true, if_false, Bool.not_false]
      exact bad
    | true =>
      simp only [if_true, Bool.not_true]
      refine Ev.step (fun k => by rw [impl_extremes.j0]) ?_
      simp only [Bool.false_eq_true, if_false]
      have key : ∀ d i, i + d = l.length → ∀ x y, Ev (fun k => impl_extremes.l0 k box x y l (l.length : Int) (i : Int)) (ext3 (pairO (endL S73.f0 S33.f0 (lowT S73.f1 S33.f1 S33.f2) box (l.drop i) x) (endL S73.f0 S33.f0 (highT S73.f1 S33.f1 S33.f2) box (l.drop i) y))) := by
        intro d
        induction d with
        | zero =>
          intro i hi x y
          refine Ev.step (fun k => by rw [impl_extremes.l0]) ?_
          have c : ¬ (i : Int) < (l.length : Int) := by omega
          simp only [c, if_false]
          rw [List.drop_eq_nil_of_le (by omega)]
          exact Ev.now _
        | succ d ih =>
          intro i hi x y
          refine Ev.step (fun k => by rw [impl_extremes.l0]) ?_
          have c : (i : Int) < (l.length : Int) := by omega
          have c0 : (0 : Int) ≤ (i : Int) := by omega
          have hw : wrap64 ((i : Int) + 1) = ((i + 1 : Nat) : Int) := wi (n := l.length) (by omega) hl
          have hd : l.drop i = rd_T73 l (i : Int) :: l.drop (i + 1) := drop_cons l _ (by omega)
          rw [hd]
          simp only [c, c0, if_true, hw, endL]
          refine Ev.then (impl_rngAt_ev box _ hb) ?_
          rcases idx_find S33.f0 z33 box 0 (rd_T73 l (i : Int)).f0 with ⟨h1, h2⟩ | ⟨j, hj, h1, h2⟩
          · have c2 : (-1 : Int) < 0 := by omega
            simp only [h1, h2, c2, if_true]
            exact Ev.now _
          · have c2 : ¬ ((0 + j : Nat) : Int) < 0 := by omega
            have c3 : (0 : Int) ≤ ((0 + j : Nat) : Int) := by omega
            have c4 : ((0 + j : Nat) : Int) < (box.length : Int) := by omega
            have hr : rd_T33 box ((0 + j : Nat) : Int) = box.getD j z33 := by
              unfold rd_T33
              rw [Int.toNat_natCast, Nat.zero_add]
            simp only [h1, h2, c2, c3, c4, if_true, if_false, hr]
            exact ih (i + 1) (by omega) _ _
      exact key l.length 0 (by omega) c c
theorem spec_l9End_lowT_ev (c : Int) (l : List S73) (box : List S33) (hl : l.length ≤ maxLen) (hs : ∀ x ∈ l, x.f0.size ≤ maxLen) (hb : box.length ≤ maxLen) (hbs : ∀ x ∈ box, x.f0.size ≤ maxLen) :
    Ev (fun k => spec_l9End.f k c l box false) (extA (extT c l box)) := by
  unfold spec_l9End.f extT extS
  have bad : Ev (fun k => spec_l9End.j0 k box false true c l) (extA none) := by
    refine Ev.step (fun k => by rw [spec_l9End.j0]) ?_
    simp only [if_true]
    exact Ev.now _
  refine Ev.then (spec_AffOk_ev c l hl hs) ?_
  cases e1 : affOkS S73.f0 S73.f1 c l with
  | false =>
    simp only [Bool.false_eq_true, if_false, Bool.false_and]
    exact bad
  | true =>
    simp only [if_true, Bool.true_and]
    refine Ev.then (spec_l9Full_ev box hb hbs) ?_
    cases e2 : fullS S33.f0 S33.f1 S33.f2 box with
    | false =>
      simp only [Bool.false_eq_true, if_false, Bool.not_false]
      exact bad
    | true =>
      simp only [if_true, Bool.not_true]
      refine Ev.step (fun k => by rw [spec_l9End.j0]) ?_
      simp only [Bool.false_eq_true, if_false]
      have ha : affOkL S73.f0 S73.f1 none l = true := by
        simp only [affOkS, Bool.and_eq_true] at e1
        exact e1.1
      have hal := affOkL_mem S73.f0 S73.f1 l none ha
      have hfu := (fullS_mem S33.f0 S33.f1 S33.f2 e2).1
      have key : ∀ d i, i + d = l.length → ∀ x y, Ev (fun k => spec_l9End.l0 k box false x (i : Int) c l) (extA (pairO (endL S73.f0 S33.f0 (lowT S73.f1 S33.f1 S33.f2) box (l.drop i) x) (endL S73.f0 S33.f0 (highT S73.f1 S33.f1 S33.f2) box (l.drop i) y))) := by
        intro d
        induction d with
        | zero =>
          intro i hi x y
          refine Ev.step (fun k => by rw [spec_l9End.l0]) ?_
          have c : ¬ (i : Int) < (l.length : Int) := by omega
          simp only [c, if_false]
          rw [List.drop_eq_nil_of_le (by omega)]
          exact Ev.now _
        | succ d ih =>
          intro i hi x y
          refine Ev.step (fun k => by rw [spec_l9End.l0]) ?_
          have c : (i : Int) < (l.length : Int) := by omega
          have c0 : (0 : Int) ≤ (i : Int) := by omega
          have hw : wrap64 ((i : Int) + 1) = ((i + 1 : Nat) : Int) := wi (n := l.length) (by omega) hl
          have hd : l.drop i = rd_T73 l (i : Int) :: l.drop (i + 1) := drop_cons l _ (by omega)
          have hm : rd_T73 l (i : Int) ∈ l := getD_mem l _ (by omega)
          obtain ⟨_, q1, q2, q3⟩ := hal _ hm
          rw [hd]
          simp only [c, c0, if_true, hw, endL]
          refine Ev.then (spec_l9At_ev box _ hb) ?_
          rcases idx_find S33.f0 z33 box 0 (rd_T73 l (i : Int)).f0 with ⟨h1, h2⟩ | ⟨j, hj, h1, h2⟩
          · have c2 : (-1 : Int) < 0 := by omega
            simp only [h1, h2, c2, if_true]
            exact Ev.now _
          · have c2 : ¬ ((0 + j : Nat) : Int) < 0 := by omega
            have c3 : (0 : Int) ≤ ((0 + j : Nat) : Int) := by omega
            have c4 : ((0 + j : Nat) : Int) < (box.length : Int) := by omega
            have hr : rd_T33 box ((0 + j : Nat) : Int) = box.getD j z33 := by
              unfold rd_T33
              rw [Int.toNat_natCast, Nat.zero_add]
            have hbm : box.getD j z33 ∈ box := getD_mem box _ hj
            obtain ⟨r1, r2, r3, r4, r5⟩ := hfu _ hbm
            have he := lowT_eq S73.f1 S33.f1 S33.f2 (x := rd_T73 l (i : Int)) (r := box.getD j z33) q2 q3 r1 r2 r5
            have p1 := coefProd q2 q3 r2 (show (box.getD j z33).f1 ≤ 10000 by omega)
            have p2 := coefProd q2 q3 (show -10000 ≤ (box.getD j z33).f2 by omega) r5
            have w1 : wrap64 ((rd_T73 l (i : Int)).f1 * (box.getD j z33).f1) = (rd_T73 l (i : Int)).f1 * (box.getD j z33).f1 := w64 (by omega) (by omega)
            have w2 : wrap64 ((rd_T73 l (i : Int)).f1 * (box.getD j z33).f2) = (rd_T73 l (i : Int)).f1 * (box.getD j z33).f2 := w64 (by omega) (by omega)
            have ih' := ih (i + 1) (by omega)
            by_cases hp : (rd_T73 l (i : Int)).f1 > 0
            · rw [if_pos hp] at he
              simp only [h1, h2, c2, c3, c4, if_true, if_false, hr, hp, decide_true, show (true == false) = false from rfl, Bool.false_eq_true, w1, w2, he]
              exact ih' _ _
            · rw [if_neg hp] at he
              simp only [h1, h2, c2, c3, c4, if_true, if_false, hr, hp, decide_false, show (false == false) = true from rfl, Bool.false_eq_true, w1, w2, he]
              exact ih' _ _
      exact key l.length 0 (by omega) c c
theorem spec_l9End_highT_ev (c : Int) (l : List S73) (box : List S33) (hl : l.length ≤ maxLen) (hs : ∀ x ∈ l, x.f0.size ≤ maxLen) (hb : box.length ≤ maxLen) (hbs : ∀ x ∈ box, x.f0.size ≤ maxLen) :
    Ev (fun k => spec_l9End.f k c l box true) (extB (extT c l box)) := by
  unfold spec_l9End.f extT extS
  have bad : Ev (fun k => spec_l9End.j0 k box true true c l) (extB none) := by
    refine Ev.step (fun k => by rw [spec_l9End.j0]) ?_
    simp only [if_true]
    exact Ev.now _
  refine Ev.then (spec_AffOk_ev c l hl hs) ?_
  cases e1 : affOkS S73.f0 S73.f1 c l with
  | false =>
    simp only [Bool.false_eq_true, if_false, Bool.false_and]
    exact bad
  | true =>
    simp only [if_true, Bool.true_and]
    refine Ev.then (spec_l9Full_ev box hb hbs) ?_
    cases e2 : fullS S33.f0 S33.f1 S33.f2 box with
    | false =>
      simp only [Bool.false_eq_true, if_false, Bool.not_false]
      exact bad
    | true =>
      simp only [if_true, Bool.not_true]
      refine Ev.step (fun k => by rw [spec_l9End.j0]) ?_
      simp only [Bool.false_eq_true, if_false]
      have ha : affOkL S73.f0 S73.f1 none l = true := by
        simp only [affOkS, Bool.and_eq_true] at e1
        exact e1.1
      have hal := affOkL_mem S73.f0 S73.f1 l none ha
      have hfu := (fullS_mem S33.f0 S33.f1 S33.f2 e2).1
      have key : ∀ d i, i + d = l.length → ∀ x y, Ev (fun k => spec_l9End.l0 k box true x (i : Int) c l) (extB (pairO (endL S73.f0 S33.f0 (lowT S73.f1 S33.f1 S33.f2) box (l.drop i) y) (endL S73.f0 S33.f0 (highT S73.f1 S33.f1 S33.f2) box (l.drop i) x))) := by
        intro d
        induction d with
        | zero =>
          intro i hi x y
          refine Ev.step (fun k => by rw [spec_l9End.l0]) ?_
          have c : ¬ (i : Int) < (l.length : Int) := by omega
          simp only [c, if_false]
          rw [List.drop_eq_nil_of_le (by omega)]
          exact Ev.now _
        | succ d ih =>
          intro i hi x y
          refine Ev.step (fun k => by rw [spec_l9End.l0]) ?_
          have c : (i : Int) < (l.length : Int) := by omega
          have c0 : (0 : Int) ≤ (i : Int) := by omega
          have hw : wrap64 ((i : Int) + 1) = ((i + 1 : Nat) : Int) := wi (n := l.length) (by omega) hl
          have hd : l.drop i = rd_T73 l (i : Int) :: l.drop (i + 1) := drop_cons l _ (by omega)
          have hm : rd_T73 l (i : Int) ∈ l := getD_mem l _ (by omega)
          obtain ⟨_, q1, q2, q3⟩ := hal _ hm
          rw [hd]
          simp only [c, c0, if_true, hw, endL]
          refine Ev.then (spec_l9At_ev box _ hb) ?_
          rcases idx_find S33.f0 z33 box 0 (rd_T73 l (i : Int)).f0 with ⟨h1, h2⟩ | ⟨j, hj, h1, h2⟩
          · have c2 : (-1 : Int) < 0 := by omega
            simp only [h1, h2, c2, if_true]
            exact Ev.now _
          · have c2 : ¬ ((0 + j : Nat) : Int) < 0 := by omega
            have c3 : (0 : Int) ≤ ((0 + j : Nat) : Int) := by omega
            have c4 : ((0 + j : Nat) : Int) < (box.length : Int) := by omega
            have hr : rd_T33 box ((0 + j : Nat) : Int) = box.getD j z33 := by
              unfold rd_T33
              rw [Int.toNat_natCast, Nat.zero_add]
            have hbm : box.getD j z33 ∈ box := getD_mem box _ hj
            obtain ⟨r1, r2, r3, r4, r5⟩ := hfu _ hbm
            have he := highT_eq S73.f1 S33.f1 S33.f2 (x := rd_T73 l (i : Int)) (r := box.getD j z33) q2 q3 r1 r2 r5
            have p1 := coefProd q2 q3 r2 (show (box.getD j z33).f1 ≤ 10000 by omega)
            have p2 := coefProd q2 q3 (show -10000 ≤ (box.getD j z33).f2 by omega) r5
            have w1 : wrap64 ((rd_T73 l (i : Int)).f1 * (box.getD j z33).f1) = (rd_T73 l (i : Int)).f1 * (box.getD j z33).f1 := w64 (by omega) (by omega)
            have w2 : wrap64 ((rd_T73 l (i : Int)).f1 * (box.getD j z33).f2) = (rd_T73 l (i : Int)).f1 * (box.getD j z33).f2 := w64 (by omega) (by omega)
            have ih' := ih (i + 1) (by omega)
            by_cases hp : (rd_T73 l (i : Int)).f1 > 0
            · rw [if_pos hp] at he
              simp only [h1, h2, c2, c3, c4, if_true, if_false, hr, hp, decide_true, show (true == true) = true from rfl, Bool.false_eq_true, w1, w2, he]
              exact ih' _ _
            · rw [if_neg hp] at he
              simp only [h1, h2, c2, c3, c4, if_true, if_false, hr, hp, decide_false, show (false == true) = false from rfl, Bool.false_eq_true, w1, w2, he]
              exact ih' _ _
      exact key l.length 0 (by omega) c c
theorem impl_Least_ev (c : Int) (l : List S73) (box : List S33) (hl : l.length ≤ maxLen) (hs : ∀ x ∈ l, x.f0.size ≤ maxLen) (hb : box.length ≤ maxLen) (hbs : ∀ x ∈ box, x.f0.size ≤ maxLen) :
    Ev (fun k => impl_Least.f k c l box) (extA (extT c l box)) := by
  unfold impl_Least.f
  refine Ev.then (impl_extremes_ev c l box hl hs hb hbs) ?_
  rcases extT c l box with _ | ⟨a, b⟩ <;> exact Ev.now _
theorem impl_Most_ev (c : Int) (l : List S73) (box : List S33) (hl : l.length ≤ maxLen) (hs : ∀ x ∈ l, x.f0.size ≤ maxLen) (hb : box.length ≤ maxLen) (hbs : ∀ x ∈ box, x.f0.size ≤ maxLen) :
    Ev (fun k => impl_Most.f k c l box) (extB (extT c l box)) := by
  unfold impl_Most.f
  refine Ev.then (impl_extremes_ev c l box hl hs hb hbs) ?_
  rcases extT c l box with _ | ⟨a, b⟩ <;> exact Ev.now _
theorem spec_Least_ev (c : Int) (l : List S73) (box : List S33) (hl : l.length ≤ maxLen) (hs : ∀ x ∈ l, x.f0.size ≤ maxLen) (hb : box.length ≤ maxLen) (hbs : ∀ x ∈ box, x.f0.size ≤ maxLen) :
    Ev (fun k => spec_Least.f k c l box) (extA (extT c l box)) := by
  unfold spec_Least.f
  exact Ev.then (spec_l9End_lowT_ev c l box hl hs hb hbs) (Ev.now _)
theorem spec_Most_ev (c : Int) (l : List S73) (box : List S33) (hl : l.length ≤ maxLen) (hs : ∀ x ∈ l, x.f0.size ≤ maxLen) (hb : box.length ≤ maxLen) (hbs : ∀ x ∈ box, x.f0.size ≤ maxLen) :
    Ev (fun k => spec_Most.f k c l box) (extB (extT c l box)) := by
  unfold spec_Most.f
  exact Ev.then (spec_l9End_highT_ev c l box hl hs hb hbs) (Ev.now _)
def inArrB (e : Option (Int × Int)) (size : Int) : Bool := match e with
  | some (a, b) => decide (0 ≤ a) && decide (b < size)
  | none => false
theorem impl_InArr_ev (c : Int) (l : List S73) (box : List S33) (n : Int) (hl : l.length ≤ maxLen) (hs : ∀ x ∈ l, x.f0.size ≤ maxLen) (hb : box.length ≤ maxLen) (hbs : ∀ x ∈ box, x.f0.size ≤ maxLen) :
    Ev (fun k => impl_InArr.f k c l box n) (inArrB (extT c l box) n) := by
  unfold impl_InArr.f
  refine Ev.then (impl_extremes_ev c l box hl hs hb hbs) ?_
  rcases extT c l box with _ | ⟨a, b⟩
  · simp only [ext3, Bool.false_eq_true, if_false]
    exact Ev.now _
  · simp only [ext3, if_true]
    exact Ev.const (fun k => if_and _)
theorem spec_InArr_ev (c : Int) (l : List S73) (box : List S33) (n : Int) (hl : l.length ≤ maxLen) (hs : ∀ x ∈ l, x.f0.size ≤ maxLen) (hb : box.length ≤ maxLen) (hbs : ∀ x ∈ box, x.f0.size ≤ maxLen) :
    Ev (fun k => spec_InArr.f k c l box n) (inArrB (extT c l box) n) := by
  unfold spec_InArr.f
  refine Ev.then (spec_Least_ev c l box hl hs hb hbs) (Ev.then (spec_Most_ev c l box hl hs hb hbs) ?_)
  rcases extT c l box with _ | ⟨a, b⟩
  · simp only [extA, Bool.false_eq_true, if_false]
    exact Ev.now _
  · simp only [extA, extB, if_true]
    exact Ev.const (fun k => if_and _)
theorem spec_Rounds_ev (l : List S33) (hl : l.length ≤ maxLen) (hs : ∀ x ∈ l, x.f0.size ≤ maxLen) : Ev (fun k => spec_Rounds.f k l) (rndS S33.f0 S33.f1 S33.f2 l) := by
  unfold spec_Rounds.f rndS
  refine Ev.then (spec_l9Full_ev l hl hs) ?_
  cases e2 : fullS S33.f0 S33.f1 S33.f2 l with
  | false =>
    simp only [Bool.false_eq_true, if_false]
    exact Ev.now _
  | true =>
    simp only [if_true]
    have hfu := (fullS_mem S33.f0 S33.f1 S33.f2 e2).1
    have key : ∀ d i, i + d = l.length → ∀ x : Int, 1 ≤ x → x ≤ 20001000000 → Ev (fun k => spec_Rounds.l0 k l x (i : Int)) (rndL S33.f1 S33.f2 (l.drop i) (mn x 1000000)) := by
      intro d
      induction d with
      | zero =>
        intro i hi x h1 h2
        refine Ev.step (fun k => by rw [spec_Rounds.l0]) ?_
        have c : ¬ (i : Int) < (l.length : Int) := by omega
        simp only [c, if_false]
        rw [List.drop_eq_nil_of_le (by omega)]
        by_cases e : x > 1000000
        · simp only [e, if_true]
          have : mn x 1000000 = 1000000 := by unfold mn; split <;> omega
          rw [this]
          exact Ev.now _
        · simp only [e, if_false]
          have : mn x 1000000 = x := by unfold mn; split <;> omega
          rw [this]
          exact Ev.now _
      | succ d ih =>
        intro i hi x h1 h2
        refine Ev.step (fun k => by rw [spec_Rounds.l0]) ?_
        have c : (i : Int) < (l.length : Int) := by omega
        have c0 : (0 : Int) ≤ (i : Int) := by omega
        have hw : wrap64 ((i : Int) + 1) = ((i + 1 : Nat) : Int) := wi (n := l.length) (by omega) hl
        have hd : l.drop i = rd_T33 l (i : Int) :: l.drop (i + 1) := drop_cons l _ (by omega)
        have hm : rd_T33 l (i : Int) ∈ l := getD_mem l _ (by omega)
        obtain ⟨r1, r2, r3, r4, r5⟩ := hfu _ hm
        by_cases e : x < 1000000
        · have hq : mn x 1000000 = x := by unfold mn; split <;> omega
          have w1 : wrap64 ((rd_T33 l (i : Int)).f2 - (rd_T33 l (i : Int)).f1) = (rd_T33 l (i : Int)).f2 - (rd_T33 l (i : Int)).f1 := w64 (by omega) (by omega)
          have w2 : wrap64 ((rd_T33 l (i : Int)).f2 - (rd_T33 l (i : Int)).f1 + 1) = (rd_T33 l (i : Int)).f2 - (rd_T33 l (i : Int)).f1 + 1 := w64 (by omega) (by omega)
          have b1 : 0 ≤ (x - 1) * ((rd_T33 l (i : Int)).f2 - (rd_T33 l (i : Int)).f1) := Int.mul_nonneg (by omega) (by omega)
          have b2 : 0 ≤ x * (20000 - ((rd_T33 l (i : Int)).f2 - (rd_T33 l (i : Int)).f1)) := Int.mul_nonneg (by omega) (by omega)
          have b3 : 1 ≤ x * ((rd_T33 l (i : Int)).f2 - (rd_T33 l (i : Int)).f1 + 1) ∧ x * ((rd_T33 l (i : Int)).f2 - (rd_T33 l (i : Int)).f1 + 1) ≤ 20001000000 := by
            have hy : 0 ≤ (rd_T33 l (i : Int)).f2 - (rd_T33 l (i : Int)).f1 := by omega
            generalize (rd_T33 l (i : Int)).f2 - (rd_T33 l (i : Int)).f1 = y at b1 b2 hy ⊢
            simp only [Int.sub_mul, Int.add_mul, Int.mul_sub, Int.mul_add] at b1 b2 ⊢
            omega
          have w3 : wrap64 (x * ((rd_T33 l (i : Int)).f2 - (rd_T33 l (i : Int)).f1 + 1)) = x * ((rd_T33 l (i : Int)).f2 - (rd_T33 l (i : Int)).f1 + 1) := w64 (by omega) (by omega)
          rw [hd, hq]
          simp only [c, c0, e, if_true, w1, w2, w3, hw, rndL]
          exact ih (i + 1) (by omega) _ b3.1 b3.2
        · have hq : mn x 1000000 = 1000000 := by unfold mn; split <;> omega
          rw [hq, rndL_top S33.f1 S33.f2 (l.drop i) (fun r hr => (hfu r (List.mem_of_mem_drop hr)).1)]
          simp only [c, e, if_true, if_false]
          by_cases e3 : x > 1000000
          · simp only [e3, if_true]
            exact Ev.now _
          · have : x = 1000000 := by omega
            subst this
            simp only [e3, if_false]
            exact Ev.now _
    exact key l.length 0 (by omega) 1 (by omega) (by omega)
theorem impl_Rounds_ev (l : List S33) (hl : l.length ≤ maxLen) (hs : ∀ x ∈ l, x.f0.size ≤ maxLen) : Ev (fun k => impl_Rounds.f k l) (rndS S33.f0 S33.f1 S33.f2 l) := by
  unfold impl_Rounds.f rndS
  refine Ev.then (impl_isRight_ev l hl hs) ?_
  cases e2 : fullS S33.f0 S33.f1 S33.f2 l with
  | false =>
    simp only [Bool.false_eq_true, if_false]
    exact Ev.now _
  | true =>
    simp only [if_true]
    have hfu := (fullS_mem S33.f0 S33.f1 S33.f2 e2).1
    have key : ∀ d i, i + d = l.length → ∀ x : Int, 1 ≤ x → x ≤ 1000000 → Ev (fun k => impl_Rounds.l0 k x l (l.length : Int) (i : Int)) (rndL S33.f1 S33.f2 (l.drop i) x) := by
      intro d
      induction d with
      | zero =>
        intro i hi x h1 h2
        refine Ev.step (fun k => by rw [impl_Rounds.l0]) ?_
        have c : ¬ (i : Int) < (l.length : Int) := by omega
        simp only [c, if_false]
        rw [List.drop_eq_nil_of_le (by omega)]
        exact Ev.now _
      | succ d ih =>
        intro i hi x h1 h2
        refine Ev.step (fun k => by rw [impl_Rounds.l0]) ?_
        have c : (i : Int) < (l.length : Int) := by omega
        have c0 : (0 : Int) ≤ (i : Int) := by omega
        have hw : wrap64 ((i : Int) + 1) = ((i + 1 : Nat) : Int) := wi (n := l.length) (by omega) hl
        have hd : l.drop i = rd_T33 l (i : Int) :: l.drop (i + 1) := drop_cons l _ (by omega)
        have hm : rd_T33 l (i : Int) ∈ l := getD_mem l _ (by omega)
        obtain ⟨r1, r2, r3, r4, r5⟩ := hfu _ hm
        have w1 : wrap64 ((rd_T33 l (i : Int)).f2 - (rd_T33 l (i : Int)).f1) = (rd_T33 l (i : Int)).f2 - (rd_T33 l (i : Int)).f1 := w64 (by omega) (by omega)
        have w2 : wrap64 ((rd_T33 l (i : Int)).f2 - (rd_T33 l (i : Int)).f1 + 1) = (rd_T33 l (i : Int)).f2 - (rd_T33 l (i : Int)).f1 + 1 := w64 (by omega) (by omega)
        have b1 : 0 ≤ (x - 1) * ((rd_T33 l (i : Int)).f2 - (rd_T33 l (i : Int)).f1) := Int.mul_nonneg (by omega) (by omega)
        have b2 : 0 ≤ x * (20000 - ((rd_T33 l (i : Int)).f2 - (rd_T33 l (i : Int)).f1)) := Int.mul_nonneg (by omega) (by omega)
        have b3 : 1 ≤ x * ((rd_T33 l (i : Int)).f2 - (rd_T33 l (i : Int)).f1 + 1) ∧ x * ((rd_T33 l (i : Int)).f2 - (rd_T33 l (i : Int)).f1 + 1) ≤ 20001000000 := by
          have hy : 0 ≤ (rd_T33 l (i : Int)).f2 - (rd_T33 l (i : Int)).f1 := by omega
          generalize (rd_T33 l (i : Int)).f2 - (rd_T33 l (i : Int)).f1 = y at b1 b2 hy ⊢
          simp only [Int.sub_mul, Int.add_mul, Int.mul_sub, Int.mul_add] at b1 b2 ⊢
          omega
        have w3 : wrap64 (x * ((rd_T33 l (i : Int)).f2 - (rd_T33 l (i : Int)).f1 + 1)) = x * ((rd_T33 l (i : Int)).f2 - (rd_T33 l (i : Int)).f1 + 1) := w64 (by omega) (by omega)
        rw [hd]
        simp only [c, c0, if_true, w1, w2, w3, hw, rndL]
        refine ih (i + 1) (by omega) _ ?_ ?_ <;> (unfold mn; split <;> omega)
    exact key l.length 0 (by omega) 1 (by omega) (by omega)
theorem bits_and8 (a : Int) : Go.bits .and .i64 a 255 = a % 256 := by
  have h : (255 : Int) = ((2 ^ 8 - 1 : Nat) : Int) := by decide
  unfold Go.bits
  simp only [Go.IntKind.wrap_i64]
  rw [h]
  simp only [BitVec.toNat_and, BitVec.ofInt_natCast, BitVec.toNat_ofInt, BitVec.toNat_ofNat]
  have e : (2 ^ 8 - 1) % 2 ^ Go.IntKind.bits .i64 = 2 ^ 8 - 1 := by decide
  rw [e, Nat.and_two_pow_sub_one_eq_mod]
  have e2 : Go.IntKind.bits .i64 = 64 := rfl
  rw [e2]
  omega
theorem spec_l1New_ev (l : List Int) (hl : l.length ≤ maxLen) : ∃ h, Ev (fun k => spec_l1New.f k l) (l, 0, h) := by
  have key : ∀ d i, i + d = l.length → ∀ x, ∃ h, Ev (fun k => spec_l1New.l0 k l x (i : Int)) (l, 0, h) := by
    intro d
    induction d with
    | zero =>
      intro i hi x
      refine ⟨x, Ev.step (fun k => by rw [spec_l1New.l0]) ?_⟩
      have c : ¬ (i : Int) < (l.length : Int) := by omega
      simp only [c, if_false]
      exact Ev.now _
    | succ d ih =>
      intro i hi x
      have c : (i : Int) < (l.length : Int) := by omega
      have c0 : (0 : Int) ≤ (i : Int) := by omega
      have hw : wrap64 ((i : Int) + 1) = ((i + 1 : Nat) : Int) := wi (n := l.length) (by omega) hl
      by_cases e : (i : Int) < 4000
      · obtain ⟨h, hh⟩ := ih (i + 1) (by omega) (Go.bits .and .i64 (wrap64 ((wrap64 ((wrap64 (x * 137)) + (wrap64 (rd l (i : Int))))) + 11)) 1073741823)
        refine ⟨h, Ev.step (fun k => by rw [spec_l1New.l0]) ?_⟩
        simp only [c, c0, e, if_true, hw]
        exact hh
      · refine ⟨x, Ev.step (fun k => by rw [spec_l1New.l0]) ?_⟩
        simp only [c, e, if_true, if_false]
        exact Ev.now _
  exact key l.length 0 (by omega) _
/-- Where a cursor may stand. -/
def At (l : List Int) (i : Int) : Prop := l.length ≤ maxLen ∧ 0 ≤ i ∧ i ≤ (l.length : Int)
theorem spec_l1Byte_ex {l : List Int} {i : Int} (h : Int) (hi : At l i) : ∃ b i' h', spec_l1Byte.f l i h = some (b, i', h') ∧ 0 ≤ b ∧ b ≤ 255 ∧ At l i' := by
  obtain ⟨hl, h0, h1⟩ := hi
  have hm := hl
  unfold maxLen at hm
  unfold spec_l1Byte.f
  by_cases c : i < (l.length : Int)
  · simp only [c, h0, if_true]
    have hw : wrap64 (i + 1) = i + 1 := w64 (by omega) (by omega)
    refine ⟨_, _, _, rfl, ?_, ?_, hl, ?_, ?_⟩
    · rw [bits_and8]; omega
    · rw [bits_and8]; omega
    · omega
    · omega
  · simp only [c, if_false]
    refine ⟨_, _, _, rfl, ?_, ?_, hl, h0, h1⟩
    · rw [bits_and8]; omega
    · rw [bits_and8]; omega
theorem spec_l1Below_ex {l : List Int} {i : Int} (h : Int) (n : Int) (hi : At l i) (hn : 0 < n) (hn2 : n ≤ 256) : ∃ b i' h', spec_l1Below.f l i h n = some (b, i', h') ∧ 0 ≤ b ∧ b < n ∧ At l i' := by
  unfold spec_l1Below.f
  obtain ⟨b, i', h', e, b0, b1, c⟩ := spec_l1Byte_ex h hi
  have c1 : ¬ n ≤ 0 := by omega
  have c2 : ¬ n = 0 := by omega
  simp only [c1, c2, hn2, e, if_true, if_false, Option.bind_some]
  refine ⟨_, _, _, rfl, ?_, ?_, c⟩
  · exact Int.tmod_nonneg _ b0
  · exact Int.tmod_lt_of_pos _ hn
theorem spec_l1Int_ex {l : List Int} {i : Int} (h : Int) (q : List Int) (hi : At l i) (hn : 0 < q.length) (hn2 : q.length ≤ 256) : ∃ x i' h', spec_l1Int.f l i h q = some (x, i', h') ∧ x ∈ q ∧ At l i' := by
  unfold spec_l1Int.f
  obtain ⟨b, i', h', e, b0, b1, c⟩ := spec_l1Below_ex h (q.length : Int) hi (by omega) (by omega)
  simp only [e, b0, b1, if_true, Option.bind_some]
  refine ⟨_, _, _, rfl, ?_, c⟩
  obtain ⟨j, rfl⟩ : ∃ j : Nat, b = (j : Int) := ⟨b.toNat, by omega⟩
  exact getD_mem q _ (by omega)
theorem spec_l1Str_ex {l : List Int} {i : Int} (h : Int) (q : List ByteArray) (hi : At l i) (hn : 0 < q.length) (hn2 : q.length ≤ 256) : ∃ x i' h', spec_l1Str.f l i h q = some (x, i', h') ∧ x ∈ q ∧ At l i' := by
  unfold spec_l1Str.f
  obtain ⟨b, i', h', e, b0, b1, c⟩ := spec_l1Below_ex h (q.length : Int) hi (by omega) (by omega)
  simp only [e, b0, b1, if_true, Option.bind_some]
  refine ⟨_, _, _, rfl, ?_, c⟩
  obtain ⟨j, rfl⟩ : ∃ j : Nat, b = (j : Int) := ⟨b.toNat, by omega⟩
  exact getD_mem q _ (by omega)
theorem spec_l1Once_ex {l : List Int} {i : Int} (h : Int) (n : Int) (hi : At l i) (hn : 0 < n) (hn2 : n ≤ 256) : ∃ b i' h', spec_l1Once.f l i h n = some (b, i', h') ∧ At l i' := by
  unfold spec_l1Once.f
  obtain ⟨b, i', h', e, b0, b1, c⟩ := spec_l1Below_ex h n hi hn hn2
  simp only [e, Option.bind_some]
  exact ⟨_, _, _, rfl, c⟩
abbrev sI : ByteArray := ⟨#[105]⟩
abbrev sJ : ByteArray := ⟨#[106]⟩
abbrev sK : ByteArray := ⟨#[107]⟩
/-- A drawn range. -/
def RngD (x : S33) (s : ByteArray) : Prop := x.f0 = s ∧ -1 ≤ x.f1 ∧ x.f1 ≤ 3 ∧ x.f1 ≤ x.f2 ∧ x.f2 ≤ x.f1 + 4
theorem spec_l9Draw_ex {l : List Int} {i : Int} (h : Int) (hi : At l i) : ∃ x y z i' h', Ev (fun k => spec_l9Draw.f k l i h) ([x, y, z], i', h') ∧ RngD x sI ∧ RngD y sJ ∧ RngD z sK ∧ At l i' := by
  unfold spec_l9Draw.f
  obtain ⟨a1, i1, h1, e1, p1, q1, c1⟩ := spec_l1Below_ex h 5 hi (by omega) (by omega)
  obtain ⟨b1, i2, h2, e2, p2, q2, c2⟩ := spec_l1Below_ex h1 5 c1 (by omega) (by omega)
  obtain ⟨a2, i3, h3, e3, p3, q3, c3⟩ := spec_l1Below_ex h2 5 c2 (by omega) (by omega)
  obtain ⟨b2, i4, h4, e4, p4, q4, c4⟩ := spec_l1Below_ex h3 5 c3 (by omega) (by omega)
  obtain ⟨a3, i5, h5, e5, p5, q5, c5⟩ := spec_l1Below_ex h4 5 c4 (by omega) (by omega)
  obtain ⟨b3, i6, h6, e6, p6, q6, c6⟩ := spec_l1Below_ex h5 5 c5 (by omega) (by omega)
  have r1 : wrap64 (a1 - 1) = a1 - 1 := w64 (by omega) (by omega)
  have r2 : wrap64 (a2 - 1) = a2 - 1 := w64 (by omega) (by omega)
  have r3 : wrap64 (a3 - 1) = a3 - 1 := w64 (by omega) (by omega)
  have s1 : wrap64 (a1 - 1 + b1) = a1 - 1 + b1 := w64 (by omega) (by omega)
  have s2 : wrap64 (a2 - 1 + b2) = a2 - 1 + b2 := w64 (by omega) (by omega)
  have s3 : wrap64 (a3 - 1 + b3) = a3 - 1 + b3 := w64 (by omega) (by omega)
  refine ⟨⟨sI, a1 - 1, a1 - 1 + b1⟩, ⟨sJ, a2 - 1, a2 - 1 + b2⟩, ⟨sK, a3 - 1, a3 - 1 + b3⟩, i6, h6, ?_, ⟨rfl, by simp only; omega, by simp only; omega, by simp only; omega, by simp only; omega⟩, ⟨rfl, by simp only; omega, by simp only; omega, by simp only; omega, by simp only; omega⟩, ⟨rfl, by simp only; omega, by simp only; omega, by simp only; omega, by simp only; omega⟩, c6⟩
  have w1 : wrap64 ((0 : Int) + 1) = 1 := w64 (by omega) (by omega)
  have w2 : wrap64 ((1 : Int) + 1) = 2 := w64 (by omega) (by omega)
  have w3 : wrap64 ((2 : Int) + 1) = 3 := w64 (by omega) (by omega)
  have n0 : rdOf ByteArray.empty [sI, sJ, sK] 0 = sI := rfl
  have n1 : rdOf ByteArray.empty [sI, sJ, sK] 1 = sJ := rfl
  have n2 : rdOf ByteArray.empty [sI, sJ, sK] 2 = sK := rfl
  refine ⟨4, fun k hk => ?_⟩
  obtain ⟨k, rfl⟩ : ∃ d, k = d + 4 := ⟨k - 4, by omega⟩
  simp only [spec_l9Draw.l0, e1, e2, e3, e4, e5, e6, Option.bind_some, r1, r2, r3, s1, s2, s3, w1, w2, w3, n0, n1, n2, List.length_cons, List.length_nil, List.nil_append, List.cons_append]
  simp
theorem spec_l9Any_ex {l : List Int} {i : Int} (h : Int) (hi : At l i) : ∃ b i' h', Ev (fun k => spec_l9Any.f k l i h) (b, i', h') ∧ b.length ≤ 3 ∧ (∀ x ∈ b, x.f0.size ≤ 3) ∧ At l i' := by
  unfold spec_l9Any.f
  obtain ⟨x, y, z, i1, h1, e1, px, py, pz, c1⟩ := spec_l9Draw_ex h hi
  obtain ⟨m, i2, h2, e2, m0, m1, c2⟩ := spec_l1Below_ex h1 3 c1 (by omega) (by omega)
  obtain ⟨t, i3, h3, e3, t0, t1, c3⟩ := spec_l1Below_ex h2 12 c2 (by omega) (by omega)
  have hx : x.f0.size ≤ 3 := by rw [px.1]; decide
  have hy : y.f0.size ≤ 3 := by rw [py.1]; decide
  have hz : z.f0.size ≤ 3 := by rw [pz.1]; decide
  have all : ∀ u ∈ [x, y, z], u.f0.size ≤ 3 := by
    intro u hu
    simp only [List.mem_cons, List.not_mem_nil, or_false] at hu
    rcases hu with rfl | rfl | rfl <;> assumption
  have len : ([x, y, z] : List S33).length = 3 := rfl
  have hm : m < (([x, y, z] : List S33).length : Int) := by rw [len]; exact m1
  have hm2 : m ≤ (([x, y, z] : List S33).length : Int) := by omega
  have hr : (rd_T33 [x, y, z] m).f0.size ≤ 3 := all _ (getD_mem [x, y, z] _ (by rw [len]; omega))
  have hset : ∀ v : S33, v.f0.size ≤ 3 → (([x, y, z].set m.toNat v).length ≤ 3 ∧ ∀ u ∈ [x, y, z].set m.toNat v, u.f0.size ≤ 3) := by
    intro v hv
    refine ⟨by simp, fun u hu => ?_⟩
    rcases List.mem_or_eq_of_mem_set hu with hu | rfl
    · exact all u hu
    · exact hv
  by_cases d0 : t = 0
  · obtain ⟨q1, q2⟩ := hset ⟨(rd_T33 [x, y, z] m).f0, wrap64 (((rd_T33 [x, y, z] m).f2) + 1), (rd_T33 [x, y, z] m).f2⟩ hr
    refine ⟨_, i3, h3, Ev.then e1 ?_, q1, q2, c3⟩
    simp only [e2, e3, Option.bind_some, d0, m0, hm, if_true]
    exact Ev.now _
  by_cases d1 : t = 1
  · obtain ⟨v, i4, h4, e4, _, c4⟩ := spec_l1Int_ex h3 [10000, 10001, 300] c3 (by decide) (by decide)
    obtain ⟨q1, q2⟩ := hset ⟨(rd_T33 [x, y, z] m).f0, (rd_T33 [x, y, z] m).f1, v⟩ hr
    refine ⟨_, i4, h4, Ev.then e1 ?_, q1, q2, c4⟩
    simp only [e2, e3, e4, Option.bind_some, d0, d1, m0, hm, if_true, if_false]
    exact Ev.now _
  by_cases d2 : t = 2
  · obtain ⟨v, i4, h4, e4, _, c4⟩ := spec_l1Int_ex h3 [(-10000), (-10001)] c3 (by decide) (by decide)
    obtain ⟨q1, q2⟩ := hset ⟨(rd_T33 [x, y, z] m).f0, v, (rd_T33 [x, y, z] m).f2⟩ hr
    refine ⟨_, i4, h4, Ev.then e1 ?_, q1, q2, c4⟩
    simp only [e2, e3, e4, Option.bind_some, d0, d1, d2, m0, hm, if_true, if_false]
    exact Ev.now _
  by_cases d3 : t = 3
  · obtain ⟨v, i4, h4, e4, hv, c4⟩ := spec_l1Str_ex h3 [(⟨#[105]⟩ : ByteArray), (⟨#[102, 111, 114]⟩ : ByteArray), (⟨#[122]⟩ : ByteArray)] c3 (by decide) (by decide)
    have hv3 : v.size ≤ 3 := by
      simp only [List.mem_cons, List.not_mem_nil, or_false] at hv
      rcases hv with rfl | rfl | rfl <;> decide
    obtain ⟨q1, q2⟩ := hset ⟨v, (rd_T33 [x, y, z] m).f1, (rd_T33 [x, y, z] m).f2⟩ hv3
    refine ⟨_, i4, h4, Ev.then e1 ?_, q1, q2, c4⟩
    simp only [e2, e3, e4, Option.bind_some, d0, d1, d2, d3, m0, hm, if_true, if_false]
    exact Ev.now _
  by_cases d4 : t = 4
  · refine ⟨[x, y, z].take m.toNat, i3, h3, Ev.then e1 ?_, ?_, ?_, c3⟩
    · simp only [e2, e3, Option.bind_some, d0, d1, d2, d3, d4, m0, hm2, if_true, if_false]
      exact Ev.now _
    · simp
      omega
    · exact fun u hu => all u (List.mem_of_mem_take hu)
  · refine ⟨[x, y, z], i3, h3, Ev.then e1 ?_, ?_, all, c3⟩
    · simp only [e2, e3, Option.bind_some, d0, d1, d2, d3, d4, if_false]
      exact Ev.now _
    · simp
/-- A drawn term of a name, or none. -/
def optT (s : ByteArray) : Option Int → List S73
  | none => []
  | some n => [⟨s, n⟩]
def TermD (o : Option Int) : Prop := ∀ n, o = some n → n ∈ [1, 1, 2, 3, (-1), (-2), 4]
theorem l8_round {l : List Int} {i : Int} (h : Int) (hi : At l i) (j : Nat) (s : ByteArray) (hj : j < 3) (hs : rdOf ByteArray.empty [sI, sJ, sK] (j : Int) = s) (c : Int) (t : List S73) (ht : t.length ≤ 3) :
    ∃ o i' h', TermD o ∧ At l i' ∧ ∀ r, Ev (fun k => spec_l8Draw.l0 k [sI, sJ, sK] ((j + 1 : Nat) : Int) l i' h' c (t ++ optT s o)) r → Ev (fun k => spec_l8Draw.l0 k [sI, sJ, sK] (j : Int) l i h c t) r := by
  obtain ⟨b, i1, h1, e1, c1⟩ := spec_l1Once_ex h 2 hi (by omega) (by omega)
  have hw : wrap64 ((j : Int) + 1) = ((j + 1 : Nat) : Int) := by rw [w64 (by omega) (by omega)]; omega
  have g1 : (j : Int) < 3 := by omega
  have g2 : (0 : Int) ≤ (j : Int) := by omega
  have g3 : (j : Int) < (([sI, sJ, sK] : List ByteArray).length : Int) := by
    have : ([sI, sJ, sK] : List ByteArray).length = 3 := rfl
    omega
  cases b with
  | false =>
    refine ⟨none, i1, h1, (by intro n hn; cases hn), c1, fun r hr => Ev.step (fun k => by rw [spec_l8Draw.l0]) ?_⟩
    simp only [g1, e1, Option.bind_some, if_true, if_false, Bool.false_eq_true, hw]
    simpa [optT] using hr
  | true =>
    obtain ⟨v, i2, h2, e2, hv, c2⟩ := spec_l1Int_ex h1 [1, 1, 2, 3, (-1), (-2), 4] c1 (by decide) (by decide)
    have g4 : t.length < 5864062014805 := by omega
    refine ⟨some v, i2, h2, (by intro n hn; cases hn; exact hv), c2, fun r hr => Ev.step (fun k => by rw [spec_l8Draw.l0]) ?_⟩
    simp only [g1, g2, g3, g4, e1, e2, Option.bind_some, if_true, hw, hs]
    exact hr
theorem spec_l8Draw_ex {l : List Int} {i : Int} (h : Int) (hi : At l i) : ∃ c o1 o2 o3 i' h', Ev (fun k => spec_l8Draw.f k l i h) (c, optT sI o1 ++ optT sJ o2 ++ optT sK o3, i', h') ∧ -4 ≤ c ∧ c ≤ 8 ∧ TermD o1 ∧ TermD o2 ∧ TermD o3 ∧ At l i' := by
  unfold spec_l8Draw.f
  obtain ⟨a, i1, h1, e1, p1, q1, c1⟩ := spec_l1Below_ex h 13 hi (by omega) (by omega)
  have r1 : wrap64 (a - 4) = a - 4 := w64 (by omega) (by omega)
  have len : ∀ s o, (optT s o).length ≤ 1 := by
    intro s o
    cases o <;> simp [optT]
  obtain ⟨o1, i2, h2, t1, c2, k1⟩ := l8_round h1 c1 0 sI (by omega) rfl (a - 4) [] (by simp)
  obtain ⟨o2, i3, h3, t2, c3, k2⟩ := l8_round h2 c2 1 sJ (by omega) rfl (a - 4) ([] ++ optT sI o1) (by have := len sI o1; simp; omega)
  obtain ⟨o3, i4, h4, t3, c4, k3⟩ := l8_round h3 c3 2 sK (by omega) rfl (a - 4) ([] ++ optT sI o1 ++ optT sJ o2) (by have := len sI o1; have := len sJ o2; simp; omega)
  refine ⟨a - 4, o1, o2, o3, i4, h4, ?_, by omega, by omega, t1, t2, t3, c4⟩
  simp only [e1, Option.bind_some, r1]
  refine k1 _ (k2 _ (k3 _ (Ev.step (fun k => by rw [spec_l8Draw.l0]) ?_)))
  have g : ¬ ((2 + 1 : Nat) : Int) < 3 := by omega
  simp only [g, if_false, List.nil_append]
  exact Ev.now _
theorem optT_size {s : ByteArray} (hs : s.size ≤ 3) (o : Option Int) : (optT s o).length ≤ 1 ∧ ∀ x ∈ optT s o, x.f0.size ≤ 3 := by
  cases o with
  | none => exact ⟨by simp [optT], by simp [optT]⟩
  | some n =>
    refine ⟨by simp [optT], ?_⟩
    intro x hx
    simp only [optT, List.mem_cons, List.not_mem_nil, or_false] at hx
    rw [hx]
    exact hs
theorem drawn_size (o1 o2 o3 : Option Int) : (optT sI o1 ++ optT sJ o2 ++ optT sK o3).length ≤ 3 ∧ ∀ x ∈ optT sI o1 ++ optT sJ o2 ++ optT sK o3, x.f0.size ≤ 3 := by
  obtain ⟨a1, b1⟩ := optT_size (s := sI) (by decide) o1
  obtain ⟨a2, b2⟩ := optT_size (s := sJ) (by decide) o2
  obtain ⟨a3, b3⟩ := optT_size (s := sK) (by decide) o3
  refine ⟨by simp only [List.length_append]; omega, fun x hx => ?_⟩
  simp only [List.mem_append] at hx
  rcases hx with (hx | hx) | hx
  · exact b1 x hx
  · exact b2 x hx
  · exact b3 x hx
theorem spec_l8Any_ex {l : List Int} {i : Int} (h : Int) (hi : At l i) : ∃ c t i' h', Ev (fun k => spec_l8Any.f k l i h) (c, t, i', h') ∧ t.length ≤ 4 ∧ (∀ x ∈ t, x.f0.size ≤ 3) ∧ At l i' := by
  unfold spec_l8Any.f
  obtain ⟨c, o1, o2, o3, i1, h1, e1, _, _, t1, t2, t3, c1⟩ := spec_l8Draw_ex h hi
  obtain ⟨d1, d2⟩ := drawn_size o1 o2 o3
  generalize optT sI o1 ++ optT sJ o2 ++ optT sK o3 = t at e1 d1 d2
  obtain ⟨m, i2, h2, e2, m0, m1, c2⟩ := spec_l1Below_ex h1 10 c1 (by omega) (by omega)
  by_cases k0 : m = 0
  · obtain ⟨v, i3, h3, e3, _, c3⟩ := spec_l1Int_ex h2 [100000, 100001, (-100000), (-100001), 9223372036854775807] c2 (by decide) (by decide)
    refine ⟨v, t, i3, h3, Ev.then e1 ?_, Nat.le_succ_of_le d1, d2, c3⟩
    simp only [e2, e3, Option.bind_some, k0, if_true]
    exact Ev.now _
  by_cases k1 : m = 1
  · obtain ⟨s, i3, h3, e3, hs, c3⟩ := spec_l1Str_ex h2 [(⟨#[97]⟩ : ByteArray), (⟨#[122]⟩ : ByteArray), (⟨#[]⟩ : ByteArray), (⟨#[102, 111, 114]⟩ : ByteArray)] c2 (by decide) (by decide)
    obtain ⟨v, i4, h4, e4, _, c4⟩ := spec_l1Int_ex h3 [0, 1, 100001] c3 (by decide) (by decide)
    have hs3 : s.size ≤ 3 := by
      simp only [List.mem_cons, List.not_mem_nil, or_false] at hs
      rcases hs with rfl | rfl | rfl | rfl <;> decide
    have g : t.length < 5864062014805 := by omega
    refine ⟨c, t ++ [⟨s, v⟩], i4, h4, Ev.then e1 ?_, by simp; omega, ?_, c4⟩
    · simp only [e2, e3, e4, Option.bind_some, k0, k1, g, if_true, if_false]
      exact Ev.now _
    · intro x hx
      simp only [List.mem_append, List.mem_cons, List.not_mem_nil, or_false] at hx
      rcases hx with hx | rfl
      · exact d2 x hx
      · exact hs3
  · refine ⟨c, t, i2, h2, Ev.then e1 ?_, Nat.le_succ_of_le d1, d2, c2⟩
    simp only [e2, Option.bind_some, k0, k1, if_false]
    exact Ev.now _
theorem FnBoxesBent : laws_FnBoxesBent.Pure := by
  intro l hl _ _
  apply Ev.rounds
  unfold laws_FnBoxesBent.f laws_big.f
  by_cases big : (l.length : Int) > 1048576
  · simp only [Option.bind_some, big, decide_true, if_true]
    exact Ev.now _
  simp only [Option.bind_some, big, decide_false, Bool.false_eq_true, if_false]
  obtain ⟨h, e0⟩ := spec_l1New_ev l hl
  have h0 : At l 0 := ⟨hl, by omega, by omega⟩
  have wd : 4 ≤ maxLen := by decide
  obtain ⟨b, i1, h1, e1, b1, b2, _⟩ := spec_l9Any_ex h h0
  obtain ⟨c, t, i2, h2, e2, t1, t2, c2⟩ := spec_l8Any_ex h h0
  obtain ⟨m, i3, h3, e3, m1, m2, c3⟩ := spec_l9Any_ex h2 c2
  obtain ⟨n, i4, h4, e4, _, _⟩ := spec_l1Int_ex h3 [8, 16, 30, 1, 0] c3 (by decide) (by decide)
  have B1 : b.length ≤ maxLen := by omega
  have B2 : ∀ x ∈ b, x.f0.size ≤ maxLen := fun x hx => Nat.le_trans (b2 x hx) (by omega)
  have T1 : t.length ≤ maxLen := by omega
  have T2 : ∀ x ∈ t, x.f0.size ≤ maxLen := fun x hx => Nat.le_trans (t2 x hx) (by omega)
  have M1 : m.length ≤ maxLen := by omega
  have M2 : ∀ x ∈ m, x.f0.size ≤ maxLen := fun x hx => Nat.le_trans (m2 x hx) (by omega)
  have D1 : Ev (fun k => spec_DrawBoxOk.f k l) b := by
    unfold spec_DrawBoxOk.f
    exact Ev.then e0 (Ev.then e1 (Ev.now _))
  have D2 : Ev (fun k => spec_DrawLeast.f k l) (c, t, m) := by
    unfold spec_DrawLeast.f
    exact Ev.then e0 (Ev.then e2 (Ev.then e3 (Ev.now _)))
  have D3 : Ev (fun k => spec_DrawInArr.f k l) (c, t, m, n) := by
    unfold spec_DrawInArr.f
    refine Ev.then e0 (Ev.then e2 (Ev.then e3 ?_))
    simp only [e4, Option.bind_some]
    exact Ev.now _
  have D4 : Ev (fun k => spec_DrawRounds.f k l) b := by
    unfold spec_DrawRounds.f
    exact Ev.then e0 (Ev.then e1 (Ev.now _))
  refine Ev.then D1 (Ev.then D2 (Ev.then (impl_Least_ev c t m T1 T2 M1 M2) (Ev.then (spec_Least_ev c t m T1 T2 M1 M2) (Ev.then (impl_Most_ev c t m T1 T2 M1 M2) (Ev.then (spec_Most_ev c t m T1 T2 M1 M2) (Ev.then D3 (Ev.then D4 (Ev.then (impl_BoxOk_ev b B1 B2) (Ev.then (spec_BoxOk_ev b B1 B2) ?_)))))))))
  simp only [beq_self_eq_true, if_true]
  refine Ev.then (impl_InArr_ev c t m n T1 T2 M1 M2) (Ev.then (spec_InArr_ev c t m n T1 T2 M1 M2) ?_)
  simp only [beq_self_eq_true, if_true]
  refine Ev.then (impl_Rounds_ev b B1 B2) (Ev.then (spec_Rounds_ev b B1 B2) ?_)
  simp only [beq_self_eq_true]
  exact Ev.now _

end Go.Proofs.Ytelklalagebdgaa.Pure
