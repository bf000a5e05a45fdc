/- The pure statement of FnDists: what the printed functions compute makes the law answer true. Conditions: those in the statement. -/
import Derived.Test.YtelklalagebdgaaLem
import Derived.Test.YtelklalagebdgaaPFnDistsx10
import Derived.Test.YtelklalagebdgaaPFnDistsx10
import Derived.Test.YtelklalagebdgaaPFnDistsx10
import Derived.Test.YtelklalagebdgaaPFnDistsx10
import Derived.Test.YtelklalagebdgaaPFnDistsx10
import Derived.Test.YtelklalagebdgaaPFnDistsx10
import Derived.Test.YtelklalagebdgaaPFnDistsx10
import Derived.Test.YtelklalagebdgaaPFnDistsx10
import Derived.Test.YtelklalagebdgaaPFnDistsx10
import Derived.Test.YtelklalagebdgaaPFnDistsx10
import Derived.Test.YtelklalagebdgaaPFnDistsx10
namespace Go.Proofs.Ytelklalagebdgaa.Pure
open Go.RowKit Go.Proofs.Ytelklalagebdgaa.PFnDists Go.Proofs.YtelklalagebdgaaW.PrintWords Go.Proofs.YtelklalagebdgaaW.PrintLast Go.Proofs.YtelklalagebdgaaW.PrintMore Go.Proofs.Ytelklalagebdgaa.Lem
set_option linter.unusedVariables false
set_option linter.unusedSimpArgs false

theorem spec_l1In_eq (a b c : Int) : spec_l1In.f a b c = some (decide (b ≤ a) && decide (a ≤ c)) := by
  unfold spec_l1In.f
  by_cases h : a ≥ b
  · have h' : b ≤ a := h
    simp [h']
  · have h' : ¬ b ≤ a := h
    simp [h']
theorem impl_inRange_eq (a b c : Int) : impl_inRange.f a b c = some (decide (b ≤ a) && decide (a ≤ c)) := by
  unfold impl_inRange.f
  by_cases h : a ≥ b
  · have h' : b ≤ a := h
    simp [h']
  · have h' : ¬ b ≤ a := h
    simp [h']
theorem impl_isLetter_eq (a : Int) : impl_isLetter.f a = some (decide (97 ≤ a) && decide (a ≤ 122)) := by
  unfold impl_isLetter.f
  by_cases h : a ≥ 97
  · have h' : 97 ≤ a := h
    simp [h']
  · have h' : ¬ 97 ≤ a := h
    simp [h']
theorem spec_l2Small_eq (a : Int) (h0 : 0 ≤ a) (h1 : a ≤ 255) : spec_l2Small.f a = some (decide (97 ≤ a) && decide (a ≤ 122)) := by
  unfold spec_l2Small.f
  rw [w64 (by omega) (by omega), spec_l1In_eq]
  rfl
theorem spec_l2Has_ev (xs : List ByteArray) (s : ByteArray) (hn : xs.length ≤ maxLen) : Ev (fun k => spec_l2Has.f k xs s) (xs.any fun x => x.toList == s.toList) := by
  unfold spec_l2Has.f
  have key : ∀ d i, i + d = xs.length → Ev (fun k => spec_l2Has.l0 k xs s (i : Int)) ((xs.drop i).any fun x => x.toList == s.toList) := by
    intro d
    induction d with
    | zero =>
      intro i hi
      refine Ev.step (fun k => by rw [spec_l2Has.l0]) ?_
      have c : ¬ (i : Int) < (xs.length : Int) := by omega
      simp only [c, if_false]
      rw [List.drop_eq_nil_of_le (by omega)]
      exact Ev.now _
    | succ d ih =>
      intro i hi
      refine Ev.step (fun k => by rw [spec_l2Has.l0]) ?_
      have c : (i : Int) < (xs.length : Int) := by omega
      have c0 : (0 : Int) ≤ (i : Int) := by omega
      have hw : wrap64 ((i : Int) + 1) = ((i + 1 : Nat) : Int) := wi (by omega) hn
      have hd : xs.drop i = rdOf ByteArray.empty xs (i : Int) :: xs.drop (i + 1) := by
        rw [List.drop_eq_getElem_cons (by omega)]
        simp [rdOf, List.getElem?_eq_getElem (show i < xs.length by omega)]
      rw [hd, List.any_cons]
      simp only [c, c0, if_true, hw]
      by_cases e : (rdOf ByteArray.empty xs (i : Int)).toList = s.toList
      · simp only [e, if_true, beq_self_eq_true, Bool.true_or]
        exact Ev.now _
      · simp only [e, if_false]
        have e' : ((rdOf ByteArray.empty xs (i : Int)).toList == s.toList) = false := by simpa using e
        rw [e', Bool.false_or]
        exact ih (i + 1) (by omega)
  have := key xs.length 0 (by omega)
  simpa using this
theorem spec_l2Kept_ev (s : ByteArray) : Ev (fun k => spec_l2Kept.f k s) (keptS s) := by
  unfold spec_l2Kept.f
  refine Ev.then (spec_l2Has_ev _ s (by simp [maxLen])) ?_
  have : (List.any [(⟨#[97, 114, 114, 97, 121]⟩ : ByteArray), (⟨#[102, 111, 114]⟩ : ByteArray), (⟨#[116, 111]⟩ : ByteArray), (⟨#[112, 114, 105, 110, 116]⟩ : ByteArray), (⟨#[109, 105, 110]⟩ : ByteArray), (⟨#[109, 97, 120]⟩ : ByteArray)] fun x => x.toList == s.toList) = keptS s := by
    simp only [keptS, keptL, List.any_cons, List.any_nil, toList_data]
  rw [this]
  exact Ev.now _
theorem impl_isKept_eq (s : ByteArray) : impl_isKept.f s = some (keptS s) := by
  unfold impl_isKept.f keptS keptL
  have hb : ∀ l : List UInt8, decide (s.toList = l) = (l == s.toList) := fun l => by
    by_cases h : s.toList = l
    · rw [decide_eq_true h, ← h, beq_self_eq_true]
    · rw [decide_eq_false h, beq_eq_false_iff_ne.mpr (fun e => h e.symm)]
  simp only [if_or, hb, List.any_cons, List.any_nil]
theorem spec_NameOk_ev (s : ByteArray) (hn : s.size ≤ maxLen) : Ev (fun k => spec_NameOk.f k s) (nameS s) := by
  unfold spec_NameOk.f nameS
  refine Ev.run (g := fun k i (_ : Unit) => spec_NameOk.l0 k s i) _ _ ?_ ?_ ()
  · intro i u hi
    have c : (i : Int) < (s.size : Int) := by omega
    have c0 : (0 : Int) ≤ (i : Int) := by omega
    have hw : wrap64 ((i : Int) + 1) = ((i + 1 : Nat) : Int) := wi hi hn
    have hl : spec_l2Small.f (bt s (i : Int)) = some (letS s i) := spec_l2Small_eq _ (bt_range s i).1 (bt_range s i).2
    cases e : letS s i with
    | true =>
      simp only [if_true]
      intro r hr
      refine Ev.step (fun k => by rw [spec_NameOk.l0]) ?_
      simp only [c, c0, if_true, hl, e, Option.bind_some, hw]
      exact hr
    | false =>
      simp only [Bool.false_eq_true, if_false]
      refine Ev.step (fun k => by rw [spec_NameOk.l0]) ?_
      simp only [c, c0, if_true, hl, e, Option.bind_some, Bool.false_eq_true, if_false]
      exact Ev.now _
  · intro u
    refine Ev.step (fun k => by rw [spec_NameOk.l0]) ?_
    have c : ¬ (s.size : Int) < (s.size : Int) := by omega
    simp only [c, if_false, spec_l1In_eq, Option.bind_some]
    have e1 : (decide ((1 : Int) ≤ (s.size : Int)) && decide ((s.size : Int) ≤ 6)) = (decide (1 ≤ s.size) && decide (s.size ≤ 6)) := by
      rw [Bool.eq_iff_iff]
      simp
      omega
    rw [e1]
    cases e : (decide (1 ≤ s.size) && decide (s.size ≤ 6)) with
    | true =>
      simp only [if_true, Bool.true_and]
      exact Ev.then (spec_l2Kept_ev s) (Ev.now _)
    | false =>
      simp only [Bool.false_eq_true, if_false, Bool.false_and]
      exact Ev.now _
theorem impl_NameOk_ev (s : ByteArray) (hn : s.size ≤ maxLen) : Ev (fun k => impl_NameOk.f k s) (nameS s) := by
  unfold impl_NameOk.f nameS
  refine Ev.run (g := fun k i (_ : Unit) => impl_NameOk.l0 k s i) _ _ ?_ ?_ ()
  · intro i u hi
    have c : (i : Int) < (s.size : Int) := by omega
    have c0 : (0 : Int) ≤ (i : Int) := by omega
    have hw : wrap64 ((i : Int) + 1) = ((i + 1 : Nat) : Int) := wi hi hn
    have hl : impl_isLetter.f (bt s (i : Int)) = some (letS s i) := impl_isLetter_eq _
    cases e : letS s i with
    | true =>
      simp only [if_true]
      intro r hr
      refine Ev.step (fun k => by rw [impl_NameOk.l0]) ?_
      simp only [c, c0, if_true, hl, e, Option.bind_some, hw]
      exact hr
    | false =>
      simp only [Bool.false_eq_true, if_false]
      refine Ev.step (fun k => by rw [impl_NameOk.l0]) ?_
      simp only [c, c0, if_true, hl, e, Option.bind_some, Bool.false_eq_true, if_false]
      exact Ev.now _
  · intro u
    refine Ev.step (fun k => by rw [impl_NameOk.l0]) ?_
    have c : ¬ (s.size : Int) < (s.size : Int) := by omega
    simp only [c, if_false, impl_inRange_eq, Option.bind_some]
    have e1 : (decide ((1 : Int) ≤ (s.size : Int)) && decide ((s.size : Int) ≤ 6)) = (decide (1 ≤ s.size) && decide (s.size ≤ 6)) := by
      rw [Bool.eq_iff_iff]
      simp
      omega
    rw [e1]
    cases e : (decide (1 ≤ s.size) && decide (s.size ≤ 6)) with
    | true =>
      simp only [if_true, Bool.true_and, impl_isKept_eq, Option.bind_some]
      exact Ev.now _
    | false =>
      simp only [Bool.false_eq_true, if_false, Bool.false_and]
      exact Ev.now _

theorem spec_l8Num_eq (n : Int) : spec_l8Num.f n = some (coefOk n) := by
  unfold spec_l8Num.f
  rw [spec_l1In_eq]
  rfl
theorem impl_isCoef_eq (n : Int) : impl_isCoef.f n = some (coefOk n) := by
  unfold impl_isCoef.f
  rw [impl_inRange_eq]
  rfl
def prevT (l : List S73) (i : Nat) : Option ByteArray := if i = 0 then none else some (rd_T73 l ((i - 1 : Nat) : Int)).f0
theorem prevT_succ (l : List S73) (i : Nat) : prevT l (i + 1) = some (rd_T73 l (i : Int)).f0 := by
  unfold prevT
  rw [if_neg (by omega)]
  rfl
theorem spec_AffOk_ev (c : Int) (l : List S73) (hl : l.length ≤ maxLen) (hs : ∀ x ∈ l, x.f0.size ≤ maxLen) : Ev (fun k => spec_AffOk.f k c l) (affOkS S73.f0 S73.f1 c l) := by
  unfold spec_AffOk.f
  have key : ∀ d i, i + d = l.length → Ev (fun k => spec_AffOk.l0 k (i : Int) c l) (affOkL S73.f0 S73.f1 (prevT l i) (l.drop i) && coefOk c) := by
    intro d
    induction d with
    | zero =>
      intro i hi
      refine Ev.step (fun k => by rw [spec_AffOk.l0]) ?_
      have c : ¬ (i : Int) < (l.length : Int) := by omega
      simp only [c, if_false]
      rw [List.drop_eq_nil_of_le (by omega)]
      simp only [spec_l8Num_eq, Option.bind_some, affOkL, Bool.true_and]
      exact Ev.now _
    | succ d ih =>
      intro i hi
      refine Ev.step (fun k => by rw [spec_AffOk.l0]) ?_
      have c : (i : Int) < (l.length : Int) := by omega
      have c0 : (0 : Int) ≤ (i : Int) := by omega
      have hw : wrap64 ((i : Int) + 1) = ((i + 1 : Nat) : Int) := wi (n := l.length) (by omega) hl
      have hd : l.drop i = rd_T73 l (i : Int) :: l.drop (i + 1) := drop_cons l _ (by omega)
      have hm : rd_T73 l (i : Int) ∈ l := getD_mem l _ (by omega)
      have ih' := ih (i + 1) (by omega)
      rw [prevT_succ] at ih'
      rw [hd]
      simp only [c, c0, if_true, hw, affOkL, spec_l8Num_eq, Option.bind_some]
      refine Ev.then (spec_NameOk_ev _ (hs _ hm)) ?_
      cases e1 : nameS (rd_T73 l (i : Int)).f0 with
      | false =>
        simp only [Bool.false_eq_true, if_false, Bool.false_and]
        exact Ev.now _
      | true =>
        by_cases e2 : (rd_T73 l (i : Int)).f1 = 0
        · simp only [e2, if_true, decide_true, Bool.not_true, Bool.false_and, Bool.and_false]
          exact Ev.now _
        · cases e3 : coefOk (rd_T73 l (i : Int)).f1 with
          | false =>
            simp only [e2, if_true, if_false, decide_false, Bool.not_false, Bool.and_false, Bool.false_and, Bool.false_eq_true]
            exact Ev.now _
          | true =>
            simp only [e2, if_true, if_false, decide_false, Bool.not_false, Bool.true_and]
            by_cases e4 : i = 0
            · subst e4
              have c4 : ¬ ((0 : Nat) : Int) > 0 := by omega
              simp only [c4, if_false, prevT, if_true, lessO, Bool.true_and]
              exact ih'
            · have c4 : (i : Int) > 0 := by omega
              have c5 : wrap64 ((i : Int) - 1) = ((i - 1 : Nat) : Int) := by
                simp only [maxLen] at hl
                rw [w64 (by omega) (by omega)]
                omega
              have c6 : (0 : Int) ≤ ((i - 1 : Nat) : Int) := by omega
              have c7 : ((i - 1 : Nat) : Int) < (l.length : Int) := by omega
              simp only [c4, c5, c6, c7, if_true, prevT, e4, if_false, lessO]
              cases e5 : Op.bytesLess (rd_T73 l ((i - 1 : Nat) : Int)).f0.toList (rd_T73 l (i : Int)).f0.toList with
              | false =>
                simp only [Bool.false_eq_true, if_false, Bool.false_and]
                exact Ev.now _
              | true =>
                simp only [if_true, Bool.true_and]
                exact ih'
  exact key l.length 0 (by omega)
theorem impl_AffOk_ev (c : Int) (l : List S73) (hl : l.length ≤ maxLen) (hs : ∀ x ∈ l, x.f0.size ≤ maxLen) : Ev (fun k => impl_AffOk.f k c l) (affOkS S73.f0 S73.f1 c l) := by
  unfold impl_AffOk.f
  have key : ∀ d i, i + d = l.length → Ev (fun k => impl_AffOk.l0 k l (l.length : Int) (i : Int) c l) (affOkL S73.f0 S73.f1 (prevT l i) (l.drop i) && coefOk c) := by
    intro d
    induction d with
    | zero =>
      intro i hi
      refine Ev.step (fun k => by rw [impl_AffOk.l0]) ?_
      have c : ¬ (i : Int) < (l.length : Int) := by omega
      simp only [c, if_false]
      rw [List.drop_eq_nil_of_le (by omega)]
      simp only [impl_isCoef_eq, Option.bind_some, affOkL, Bool.true_and]
      exact Ev.now _
    | succ d ih =>
      intro i hi
      refine Ev.step (fun k => by rw [impl_AffOk.l0]) ?_
      have c : (i : Int) < (l.length : Int) := by omega
      have c0 : (0 : Int) ≤ (i : Int) := by omega
      have hw : wrap64 ((i : Int) + 1) = ((i + 1 : Nat) : Int) := wi (n := l.length) (by omega) hl
      have hd : l.drop i = rd_T73 l (i : Int) :: l.drop (i + 1) := drop_cons l _ (by omega)
      have hm : rd_T73 l (i : Int) ∈ l := getD_mem l _ (by omega)
      have ih' := ih (i + 1) (by omega)
      rw [prevT_succ] at ih'
      rw [hd]
      simp only [c, c0, if_true, hw, affOkL, impl_isCoef_eq, Option.bind_some]
      refine Ev.then (impl_NameOk_ev _ (hs _ hm)) ?_
      cases e1 : nameS (rd_T73 l (i : Int)).f0 with
      | false =>
        simp only [Bool.false_eq_true, if_false, Bool.false_and]
        exact Ev.now _
      | true =>
        by_cases e2 : (rd_T73 l (i : Int)).f1 = 0
        · simp only [e2, if_true, decide_true, Bool.not_true, Bool.false_and, Bool.and_false]
          exact Ev.now _
        · cases e3 : coefOk (rd_T73 l (i : Int)).f1 with
          | false =>
            simp only [e2, if_true, if_false, decide_false, Bool.not_false, Bool.and_false, Bool.false_and, Bool.false_eq_true]
            exact Ev.now _
          | true =>
            simp only [e2, if_true, if_false, decide_false, Bool.not_false, Bool.true_and]
            by_cases e4 : i = 0
            · subst e4
              have c4 : ¬ ((0 : Nat) : Int) > 0 := by omega
              simp only [c4, if_false, prevT, if_true, lessO, Bool.true_and]
              exact ih'
            · have c4 : (i : Int) > 0 := by omega
              have c5 : wrap64 ((i : Int) - 1) = ((i - 1 : Nat) : Int) := by
                simp only [maxLen] at hl
                rw [w64 (by omega) (by omega)]
                omega
              have c6 : (0 : Int) ≤ ((i - 1 : Nat) : Int) := by omega
              have c7 : ((i - 1 : Nat) : Int) < (l.length : Int) := by omega
              simp only [c4, c5, c6, c7, if_true, prevT, e4, if_false, lessO]
              cases e5 : Op.bytesLess (rd_T73 l ((i - 1 : Nat) : Int)).f0.toList (rd_T73 l (i : Int)).f0.toList with
              | false =>
                simp only [Bool.false_eq_true, if_false, Bool.false_and]
                exact Ev.now _
              | true =>
                simp only [if_true, Bool.true_and]
                exact ih'
  exact key l.length 0 (by omega)
theorem impl_rngAt_ev (l : List S33) (s : ByteArray) (hl : l.length ≤ maxLen) : Ev (fun k => impl_rngAt.f k l s) (idxL S33.f0 0 l s) := by
  unfold impl_rngAt.f
  have key : ∀ d i, i + d = l.length → Ev (fun k => impl_rngAt.l0 k l s (i : Int)) (idxL S33.f0 i (l.drop i) s) := by
    intro d
    induction d with
    | zero =>
      intro i hi
      refine Ev.step (fun k => by rw [impl_rngAt.l0]) ?_
      have c : ¬ (i : Int) < (l.length : Int) := by omega
      simp only [c, if_false]
      rw [List.drop_eq_nil_of_le (by omega)]
      exact Ev.now _
    | succ d ih =>
      intro i hi
      refine Ev.step (fun k => by rw [impl_rngAt.l0]) ?_
      have c : (i : Int) < (l.length : Int) := by omega
      have c0 : (0 : Int) ≤ (i : Int) := by omega
      have hw : wrap64 ((i : Int) + 1) = ((i + 1 : Nat) : Int) := wi (n := l.length) (by omega) hl
      have hd : l.drop i = rd_T33 l (i : Int) :: l.drop (i + 1) := drop_cons l _ (by omega)
      rw [hd]
      simp only [c, c0, if_true, hw, idxL]
      by_cases e : (rd_T33 l (i : Int)).f0.toList = s.toList
      · simp only [e, if_true]
        exact Ev.now _
      · simp only [e, if_false]
        exact ih (i + 1) (by omega)
  exact key l.length 0 (by omega)
theorem impl_BoxOk_ev (l : List S33) (hl : l.length ≤ maxLen) (hs : ∀ x ∈ l, x.f0.size ≤ maxLen) : Ev (fun k => impl_BoxOk.f k l) (boxOkS S33.f0 S33.f1 S33.f2 l) := by
  unfold impl_BoxOk.f boxOkS
  have key : ∀ d i, i + d = l.length → Ev (fun k => impl_BoxOk.l0 k l l (l.length : Int) (i : Int)) (boxOkL S33.f0 S33.f1 S33.f2 l i (l.drop i)) := by
    intro d
    induction d with
    | zero =>
      intro i hi
      refine Ev.step (fun k => by rw [impl_BoxOk.l0]) ?_
      have c : ¬ (i : Int) < (l.length : Int) := by omega
      simp only [c, if_false]
      rw [List.drop_eq_nil_of_le (by omega)]
      have e : decide ((l.length : Int) ≤ 8) = decide (l.length ≤ 8) := by
        rw [decide_eq_decide]
        omega
      simp only [e, boxOkL]
      exact Ev.now _
    | succ d ih =>
      intro i hi
      refine Ev.step (fun k => by rw [impl_BoxOk.l0]) ?_
      have c : (i : Int) < (l.length : Int) := by omega
      have c0 : (0 : Int) ≤ (i : Int) := by omega
      have hw : wrap64 ((i : Int) + 1) = ((i + 1 : Nat) : Int) := wi (n := l.length) (by omega) hl
      have hd : l.drop i = rd_T33 l (i : Int) :: l.drop (i + 1) := drop_cons l _ (by omega)
      have hm : rd_T33 l (i : Int) ∈ l := getD_mem l _ (by omega)
      rw [hd]
      simp only [c, c0, if_true, hw, boxOkL, impl_inRange_eq, Option.bind_some]
      refine Ev.then (impl_NameOk_ev _ (hs _ hm)) ?_
      cases e1 : nameS (rd_T33 l (i : Int)).f0 with
      | false =>
        simp only [Bool.false_eq_true, if_false, Bool.false_and]
        exact Ev.now _
      | true =>
        rw [show (decide ((-10000 : Int) ≤ (rd_T33 l (i : Int)).f1) && decide ((rd_T33 l (i : Int)).f1 ≤ 10000)) = bndOk (rd_T33 l (i : Int)).f1 from rfl]
        rw [show (decide ((-10000 : Int) ≤ (rd_T33 l (i : Int)).f2) && decide ((rd_T33 l (i : Int)).f2 ≤ 10000)) = bndOk (rd_T33 l (i : Int)).f2 from rfl]
        cases e2 : bndOk (rd_T33 l (i : Int)).f1 with
        | false =>
          simp only [Bool.false_eq_true, if_true, if_false, Bool.false_and, Bool.true_and]
          exact Ev.now _
        | true =>
          cases e3 : bndOk (rd_T33 l (i : Int)).f2 with
          | false =>
            simp only [Bool.false_eq_true, if_true, if_false, Bool.false_and, Bool.true_and]
            exact Ev.now _
          | true =>
            simp only [if_true, Bool.true_and]
            refine Ev.then (impl_rngAt_ev l _ hl) ?_
            by_cases e4 : idxL S33.f0 0 l (rd_T33 l (i : Int)).f0 = (i : Int)
            · simp only [e4, if_true, decide_true, Bool.true_and]
              exact ih (i + 1) (by omega)
            · simp only [e4, if_false, decide_false, Bool.false_and]
              exact Ev.now _
  exact key l.length 0 (by omega)
theorem impl_isRight_ev (l : List S33) (hl : l.length ≤ maxLen) (hs : ∀ x ∈ l, x.f0.size ≤ maxLen) : Ev (fun k => impl_isRight.f k l) (fullS S33.f0 S33.f1 S33.f2 l) := by
  unfold impl_isRight.f
  have key : ∀ d i, i + d = l.length → Ev (fun k => impl_isRight.l0 k l l (l.length : Int) (i : Int)) (((l.drop i).all fun r => decide (r.f1 ≤ r.f2)) && boxOkS S33.f0 S33.f1 S33.f2 l) := by
    intro d
    induction d with
    | zero =>
      intro i hi
      refine Ev.step (fun k => by rw [impl_isRight.l0]) ?_
      have c : ¬ (i : Int) < (l.length : Int) := by omega
      simp only [c, if_false]
      rw [List.drop_eq_nil_of_le (by omega)]
      simp only [List.all_nil, Bool.true_and]
      exact Ev.then (impl_BoxOk_ev l hl hs) (Ev.now _)
    | succ d ih =>
      intro i hi
      refine Ev.step (fun k => by rw [impl_isRight.l0]) ?_
      have c : (i : Int) < (l.length : Int) := by omega
      have c0 : (0 : Int) ≤ (i : Int) := by omega
      have hw : wrap64 ((i : Int) + 1) = ((i + 1 : Nat) : Int) := wi (n := l.length) (by omega) hl
      have hd : l.drop i = rd_T33 l (i : Int) :: l.drop (i + 1) := drop_cons l _ (by omega)
      rw [hd, List.all_cons]
      by_cases e : (rd_T33 l (i : Int)).f1 > (rd_T33 l (i : Int)).f2
      · have e' : ¬ (rd_T33 l (i : Int)).f1 ≤ (rd_T33 l (i : Int)).f2 := by omega
        simp only [c, c0, if_true, hw, e, e', decide_false, Bool.false_and]
        exact Ev.now _
      · have e' : (rd_T33 l (i : Int)).f1 ≤ (rd_T33 l (i : Int)).f2 := by omega
        simp only [c, c0, if_true, hw, e, e', if_false, decide_true, Bool.true_and]
        exact ih (i + 1) (by omega)
  exact key l.length 0 (by omega)
theorem impl_Rounds_ev (l : List S33) (hl : l.length ≤ maxLen) (hs : ∀ x ∈ l, x.f0.size ≤ maxLen) : Ev (fun k => impl_Rounds.f k l) (rndS S33.f0 S33.f1 S33.f2 l) := by
  unfold impl_Rounds.f rndS
  refine Ev.then (impl_isRight_ev l hl hs) ?_
  cases e2 : fullS S33.f0 S33.f1 S33.f2 l with
  | false =>
    simp only [Bool.false_eq_true, if_false]
    exact Ev.now _
  | true =>
    simp only [if_true]
    have hfu := (fullS_mem S33.f0 S33.f1 S33.f2 e2).1
    have key : ∀ d i, i + d = l.length → ∀ x : Int, 1 ≤ x → x ≤ 1000000 → Ev (fun k => impl_Rounds.l0 k x l (l.length : Int) (i : Int)) (rndL S33.f1 S33.f2 (l.drop i) x) := by
      intro d
      induction d with
      | zero =>
        intro i hi x h1 h2
        refine Ev.step (fun k => by rw [impl_Rounds.l0]) ?_
        have c : ¬ (i : Int) < (l.length : Int) := by omega
        simp only [c, if_false]
        rw [List.drop_eq_nil_of_le (by omega)]
        exact Ev.now _
      | succ d ih =>
        intro i hi x h1 h2
        refine Ev.step (fun k => by rw [impl_Rounds.l0]) ?_
        have c : (i : Int) < (l.length : Int) := by omega
        have c0 : (0 : Int) ≤ (i : Int) := by omega
        have hw : wrap64 ((i : Int) + 1) = ((i + 1 : Nat) : Int) := wi (n := l.length) (by omega) hl
        have hd : l.drop i = rd_T33 l (i : Int) :: l.drop (i + 1) := drop_cons l _ (by omega)
        have hm : rd_T33 l (i : Int) ∈ l := getD_mem l _ (by omega)
        obtain ⟨r1, r2, r3, r4, r5⟩ := hfu _ hm
        have w1 : wrap64 ((rd_T33 l (i : Int)).f2 - (rd_T33 l (i : Int)).f1) = (rd_T33 l (i : Int)).f2 - (rd_T33 l (i : Int)).f1 := w64 (by omega) (by omega)
        have w2 : wrap64 ((rd_T33 l (i : Int)).f2 - (rd_T33 l (i : Int)).f1 + 1) = (rd_T33 l (i : Int)).f2 - (rd_T33 l (i : Int)).f1 + 1 := w64 (by omega) (by omega)
        have b1 : 0 ≤ (x - 1) * ((rd_T33 l (i : Int)).f2 - (rd_T33 l (i : Int)).f1) := Int.mul_nonneg (by omega) (by omega)
        have b2 : 0 ≤ x * (20000 - ((rd_T33 l (i : Int)).f2 - (rd_T33 l (i : Int)).f1)) := Int.mul_nonneg (by omega) (by omega)
        have b3 : 1 ≤ x * ((rd_T33 l (i : Int)).f2 - (rd_T33 l (i : Int)).f1 + 1) ∧ x * ((rd_T33 l (i : Int)).f2 - (rd_T33 l (i : Int)).f1 + 1) ≤ 20001000000 := by
          have hy : 0 ≤ (rd_T33 l (i : Int)).f2 - (rd_T33 l (i : Int)).f1 := by omega
          generalize (rd_T33 l (i : Int)).f2 - (rd_T33 l (i : Int)).f1 = y at b1 b2 hy ⊢
          simp only [Int.sub_mul, Int.add_mul, Int.mul_sub, Int.mul_add] at b1 b2 ⊢
          omega
        have w3 : wrap64 (x * ((rd_T33 l (i : Int)).f2 - (rd_T33 l (i : Int)).f1 + 1)) = x * ((rd_T33 l (i : Int)).f2 - (rd_T33 l (i : Int)).f1 + 1) := w64 (by omega) (by omega)
        rw [hd]
        simp only [c, c0, if_true, w1, w2, w3, hw, rndL]
        refine ih (i + 1) (by omega) _ ?_ ?_ <;> (unfold mn; split <;> omega)
    exact key l.length 0 (by omega) 1 (by omega) (by omega)
theorem impl_boundTo_ev (bs : List S36) (s : ByteArray) (hl : bs.length ≤ maxLen) : ∃ b, Ev (fun k => impl_boundTo.f k bs s) (boundS S36.f0 S36.f1 bs s, b) := by
  unfold impl_boundTo.f boundS
  have key : ∀ d, d ≤ bs.length → ∃ b, Ev (fun k => impl_boundTo.l0 k bs s ((d : Int) - 1)) (lastR S36.f0 S36.f1 (bs.take d).reverse s, b) := by
    intro d
    induction d with
    | zero =>
      intro _
      refine ⟨false, Ev.step (fun k => by rw [impl_boundTo.l0]) ?_⟩
      have c : ¬ ((0 : Nat) : Int) - 1 ≥ 0 := by omega
      simp only [c, if_false]
      exact Ev.now _
    | succ d ih =>
      intro hd
      have e0 : (((d + 1 : Nat) : Int) - 1) = (d : Int) := by omega
      have c : (d : Int) ≥ 0 := by omega
      have c0 : (0 : Int) ≤ (d : Int) := by omega
      have c1 : (d : Int) < (bs.length : Int) := by omega
      have hw : wrap64 ((d : Int) - 1) = (d : Int) - 1 := by
        simp only [maxLen] at hl
        exact w64 (by omega) (by omega)
      have ht : (bs.take (d + 1)).reverse = rd_T36 bs (d : Int) :: (bs.take d).reverse := by
        rw [List.take_add_one, List.getElem?_eq_getElem (show d < bs.length by omega)]
        simp [rd_T36, List.getElem?_eq_getElem (show d < bs.length by omega)]
      rw [ht, e0]
      by_cases e : (rd_T36 bs (d : Int)).f0.toList = s.toList
      · refine ⟨true, Ev.step (fun k => by rw [impl_boundTo.l0]) ?_⟩
        simp only [c, c0, c1, if_true, e, lastR]
        exact Ev.now _
      · obtain ⟨b, hb⟩ := ih (by omega)
        refine ⟨b, Ev.step (fun k => by rw [impl_boundTo.l0]) ?_⟩
        simp only [c, c0, c1, if_true, e, if_false, lastR, hw]
        exact hb
  have hw : wrap64 ((bs.length : Int) - 1) = (bs.length : Int) - 1 := by
    simp only [maxLen] at hl
    exact w64 (by omega) (by omega)
  rw [hw]
  have := key bs.length (Nat.le_refl _)
  rwa [List.take_length] at this
theorem impl_AffAt_ev (c : Int) (l : List S73) (bs : List S36) (hl : l.length ≤ maxLen) (hb : bs.length ≤ maxLen) :
    Ev (fun k => impl_AffAt.f k c l bs) (affAtL S73.f0 S73.f1 S36.f0 S36.f1 bs l c) := by
  unfold impl_AffAt.f
  have key : ∀ d i, i + d = l.length → ∀ x, Ev (fun k => impl_AffAt.l0 k bs x l (l.length : Int) (i : Int)) (affAtL S73.f0 S73.f1 S36.f0 S36.f1 bs (l.drop i) x) := by
    intro d
    induction d with
    | zero =>
      intro i hi x
      refine Ev.step (fun k => by rw [impl_AffAt.l0]) ?_
      have c : ¬ (i : Int) < (l.length : Int) := by omega
      simp only [c, if_false]
      rw [List.drop_eq_nil_of_le (by omega)]
      exact Ev.now _
    | succ d ih =>
      intro i hi x
      refine Ev.step (fun k => by rw [impl_AffAt.l0]) ?_
      have c : (i : Int) < (l.length : Int) := by omega
      have c0 : (0 : Int) ≤ (i : Int) := by omega
      have hw : wrap64 ((i : Int) + 1) = ((i + 1 : Nat) : Int) := wi (n := l.length) (by omega) hl
      have hd : l.drop i = rd_T73 l (i : Int) :: l.drop (i + 1) := drop_cons l _ (by omega)
      obtain ⟨b, hbd⟩ := impl_boundTo_ev bs (rd_T73 l (i : Int)).f0 hb
      rw [hd]
      simp only [c, c0, if_true, hw, affAtL]
      exact Ev.then hbd (ih (i + 1) (by omega) _)
  exact key l.length 0 (by omega) c
theorem spec_CoefOf_ev (c : Int) (l : List S73) (s : ByteArray) (hl : l.length ≤ maxLen) : Ev (fun k => spec_CoefOf.f k c l s) (coefL S73.f0 S73.f1 l s) := by
  unfold spec_CoefOf.f
  have key : ∀ d i, i + d = l.length → Ev (fun k => spec_CoefOf.l0 k s (i : Int) c l) (coefL S73.f0 S73.f1 (l.drop i) s) := by
    intro d
    induction d with
    | zero =>
      intro i hi
      refine Ev.step (fun k => by rw [spec_CoefOf.l0]) ?_
      have c : ¬ (i : Int) < (l.length : Int) := by omega
      simp only [c, if_false]
      rw [List.drop_eq_nil_of_le (by omega)]
      exact Ev.now _
    | succ d ih =>
      intro i hi
      refine Ev.step (fun k => by rw [spec_CoefOf.l0]) ?_
      have c : (i : Int) < (l.length : Int) := by omega
      have c0 : (0 : Int) ≤ (i : Int) := by omega
      have hw : wrap64 ((i : Int) + 1) = ((i + 1 : Nat) : Int) := wi (n := l.length) (by omega) hl
      have hd : l.drop i = rd_T73 l (i : Int) :: l.drop (i + 1) := drop_cons l _ (by omega)
      rw [hd]
      simp only [c, c0, if_true, hw, coefL]
      by_cases e : (rd_T73 l (i : Int)).f0.toList = s.toList
      · simp only [e, if_true]
        exact Ev.now _
      · simp only [e, if_false]
        exact ih (i + 1) (by omega)
  exact key l.length 0 (by omega)
theorem impl_CoefOf_ev (c : Int) (l : List S73) (s : ByteArray) (hl : l.length ≤ maxLen) : Ev (fun k => impl_CoefOf.f k c l s) (coefL S73.f0 S73.f1 l s) := by
  unfold impl_CoefOf.f
  have key : ∀ d i, i + d = l.length → Ev (fun k => impl_CoefOf.l0 k s l (l.length : Int) (i : Int)) (coefL S73.f0 S73.f1 (l.drop i) s) := by
    intro d
    induction d with
    | zero =>
      intro i hi
      refine Ev.step (fun k => by rw [impl_CoefOf.l0]) ?_
      have c : ¬ (i : Int) < (l.length : Int) := by omega
      simp only [c, if_false]
      rw [List.drop_eq_nil_of_le (by omega)]
      exact Ev.now _
    | succ d ih =>
      intro i hi
      refine Ev.step (fun k => by rw [impl_CoefOf.l0]) ?_
      have c : (i : Int) < (l.length : Int) := by omega
      have c0 : (0 : Int) ≤ (i : Int) := by omega
      have hw : wrap64 ((i : Int) + 1) = ((i + 1 : Nat) : Int) := wi (n := l.length) (by omega) hl
      have hd : l.drop i = rd_T73 l (i : Int) :: l.drop (i + 1) := drop_cons l _ (by omega)
      rw [hd]
      simp only [c, c0, if_true, hw, coefL]
      by_cases e : (rd_T73 l (i : Int)).f0.toList = s.toList
      · simp only [e, if_true]
        exact Ev.now _
      · simp only [e, if_false]
        exact ih (i + 1) (by omega)
  exact key l.length 0 (by omega)
theorem bits_and8 (a : Int) : Go.bits .and .i64 a 255 = a % 256 := by
  have h : (255 : Int) = ((2 ^ 8 - 1 : Nat) : Int) := by decide
  unfold Go.bits
  simp only [Go.IntKind.wrap_i64]
  rw [h]
  simp only [BitVec.toNat_and, BitVec.ofInt_natCast, BitVec.toNat_ofInt, BitVec.toNat_ofNat]
  have e : (2 ^ 8 - 1) % 2 ^ Go.IntKind.bits .i64 = 2 ^ 8 - 1 := by decide
  rw [e, Nat.and_two_pow_sub_one_eq_mod]
  have e2 : Go.IntKind.bits .i64 = 64 := rfl
  rw [e2]
  omega
theorem spec_l1New_ev (l : List Int) (hl : l.length ≤ maxLen) : ∃ h, Ev (fun k => spec_l1New.f k l) (l, 0, h) := by
  have key : ∀ d i, i + d = l.length → ∀ x, ∃ h, Ev (fun k => spec_l1New.l0 k l x (i : Int)) (l, 0, h) := by
    intro d
    induction d with
    | zero =>
      intro i hi x
      refine ⟨x, Ev.step (fun k => by rw [spec_l1New.l0]) ?_⟩
      have c : ¬ (i : Int) < (l.length : Int) := by omega
      simp only [c, if_false]
      exact Ev.now _
    | succ d ih =>
      intro i hi x
      have c : (i : Int) < (l.length : Int) := by omega
      have c0 : (0 : Int) ≤ (i : Int) := by omega
      have hw : wrap64 ((i : Int) + 1) = ((i + 1 : Nat) : Int) := wi (n := l.length) (by omega) hl
      by_cases e : (i : Int) < 4000
      · obtain ⟨h, hh⟩ := ih (i + 1) (by omega) (Go.bits .and .i64 (wrap64 ((wrap64 ((wrap64 (x * 137)) + (wrap64 (rd l (i : Int))))) + 11)) 1073741823)
        refine ⟨h, Ev.step (fun k => by rw [spec_l1New.l0]) ?_⟩
        simp only [c, c0, e, if_true, hw]
        exact hh
      · refine ⟨x, Ev.step (fun k => by rw [spec_l1New.l0]) ?_⟩
        simp only [c, e, if_true, if_false]
        exact Ev.now _
  exact key l.length 0 (by omega) _
/-- Where a cursor may stand. -/
def At (l : List Int) (i : Int) : Prop := l.length ≤ maxLen ∧ 0 ≤ i ∧ i ≤ (l.length : Int)
theorem spec_l1Byte_ex {l : List Int} {i : Int} (h : Int) (hi : At l i) : ∃ b i' h', spec_l1Byte.f l i h = some (b, i', h') ∧ 0 ≤ b ∧ b ≤ 255 ∧ At l i' := by
  obtain ⟨hl, h0, h1⟩ := hi
  have hm := hl
  unfold maxLen at hm
  unfold spec_l1Byte.f
  by_cases c : i < (l.length : Int)
  · simp only [c, h0, if_true]
    have hw : wrap64 (i + 1) = i + 1 := w64 (by omega) (by omega)
    refine ⟨_, _, _, rfl, ?_, ?_, hl, ?_, ?_⟩
    · rw [bits_and8]; omega
    · rw [bits_and8]; omega
    · omega
    · omega
  · simp only [c, if_false]
    refine ⟨_, _, _, rfl, ?_, ?_, hl, h0, h1⟩
    · rw [bits_and8]; omega
    · rw [bits_and8]; omega
theorem spec_l1Below_ex {l : List Int} {i : Int} (h : Int) (n : Int) (hi : At l i) (hn : 0 < n) (hn2 : n ≤ 256) : ∃ b i' h', spec_l1Below.f l i h n = some (b, i', h') ∧ 0 ≤ b ∧ b < n ∧ At l i' := by
  unfold spec_l1Below.f
  obtain ⟨b, i', h', e, b0, b1, c⟩ := spec_l1Byte_ex h hi
  have c1 : ¬ n ≤ 0 := by omega
  have c2 : ¬ n = 0 := by omega
  simp only [c1, c2, hn2, e, if_true, if_false, Option.bind_some]
  refine ⟨_, _, _, rfl, ?_, ?_, c⟩
  · exact Int.tmod_nonneg _ b0
  · exact Int.tmod_lt_of_pos _ hn
theorem spec_l1Int_ex {l : List Int} {i : Int} (h : Int) (q : List Int) (hi : At l i) (hn : 0 < q.length) (hn2 : q.length ≤ 256) : ∃ x i' h', spec_l1Int.f l i h q = some (x, i', h') ∧ x ∈ q ∧ At l i' := by
  unfold spec_l1Int.f
  obtain ⟨b, i', h', e, b0, b1, c⟩ := spec_l1Below_ex h (q.length : Int) hi (by omega) (by omega)
  simp only [e, b0, b1, if_true, Option.bind_some]
  refine ⟨_, _, _, rfl, ?_, c⟩
  obtain ⟨j, rfl⟩ : ∃ j : Nat, b = (j : Int) := ⟨b.toNat, by omega⟩
  exact getD_mem q _ (by omega)
theorem spec_l1Once_ex {l : List Int} {i : Int} (h : Int) (n : Int) (hi : At l i) (hn : 0 < n) (hn2 : n ≤ 256) : ∃ b i' h', spec_l1Once.f l i h n = some (b, i', h') ∧ At l i' := by
  unfold spec_l1Once.f
  obtain ⟨b, i', h', e, b0, b1, c⟩ := spec_l1Below_ex h n hi hn hn2
  simp only [e, Option.bind_some]
  exact ⟨_, _, _, rfl, c⟩
abbrev sI : ByteArray := ⟨#[105]⟩
abbrev sJ : ByteArray := ⟨#[106]⟩
abbrev sK : ByteArray := ⟨#[107]⟩
/-- A drawn range. -/
def RngD (x : S33) (s : ByteArray) : Prop := x.f0 = s ∧ -1 ≤ x.f1 ∧ x.f1 ≤ 3 ∧ x.f1 ≤ x.f2 ∧ x.f2 ≤ x.f1 + 4
theorem spec_l9Draw_ex {l : List Int} {i : Int} (h : Int) (hi : At l i) : ∃ x y z i' h', Ev (fun k => spec_l9Draw.f k l i h) ([x, y, z], i', h') ∧ RngD x sI ∧ RngD y sJ ∧ RngD z sK ∧ At l i' := by
  unfold spec_l9Draw.f
  obtain ⟨a1, i1, h1, e1, p1, q1, c1⟩ := spec_l1Below_ex h 5 hi (by omega) (by omega)
  obtain ⟨b1, i2, h2, e2, p2, q2, c2⟩ := spec_l1Below_ex h1 5 c1 (by omega) (by omega)
  obtain ⟨a2, i3, h3, e3, p3, q3, c3⟩ := spec_l1Below_ex h2 5 c2 (by omega) (by omega)
  obtain ⟨b2, i4, h4, e4, p4, q4, c4⟩ := spec_l1Below_ex h3 5 c3 (by omega) (by omega)
  obtain ⟨a3, i5, h5, e5, p5, q5, c5⟩ := spec_l1Below_ex h4 5 c4 (by omega) (by omega)
  obtain ⟨b3, i6, h6, e6, p6, q6, c6⟩ := spec_l1Below_ex h5 5 c5 (by omega) (by omega)
  have r1 : wrap64 (a1 - 1) = a1 - 1 := w64 (by omega) (by omega)
  have r2 : wrap64 (a2 - 1) = a2 - 1 := w64 (by omega) (by omega)
  have r3 : wrap64 (a3 - 1) = a3 - 1 := w64 (by omega) (by omega)
  have s1 : wrap64 (a1 - 1 + b1) = a1 - 1 + b1 := w64 (by omega) (by omega)
  have s2 : wrap64 (a2 - 1 + b2) = a2 - 1 + b2 := w64 (by omega) (by omega)
  have s3 : wrap64 (a3 - 1 + b3) = a3 - 1 + b3 := w64 (by omega) (by omega)
  refine ⟨⟨sI, a1 - 1, a1 - 1 + b1⟩, ⟨sJ, a2 - 1, a2 - 1 + b2⟩, ⟨sK, a3 - 1, a3 - 1 + b3⟩, i6, h6, ?_, ⟨rfl, by simp only; omega, by simp only; omega, by simp only; omega, by simp only; omega⟩, ⟨rfl, by simp only; omega, by simp only; omega, by simp only; omega, by simp only; omega⟩, ⟨rfl, by simp only; omega, by simp only; omega, by simp only; omega, by simp only; omega⟩, c6⟩
  have w1 : wrap64 ((0 : Int) + 1) = 1 := w64 (by omega) (by omega)
  have w2 : wrap64 ((1 : Int) + 1) = 2 := w64 (by omega) (by omega)
  have w3 : wrap64 ((2 : Int) + 1) = 3 := w64 (by omega) (by omega)
  have n0 : rdOf ByteArray.empty [sI, sJ, sK] 0 = sI := rfl
  have n1 : rdOf ByteArray.empty [sI, sJ, sK] 1 = sJ := rfl
  have n2 : rdOf ByteArray.empty [sI, sJ, sK] 2 = sK := rfl
  refine ⟨4, fun k hk => ?_⟩
  obtain ⟨k, rfl⟩ : ∃ d, k = d + 4 := ⟨k - 4, by omega⟩
  simp only [spec_l9Draw.l0, e1, e2, e3, e4, e5, e6, Option.bind_some, r1, r2, r3, s1, s2, s3, w1, w2, w3, n0, n1, n2, List.length_cons, List.length_nil, List.nil_append, List.cons_append]
  simp
/-- A drawn term of a name, or none. -/
def optT (s : ByteArray) : Option Int → List S73
  | none => []
  | some n => [⟨s, n⟩]
def TermD (o : Option Int) : Prop := ∀ n, o = some n → n ∈ [1, 1, 2, 3, (-1), (-2), 4]
theorem l8_round {l : List Int} {i : Int} (h : Int) (hi : At l i) (j : Nat) (s : ByteArray) (hj : j < 3) (hs : rdOf ByteArray.empty [sI, sJ, sK] (j : Int) = s) (c : Int) (t : List S73) (ht : t.length ≤ 3) :
    ∃ o i' h', TermD o ∧ At l i' ∧ ∀ r, Ev (fun k => spec_l8Draw.l0 k [sI, sJ, sK] ((j + 1 : Nat) : Int) l i' h' c (t ++ optT s o)) r → Ev (fun k => spec_l8Draw.l0 k [sI, sJ, sK] (j : Int) l i h c t) r := by
  obtain ⟨b, i1, h1, e1, c1⟩ := spec_l1Once_ex h 2 hi (by omega) (by omega)
  have hw : wrap64 ((j : Int) + 1) = ((j + 1 : Nat) : Int) := by rw [w64 (by omega) (by omega)]; omega
  have g1 : (j : Int) < 3 := by omega
  have g2 : (0 : Int) ≤ (j : Int) := by omega
  have g3 : (j : Int) < (([sI, sJ, sK] : List ByteArray).length : Int) := by
    have : ([sI, sJ, sK] : List ByteArray).length = 3 := rfl
    omega
  cases b with
  | false =>
    refine ⟨none, i1, h1, (by intro n hn; cases hn), c1, fun r hr => Ev.step (fun k => by rw [spec_l8Draw.l0]) ?_⟩
    simp only [g1, e1, Option.bind_some, if_true, if_false, Bool.false_eq_true, hw]
    simpa [optT] using hr
  | true =>
    obtain ⟨v, i2, h2, e2, hv, c2⟩ := spec_l1Int_ex h1 [1, 1, 2, 3, (-1), (-2), 4] c1 (by decide) (by decide)
    have g4 : t.length < 5864062014805 := by omega
    refine ⟨some v, i2, h2, (by intro n hn; cases hn; exact hv), c2, fun r hr => Ev.step (fun k => by rw [spec_l8Draw.l0]) ?_⟩
    simp only [g1, g2, g3, g4, e1, e2, Option.bind_some, if_true, hw, hs]
    exact hr
theorem spec_l8Draw_ex {l : List Int} {i : Int} (h : Int) (hi : At l i) : ∃ c o1 o2 o3 i' h', Ev (fun k => spec_l8Draw.f k l i h) (c, optT sI o1 ++ optT sJ o2 ++ optT sK o3, i', h') ∧ -4 ≤ c ∧ c ≤ 8 ∧ TermD o1 ∧ TermD o2 ∧ TermD o3 ∧ At l i' := by
  unfold spec_l8Draw.f
  obtain ⟨a, i1, h1, e1, p1, q1, c1⟩ := spec_l1Below_ex h 13 hi (by omega) (by omega)
  have r1 : wrap64 (a - 4) = a - 4 := w64 (by omega) (by omega)
  have len : ∀ s o, (optT s o).length ≤ 1 := by
    intro s o
    cases o <;> simp [optT]
  obtain ⟨o1, i2, h2, t1, c2, k1⟩ := l8_round h1 c1 0 sI (by omega) rfl (a - 4) [] (by simp)
  obtain ⟨o2, i3, h3, t2, c3, k2⟩ := l8_round h2 c2 1 sJ (by omega) rfl (a - 4) ([] ++ optT sI o1) (by have := len sI o1; simp; omega)
  obtain ⟨o3, i4, h4, t3, c4, k3⟩ := l8_round h3 c3 2 sK (by omega) rfl (a - 4) ([] ++ optT sI o1 ++ optT sJ o2) (by have := len sI o1; have := len sJ o2; simp; omega)
  refine ⟨a - 4, o1, o2, o3, i4, h4, ?_, by omega, by omega, t1, t2, t3, c4⟩
  simp only [e1, Option.bind_some, r1]
  refine k1 _ (k2 _ (k3 _ (Ev.step (fun k => by rw [spec_l8Draw.l0]) ?_)))
  have g : ¬ ((2 + 1 : Nat) : Int) < 3 := by omega
  simp only [g, if_false, List.nil_append]
  exact Ev.now _
theorem optT_size {s : ByteArray} (hs : s.size ≤ 3) (o : Option Int) : (optT s o).length ≤ 1 ∧ ∀ x ∈ optT s o, x.f0.size ≤ 3 := by
  cases o with
  | none => exact ⟨by simp [optT], by simp [optT]⟩
  | some n =>
    refine ⟨by simp [optT], ?_⟩
    intro x hx
    simp only [optT, List.mem_cons, List.not_mem_nil, or_false] at hx
    rw [hx]
    exact hs
theorem drawn_size (o1 o2 o3 : Option Int) : (optT sI o1 ++ optT sJ o2 ++ optT sK o3).length ≤ 3 ∧ ∀ x ∈ optT sI o1 ++ optT sJ o2 ++ optT sK o3, x.f0.size ≤ 3 := by
  obtain ⟨a1, b1⟩ := optT_size (s := sI) (by decide) o1
  obtain ⟨a2, b2⟩ := optT_size (s := sJ) (by decide) o2
  obtain ⟨a3, b3⟩ := optT_size (s := sK) (by decide) o3
  refine ⟨by simp only [List.length_append]; omega, fun x hx => ?_⟩
  simp only [List.mem_append] at hx
  rcases hx with (hx | hx) | hx
  · exact b1 x hx
  · exact b2 x hx
  · exact b3 x hx
/-- What a drawn term may be, or 0. -/
def vO (o : Option Int) : Int := o.getD 0
theorem vO_bd {o : Option Int} (h : TermD o) : -2 ≤ vO o ∧ vO o ≤ 4 := by
  cases o with
  | none => decide
  | some n =>
    have := h n rfl
    simp only [List.mem_cons, List.not_mem_nil, or_false] at this
    simp only [vO, Option.getD_some]
    omega
theorem drawn_ok (o1 o2 o3 : Option Int) (t1 : TermD o1) (t2 : TermD o2) (t3 : TermD o3) (c : Int) (c1 : -4 ≤ c) (c2 : c ≤ 8) :
    affOkS S73.f0 S73.f1 c (optT sI o1 ++ optT sJ o2 ++ optT sK o3) = true := by
  have nI : nameS sI = true := by decide +kernel
  have nJ : nameS sJ = true := by decide +kernel
  have nK : nameS sK = true := by decide +kernel
  have bIJ : Op.bytesLess sI.toList sJ.toList = true := by decide +kernel
  have bIK : Op.bytesLess sI.toList sK.toList = true := by decide +kernel
  have bJK : Op.bytesLess sJ.toList sK.toList = true := by decide +kernel
  have hc : coefOk c = true := by
    simp only [coefOk, Bool.and_eq_true, decide_eq_true_eq]
    omega
  have hk : ∀ n, n ∈ [1, 1, 2, 3, (-1), (-2), (4 : Int)] → decide (n = 0) = false ∧ coefOk n = true := by decide +kernel
  cases o1 with
  | none => cases o2 with
    | none => cases o3 with
      | none => simp only [optT, List.nil_append, List.append_nil, affOkS, affOkL, hc, Bool.and_true]
      | some n3 => simp only [optT, List.nil_append, List.append_nil, affOkS, affOkL, lessO, hc, nK, hk _ (t3 n3 rfl), Bool.and_true, Bool.not_false]
    | some n2 => cases o3 with
      | none => simp only [optT, List.nil_append, List.append_nil, affOkS, affOkL, lessO, hc, nJ, hk _ (t2 n2 rfl), Bool.and_true, Bool.not_false]
      | some n3 => simp only [optT, List.nil_append, List.append_nil, List.cons_append, affOkS, affOkL, lessO, hc, nJ, nK, bJK, hk _ (t2 n2 rfl), hk _ (t3 n3 rfl), Bool.and_true, Bool.not_false]
  | some n1 => cases o2 with
    | none => cases o3 with
      | none => simp only [optT, List.nil_append, List.append_nil, affOkS, affOkL, lessO, hc, nI, hk _ (t1 n1 rfl), Bool.and_true, Bool.not_false]
      | some n3 => simp only [optT, List.nil_append, List.append_nil, List.cons_append, affOkS, affOkL, lessO, hc, nI, nK, bIK, hk _ (t1 n1 rfl), hk _ (t3 n3 rfl), Bool.and_true, Bool.not_false]
    | some n2 => cases o3 with
      | none => simp only [optT, List.nil_append, List.append_nil, List.cons_append, affOkS, affOkL, lessO, hc, nI, nJ, bIJ, hk _ (t1 n1 rfl), hk _ (t2 n2 rfl), Bool.and_true, Bool.not_false]
      | some n3 => simp only [optT, List.nil_append, List.append_nil, List.cons_append, affOkS, affOkL, lessO, hc, nI, nJ, nK, bIJ, bJK, hk _ (t1 n1 rfl), hk _ (t2 n2 rfl), hk _ (t3 n3 rfl), Bool.and_true, Bool.not_false]
theorem box_full {x y z : S33} (px : RngD x sI) (py : RngD y sJ) (pz : RngD z sK) : fullS S33.f0 S33.f1 S33.f2 [x, y, z] = true := by
  obtain ⟨a0, a1, a2, a3, a4⟩ := px
  obtain ⟨b0, b1, b2, b3, b4⟩ := py
  obtain ⟨d0, d1, d2, d3, d4⟩ := pz
  have nI : nameS sI = true := by decide +kernel
  have nJ : nameS sJ = true := by decide +kernel
  have nK : nameS sK = true := by decide +kernel
  have q1 : ¬ sI.toList = sJ.toList := by decide +kernel
  have q2 : ¬ sI.toList = sK.toList := by decide +kernel
  have q3 : ¬ sJ.toList = sK.toList := by decide +kernel
  have hb : ∀ n : Int, -10000 ≤ n → n ≤ 10000 → bndOk n = true := by
    intro n h1 h2
    simp only [bndOk, Bool.and_eq_true, decide_eq_true_eq]
    exact ⟨h1, h2⟩
  have e1 := hb x.f1 (by omega) (by omega)
  have e2 := hb x.f2 (by omega) (by omega)
  have e3 := hb y.f1 (by omega) (by omega)
  have e4 := hb y.f2 (by omega) (by omega)
  have e5 := hb z.f1 (by omega) (by omega)
  have e6 := hb z.f2 (by omega) (by omega)
  have i1 : idxL S33.f0 0 [x, y, z] sI = 0 := by
    simp only [idxL, a0, if_true]
    rfl
  have i2 : idxL S33.f0 0 [x, y, z] sJ = 1 := by
    simp only [idxL, a0, b0, q1, if_true, if_false]
    rfl
  have i3 : idxL S33.f0 0 [x, y, z] sK = 2 := by
    simp only [idxL, a0, b0, d0, q2, q3, if_true, if_false]
    rfl
  simp [fullS, boxOkS, boxOkL, a0, b0, d0, a3, b3, d3, nI, nJ, nK, e1, e2, e3, e4, e5, e6, i1, i2, i3]
theorem small_mul {n i : Int} (h1 : -2 ≤ n) (h2 : n ≤ 4) (h3 : -1 ≤ i) (h4 : i ≤ 7) : -28 ≤ n * i ∧ n * i ≤ 28 := by
  have a : n = -2 ∨ n = -1 ∨ n = 0 ∨ n = 1 ∨ n = 2 ∨ n = 3 ∨ n = 4 := by omega
  rcases a with rfl | rfl | rfl | rfl | rfl | rfl | rfl <;> omega
theorem impl_restOf_ev (c : Int) (l : List S73) (s : ByteArray) (hl : l.length ≤ 100) : Ev (fun k => impl_restOf.f k c l s) (c, l.filter fun x => !decide (x.f0.toList = s.toList)) := by
  unfold impl_restOf.f
  have wd : 100 ≤ maxLen := by decide
  have key : ∀ d i, i + d = l.length → ∀ acc : List S73, acc.length ≤ i → Ev (fun k => impl_restOf.l0 k s l (l.length : Int) (i : Int) c acc) (c, acc ++ (l.drop i).filter fun x => !decide (x.f0.toList = s.toList)) := by
    intro d
    induction d with
    | zero =>
      intro i hi acc ha
      refine Ev.step (fun k => by rw [impl_restOf.l0]) ?_
      have c : ¬ (i : Int) < (l.length : Int) := by omega
      simp only [c, if_false]
      rw [List.drop_eq_nil_of_le (by omega)]
      simp only [List.filter_nil, List.append_nil]
      exact Ev.now _
    | succ d ih =>
      intro i hi acc ha
      refine Ev.step (fun k => by rw [impl_restOf.l0]) ?_
      have c : (i : Int) < (l.length : Int) := by omega
      have c0 : (0 : Int) ≤ (i : Int) := by omega
      have c1 : acc.length < 5864062014805 := by omega
      have hw : wrap64 ((i : Int) + 1) = ((i + 1 : Nat) : Int) := wi (n := l.length) (by omega) (by omega)
      have hd : l.drop i = rd_T73 l (i : Int) :: l.drop (i + 1) := drop_cons l _ (by omega)
      rw [hd]
      simp only [c, c0, c1, if_true, hw]
      by_cases e : (rd_T73 l (i : Int)).f0.toList = s.toList
      · simp only [e, if_true, decide_true, Bool.not_true, Bool.false_eq_true, not_false_eq_true, List.filter_cons_of_neg]
        exact ih (i + 1) (by omega) acc (by omega)
      · simp only [e, if_false, decide_false, Bool.not_false, List.filter_cons_of_pos]
        have := ih (i + 1) (by omega) (acc ++ [⟨(rd_T73 l (i : Int)).f0, (rd_T73 l (i : Int)).f1⟩]) (by simp; omega)
        simpa only [List.append_assoc, List.cons_append, List.nil_append] using this
  have e := key l.length 0 (by omega) [] (by simp)
  rw [List.nil_append, List.drop_zero] at e
  exact e
/-- Two names of a drawn sum other than i. -/
def oth (o2 o3 : Option Int) : List S73 := optT sJ o2 ++ optT sK o3
theorem neI : (¬ sJ.toList = sI.toList) ∧ ¬ sK.toList = sI.toList := by decide +kernel
theorem coef_i (o1 o2 o3 : Option Int) : coefL S73.f0 S73.f1 (optT sI o1 ++ optT sJ o2 ++ optT sK o3) sI = vO o1 := by
  cases o1 <;> cases o2 <;> cases o3 <;> simp [optT, coefL, vO, neI.1, neI.2]
theorem rest_i (o1 o2 o3 : Option Int) : ((optT sI o1 ++ optT sJ o2 ++ optT sK o3).filter fun x => !decide (x.f0.toList = sI.toList)) = oth o2 o3 := by
  cases o1 <;> cases o2 <;> cases o3 <;> simp [optT, oth, neI.1, neI.2]
theorem alone_i (c : Int) (o1 o2 o3 : Option Int) : spec_l11Alone.f c (optT sI o1 ++ optT sJ o2 ++ optT sK o3) sI = some (decide ((oth o2 o3).length = 0)) := by
  cases o1 <;> cases o2 <;> cases o3 <;> simp [spec_l11Alone.f, optT, oth, rd_T73, neI.1, neI.2]
def distV (v w : Int) (rf rg : Nat) (d : Int) : Int × Bool := if v ≠ 0 ∧ v = w ∧ rf = 0 ∧ rg = 0 ∧ Int.tmod d v = 0 then (Int.tdiv d v, true) else (0, false)
theorem tdiv_small {v d : Int} (h0 : v ≠ 0) (h1 : -2 ≤ v) (h2 : v ≤ 4) (h3 : -12 ≤ d) (h4 : d ≤ 12) (h : Int.tmod d v = 0) : ∃ q, d = v * q ∧ Int.tdiv d v = q ∧ -12 ≤ q ∧ q ≤ 12 := by
  obtain ⟨q, rfl⟩ := Int.dvd_of_tmod_eq_zero h
  refine ⟨q, rfl, Int.mul_tdiv_cancel_left q h0, ?_, ?_⟩
  · have a : v = -2 ∨ v = -1 ∨ v = 1 ∨ v = 2 ∨ v = 3 ∨ v = 4 := by omega
    rcases a with rfl | rfl | rfl | rfl | rfl | rfl <;> omega
  · have a : v = -2 ∨ v = -1 ∨ v = 1 ∨ v = 2 ∨ v = 3 ∨ v = 4 := by omega
    rcases a with rfl | rfl | rfl | rfl | rfl | rfl <;> omega
set_option linter.unusedSectionVars false
section
variable {o1 o2 o3 p1 p2 p3 : Option Int} (t1 : TermD o1) (t2 : TermD o2) (t3 : TermD o3) (u1 : TermD p1) (u2 : TermD p2) (u3 : TermD p3) {c c' : Int} (c1 : -4 ≤ c) (c2 : c ≤ 8) (d1 : -4 ≤ c') (d2 : c' ≤ 8)
include t1 t2 t3 u1 u2 u3 c1 c2 d1 d2
theorem impl_dist : Ev (fun k => impl_DistOf.f k c (optT sI o1 ++ optT sJ o2 ++ optT sK o3) c' (optT sI p1 ++ optT sJ p2 ++ optT sK p3) sI) (distV (vO o1) (vO p1) (oth o2 o3).length (oth p2 p3).length (c - c')) := by
  have s1 := (drawn_size o1 o2 o3).1
  have s2 := (drawn_size p1 p2 p3).1
  have wd : 4 ≤ maxLen := by decide
  have e1 := impl_CoefOf_ev c _ sI (show (optT sI o1 ++ optT sJ o2 ++ optT sK o3).length ≤ maxLen by omega)
  have e2 := impl_CoefOf_ev c' _ sI (show (optT sI p1 ++ optT sJ p2 ++ optT sK p3).length ≤ maxLen by omega)
  have e3 := impl_restOf_ev c _ sI (show (optT sI o1 ++ optT sJ o2 ++ optT sK o3).length ≤ 100 by omega)
  have e4 := impl_restOf_ev c' _ sI (show (optT sI p1 ++ optT sJ p2 ++ optT sK p3).length ≤ 100 by omega)
  rw [coef_i] at e1 e2
  rw [rest_i] at e3 e4
  have bad : ∀ v, Ev (fun k => impl_DistOf.j0 k v true c (optT sI o1 ++ optT sJ o2 ++ optT sK o3) c' (optT sI p1 ++ optT sJ p2 ++ optT sK p3)) (0, false) := by
    intro v
    refine Ev.step (fun k => by rw [impl_DistOf.j0]) ?_
    simp only [if_true]
    exact Ev.now _
  have bv := vO_bd t1
  have hw : wrap64 (c - c') = c - c' := w64 (by omega) (by omega)
  unfold impl_DistOf.f
  refine Ev.then e1 ?_
  by_cases h0 : vO o1 = 0
  · simp only [h0, if_true]
    rw [show distV 0 (vO p1) (oth o2 o3).length (oth p2 p3).length (c - c') = (0, false) by simp [distV]]
    exact bad 0
  · simp only [h0, if_false]
    refine Ev.then e2 ?_
    by_cases h1 : vO o1 = vO p1
    · simp only [h1, if_true]
      refine Ev.then e3 ?_
      by_cases h2 : (oth o2 o3).length = 0
      · have h2' : ¬ ((oth o2 o3).length : Int) > 0 := by omega
        simp only [h2', if_false]
        refine Ev.then e4 ?_
        by_cases h3 : (oth p2 p3).length = 0
        · have h3' : ¬ ((oth p2 p3).length : Int) > 0 := by omega
          simp only [h3', decide_false]
          rw [h1] at h0
          refine Ev.step (fun k => by rw [impl_DistOf.j0]) ?_
          simp only [Bool.false_eq_true, if_false, h0, hw]
          by_cases h4 : Int.tmod (c - c') (vO p1) = 0
          · simp only [h4, if_true]
            rw [h1] at bv
            obtain ⟨q, _, q1, q2, q3⟩ := tdiv_small h0 bv.1 bv.2 (by omega) (by omega) h4
            rw [show distV (vO p1) (vO p1) (oth o2 o3).length (oth p2 p3).length (c - c') = (Int.tdiv (c - c') (vO p1), true) by simp [distV, h0, h2, h3, h4]]
            rw [show wrap64 (Int.tdiv (c - c') (vO p1)) = Int.tdiv (c - c') (vO p1) from w64 (by omega) (by omega)]
            exact Ev.now _
          · simp only [h4, if_false]
            rw [show distV (vO p1) (vO p1) (oth o2 o3).length (oth p2 p3).length (c - c') = (0, false) by simp [distV, h4]]
            exact Ev.now _
        · have h3' : ((oth p2 p3).length : Int) > 0 := by omega
          simp only [h3', decide_true]
          rw [show distV (vO p1) (vO p1) (oth o2 o3).length (oth p2 p3).length (c - c') = (0, false) by simp only [distV, h3, false_and, and_false, if_false]]
          exact bad _
      · have h2' : ((oth o2 o3).length : Int) > 0 := by omega
        simp only [h2', if_true]
        rw [show distV (vO p1) (vO p1) (oth o2 o3).length (oth p2 p3).length (c - c') = (0, false) by simp only [distV, h2, false_and, and_false, if_false]]
        exact bad _
    · simp only [h1, if_false]
      rw [show distV (vO o1) (vO p1) (oth o2 o3).length (oth p2 p3).length (c - c') = (0, false) by simp only [distV, h1, false_and, and_false, if_false]]
      exact bad _
theorem spec_dist : Ev (fun k => spec_DistOf.f k c (optT sI o1 ++ optT sJ o2 ++ optT sK o3) c' (optT sI p1 ++ optT sJ p2 ++ optT sK p3) sI) (distV (vO o1) (vO p1) (oth o2 o3).length (oth p2 p3).length (c - c')) := by
  have s1 := drawn_size o1 o2 o3
  have s2 := drawn_size p1 p2 p3
  have wd : 4 ≤ maxLen := by decide
  have e1 := spec_CoefOf_ev c _ sI (show (optT sI o1 ++ optT sJ o2 ++ optT sK o3).length ≤ maxLen by omega)
  have e2 := spec_CoefOf_ev c' _ sI (show (optT sI p1 ++ optT sJ p2 ++ optT sK p3).length ≤ maxLen by omega)
  have e3 := spec_AffOk_ev c (optT sI o1 ++ optT sJ o2 ++ optT sK o3) (by omega) (fun x hx => by have := s1.2 x hx; omega)
  have e4 := spec_AffOk_ev c' (optT sI p1 ++ optT sJ p2 ++ optT sK p3) (by omega) (fun x hx => by have := s2.2 x hx; omega)
  rw [coef_i] at e1 e2
  rw [drawn_ok o1 o2 o3 t1 t2 t3 c c1 c2] at e3
  rw [drawn_ok p1 p2 p3 u1 u2 u3 c' d1 d2] at e4
  have bv := vO_bd t1
  have hw : wrap64 (c - c') = c - c' := w64 (by omega) (by omega)
  have like : Ev (fun k => spec_l11Like.f k c (optT sI o1 ++ optT sJ o2 ++ optT sK o3) c' (optT sI p1 ++ optT sJ p2 ++ optT sK p3) sI) (decide (vO o1 ≠ 0 ∧ vO o1 = vO p1 ∧ (oth o2 o3).length = 0 ∧ (oth p2 p3).length = 0)) := by
    unfold spec_l11Like.f
    refine Ev.then e1 (Ev.then e3 ?_)
    simp only [if_true]
    refine Ev.then e4 ?_
    simp only [if_true, alone_i, Option.bind_some, decide_eq_true_eq]
    by_cases h2 : (oth o2 o3).length = 0
    · simp only [h2, if_true]
      by_cases h3 : (oth p2 p3).length = 0
      · simp only [h3, if_true]
        by_cases h0 : vO o1 = 0
        · simp only [h0, if_true, ne_eq, not_true_eq_false, false_and, decide_false]
          exact Ev.now _
        · simp only [h0, if_false]
          refine Ev.then e2 ?_
          have : (vO p1 == vO o1) = decide (vO o1 ≠ 0 ∧ vO o1 = vO p1 ∧ True ∧ True) := by
            by_cases h1 : vO o1 = vO p1
            · rw [h1] at h0
              simp [h1, h0]
            · have h1' : ¬ vO p1 = vO o1 := fun h => h1 h.symm
              simp [h1, h1']
          rw [this]
          exact Ev.now _
      · simp only [h3, if_false, and_false, decide_false]
        exact Ev.now _
    · simp only [h2, if_false, false_and, and_false, decide_false]
      exact Ev.now _
  unfold spec_DistOf.f
  refine Ev.then like ?_
  by_cases hh : vO o1 ≠ 0 ∧ vO o1 = vO p1 ∧ (oth o2 o3).length = 0 ∧ (oth p2 p3).length = 0
  · obtain ⟨h0, h1, h2, h3⟩ := hh
    simp only [h2, h3, ← h1, ne_eq, h0, not_false_eq_true, true_and, decide_true, if_true]
    refine Ev.then e1 ?_
    simp only [h0, if_false, hw]
    by_cases h4 : Int.tmod (c - c') (vO o1) = 0
    · simp only [h4, if_true]
      refine Ev.then e1 ?_
      obtain ⟨q, _, q1, q2, q3⟩ := tdiv_small h0 bv.1 bv.2 (by omega) (by omega) h4
      rw [show distV (vO o1) (vO o1) 0 0 (c - c') = (Int.tdiv (c - c') (vO o1), true) by simp [distV, h0, h4]]
      rw [show wrap64 (Int.tdiv (c - c') (vO o1)) = Int.tdiv (c - c') (vO o1) from w64 (by omega) (by omega)]
      simp only [h0, if_false]
      exact Ev.now _
    · simp only [h4, if_false]
      rw [show distV (vO o1) (vO o1) 0 0 (c - c') = (0, false) by simp [distV, h4]]
      exact Ev.now _
  · have e : distV (vO o1) (vO p1) (oth o2 o3).length (oth p2 p3).length (c - c') = (0, false) := by
      unfold distV
      rw [if_neg]
      exact fun h => hh ⟨h.1, h.2.1, h.2.2.1, h.2.2.2.1⟩
    rw [e]
    simp only [hh, decide_false, Bool.false_eq_true, if_false]
    exact Ev.now _
end
theorem values_i {x y z : S33} (px : RngD x sI) (py : RngD y sJ) (pz : RngD z sK) {v c : Int} (h1 : -2 ≤ v) (h2 : v ≤ 4) (c1 : -4 ≤ c) (c2 : c ≤ 8) (i : Int) (i1 : x.f1 ≤ i) (i2 : i ≤ x.f2) :
    Ev (fun k => impl_valuesOf.f k c [⟨sI, v⟩] sI i [x, y, z]) [c + v * i] := by
  have ax := px.2
  have m1 := small_mul h1 h2 (i := i) (by omega) (by omega)
  have wd : 4 ≤ maxLen := by decide
  have e := impl_AffAt_ev c [⟨sI, v⟩] [⟨sI, i⟩] (by simp only [List.length_cons, List.length_nil]; omega) (by simp only [List.length_cons, List.length_nil]; omega)
  have f1 : affAtL S73.f0 S73.f1 S36.f0 S36.f1 [⟨sI, i⟩] [⟨sI, v⟩] c = c + v * i := by
    simp only [affAtL, boundS, lastR, List.reverse_cons, List.reverse_nil, List.nil_append, if_true]
    rw [w64 (x := v * i) (by omega) (by omega), w64 (by omega) (by omega)]
  rw [f1] at e
  have cf := fun s => impl_CoefOf_ev c [⟨sI, v⟩] s (show ([⟨sI, v⟩] : List S73).length ≤ maxLen by simp only [List.length_cons, List.length_nil]; omega)
  have q1 : ¬ sI.toList = sJ.toList := fun h => neI.1 h.symm
  have q2 : ¬ sI.toList = sK.toList := fun h => neI.2 h.symm
  have ki := cf sI
  have kj := cf sJ
  have kk := cf sK
  simp only [coefL, if_true, q1, q2, if_false] at ki kj kk
  have w1 : wrap64 ((0 : Int) + 1) = 1 := w64 (by omega) (by omega)
  have w2 : wrap64 ((1 : Int) + 1) = 2 := w64 (by omega) (by omega)
  have w3 : wrap64 ((2 : Int) + 1) = 3 := w64 (by omega) (by omega)
  have r0 : rd_T33 [x, y, z] 0 = x := rfl
  have r1 : rd_T33 [x, y, z] 1 = y := rfl
  have r2 : rd_T33 [x, y, z] 2 = z := rfl
  have ln : (([x, y, z] : List S33).length : Int) = 3 := rfl
  have g0 : (0 : Int) < 3 := by omega
  have g1 : (1 : Int) < 3 := by omega
  have g2 : (2 : Int) < 3 := by omega
  have g3 : ¬ (3 : Int) < 3 := by omega
  have l0 : (0 : Int) ≤ 0 := by omega
  have l1 : (0 : Int) ≤ 1 := by omega
  have l2 : (0 : Int) ≤ 2 := by omega
  unfold impl_valuesOf.f
  refine Ev.then e ?_
  refine Ev.step (fun k => by rw [impl_valuesOf.l0]) ?_
  simp only [ln, g0, l0, r0, if_true, px.1]
  refine Ev.then ki (Ev.step (fun k => by rw [impl_valuesOf.j1]) ?_)
  simp only [if_true, w1]
  refine Ev.step (fun k => by rw [impl_valuesOf.l0]) ?_
  simp only [ln, g1, l1, r1, if_true, py.1, neI.1, if_false]
  refine Ev.then kj (Ev.step (fun k => by rw [impl_valuesOf.j1]) ?_)
  simp only [beq_self_eq_true, if_true, w2]
  refine Ev.step (fun k => by rw [impl_valuesOf.l0]) ?_
  simp only [ln, g2, l2, r2, if_true, pz.1, neI.2, if_false]
  refine Ev.then kk (Ev.step (fun k => by rw [impl_valuesOf.j1]) ?_)
  simp only [beq_self_eq_true, if_true, w3]
  refine Ev.step (fun k => by rw [impl_valuesOf.l0]) ?_
  simp only [ln, g3, if_false]
  exact Ev.now _
theorem box_rounds {x y z : S33} (px : RngD x sI) (py : RngD y sJ) (pz : RngD z sK) : 1 ≤ rndS S33.f0 S33.f1 S33.f2 [x, y, z] ∧ rndS S33.f0 S33.f1 S33.f2 [x, y, z] ≤ 600 := by
  have ax := px.2
  have ay := py.2
  have az := pz.2
  obtain ⟨nx, hnx⟩ : ∃ n : Nat, x.f1 + n = x.f2 + 1 := ⟨(x.f2 + 1 - x.f1).toNat, by omega⟩
  obtain ⟨ny, hny⟩ : ∃ n : Nat, y.f1 + n = y.f2 + 1 := ⟨(y.f2 + 1 - y.f1).toNat, by omega⟩
  obtain ⟨nz, hnz⟩ : ∃ n : Nat, z.f1 + n = z.f2 + 1 := ⟨(z.f2 + 1 - z.f1).toNat, by omega⟩
  have v1 : nx * ny ≤ 5 * 5 := Nat.mul_le_mul (by omega) (by omega)
  have v2 : nx * ny * nz ≤ 25 * 5 := Nat.mul_le_mul v1 (by omega)
  have v3 : 1 * 1 ≤ nx * ny := Nat.mul_le_mul (by omega) (by omega)
  have v4 : 1 * 1 ≤ nx * ny * nz := Nat.mul_le_mul v3 (by omega)
  have w1 : x.f2 - x.f1 + 1 = (nx : Int) := by omega
  have w2 : y.f2 - y.f1 + 1 = (ny : Int) := by omega
  have w3 : z.f2 - z.f1 + 1 = (nz : Int) := by omega
  have mnl : ∀ a : Int, a ≤ 1000 → mn a 1000000 = a := by
    intro a ha
    unfold mn
    split <;> omega
  unfold rndS
  rw [box_full px py pz]
  simp only [if_true, rndL, w1, w2, w3, Int.one_mul]
  rw [mnl (nx : Int) (by omega), ← Int.natCast_mul, mnl ((nx * ny : Nat) : Int) (by omega), ← Int.natCast_mul, mnl ((nx * ny * nz : Nat) : Int) (by omega)]
  omega
theorem wf_small {n : Int} (h1 : -1000 ≤ n) (h2 : n ≤ 1000) : (Lit.int .i64 n).wf = true := by
  simp [Lit.wf, IntKind.min, IntKind.max, IntKind.bits, IntKind.signed]
  omega
theorem meet_i {x y z : S33} (px : RngD x sI) (py : RngD y sJ) (pz : RngD z sK) {v c c' q : Int} (hv : v ∈ [1, 1, 2, 3, (-1), (-2), (4 : Int)]) (c1 : -4 ≤ c) (c2 : c ≤ 8) (d1 : -4 ≤ c') (d2 : c' ≤ 8) (hq : c - c' = v * q) (i k : Int) (i1 : x.f1 ≤ i) (i2 : i ≤ x.f2) (k1 : x.f1 ≤ k) (k2 : k ≤ x.f2) :
    Ev (fun n => impl_MeetAt.f n c [⟨sI, v⟩] c' [⟨sI, v⟩] sI i k [x, y, z]) (k - i == q) := by
  have tv : TermD (some v) := by intro n hn; cases hn; exact hv
  have tn : TermD none := by intro n hn; cases hn
  have bv := vO_bd tv
  simp only [vO, Option.getD_some] at bv
  have wd : 4 ≤ maxLen := by decide
  have M1 : ([x, y, z] : List S33).length ≤ maxLen := by simp only [List.length_cons, List.length_nil]; omega
  have z1 : sI.size = 1 := rfl
  have z2 : sJ.size = 1 := rfl
  have z3 : sK.size = 1 := rfl
  have M2 : ∀ u ∈ [x, y, z], u.f0.size ≤ maxLen := by
    intro u hu
    simp only [List.mem_cons, List.not_mem_nil, or_false] at hu
    rcases hu with rfl | rfl | rfl
    · rw [px.1]; omega
    · rw [py.1]; omega
    · rw [pz.1]; omega
  have rv := impl_Rounds_ev [x, y, z] M1 M2
  have br := box_rounds px py pz
  have tl : ([⟨sI, v⟩] : List S73).length ≤ maxLen := by simp only [List.length_cons, List.length_nil]; omega
  have ts : ∀ u ∈ ([⟨sI, v⟩] : List S73), u.f0.size ≤ maxLen := by
    intro u hu
    simp only [List.mem_cons, List.not_mem_nil, or_false] at hu
    rw [hu]
    simp only
    omega
  have ok : ∀ c, -4 ≤ c → c ≤ 8 → affOkS S73.f0 S73.f1 c [⟨sI, v⟩] = true := fun c h1 h2 => drawn_ok (some v) none none tv tn tn c h1 h2
  have a1 := impl_AffOk_ev c [⟨sI, v⟩] tl ts
  have a2 := impl_AffOk_ev c' [⟨sI, v⟩] tl ts
  rw [ok c c1 c2] at a1
  rw [ok c' d1 d2] at a2
  have ax := px.2
  have m1 := small_mul bv.1 bv.2 (i := i) (by omega) (by omega)
  have m2 := small_mul bv.1 bv.2 (i := k) (by omega) (by omega)
  unfold impl_MeetAt.f
  refine Ev.then rv ?_
  have g : (decide (1 ≤ rndS S33.f0 S33.f1 S33.f2 [x, y, z]) && decide (rndS S33.f0 S33.f1 S33.f2 [x, y, z] ≤ 600)) = true := by
    simp only [Bool.and_eq_true, decide_eq_true_eq]
    exact br
  simp only [g, if_true]
  refine Ev.then a1 ?_
  simp only [if_true]
  refine Ev.then a2 ?_
  simp only [if_true]
  refine Ev.then (values_i px py pz bv.1 bv.2 c1 c2 i i1 i2) (Ev.then (values_i px py pz bv.1 bv.2 d1 d2 k k1 k2) ?_)
  have h1 := wf_small (n := c + v * i) (by omega) (by omega)
  have h2 := wf_small (n := c' + v * k) (by omega) (by omega)
  have e : ((c' + v * k) == (c + v * i)) = (k - i == q) := by
    rw [Bool.eq_iff_iff, beq_iff_eq, beq_iff_eq]
    have a : v = -2 ∨ v = -1 ∨ v = 1 ∨ v = 2 ∨ v = 3 ∨ v = 4 := by
      simp only [List.mem_cons, List.not_mem_nil, or_false] at hv
      omega
    rcases a with rfl | rfl | rfl | rfl | rfl | rfl <;> omega
  have f : (impl_MeetAt.wfs [c + v * i] && impl_MeetAt.wfs [c' + v * k] && decide (([c + v * i] : List Int).length ≤ 140737488351232) && decide (([c' + v * k] : List Int).length ≤ 140737488351232)) = true := by
    simp [impl_MeetAt.wfs, h1, h2]
  simp only [f, if_true]
  have g2 : (([c' + v * k] : List Int).any fun y => ([c + v * i] : List Int).contains y) = (k - i == q) := by
    rw [← e]
    simp
    rfl
  rw [g2]
  exact Ev.now _
/-- A drawn sum. -/
def SumD (c : Int) (t : List S73) : Prop := ∃ o1 o2 o3, t = optT sI o1 ++ optT sJ o2 ++ optT sK o3 ∧ -4 ≤ c ∧ c ≤ 8 ∧ TermD o1 ∧ TermD o2 ∧ TermD o3
theorem spec_l8One_ex {l : List Int} {i : Int} (h : Int) (hi : At l i) : ∃ c t i' h', spec_l8One.f l i h = some (c, t, i', h') ∧ SumD c t ∧ At l i' := by
  unfold spec_l8One.f
  obtain ⟨a, i1, h1, e1, p1, q1, c1⟩ := spec_l1Below_ex h 13 hi (by omega) (by omega)
  obtain ⟨v, i2, h2, e2, hv, c2⟩ := spec_l1Int_ex h1 [1, 1, 1, 2, 2, 3, (-1), 0] c1 (by decide) (by decide)
  have r1 : wrap64 (a - 4) = a - 4 := w64 (by omega) (by omega)
  have tn : TermD none := by intro n hn; cases hn
  by_cases h0 : v = 0
  · refine ⟨a - 4, [], i2, h2, ?_, ⟨none, none, none, rfl, by omega, by omega, tn, tn, tn⟩, c2⟩
    simp only [e1, e2, Option.bind_some, h0, if_true, r1]
  · refine ⟨a - 4, [⟨sI, v⟩], i2, h2, ?_, ⟨some v, none, none, rfl, by omega, by omega, ?_, tn, tn⟩, c2⟩
    · simp only [e1, e2, Option.bind_some, h0, if_false, r1, List.length_nil, show (0 : Nat) < 5864062014805 by omega, if_true, List.nil_append]
    · intro n hn
      cases hn
      simp only [List.mem_cons, List.not_mem_nil, or_false] at hv ⊢
      omega
theorem spec_DrawMeets_ex (l : List Int) (hl : l.length ≤ maxLen) : ∃ c t c' t' x y z, Ev (fun k => spec_DrawMeets.f k l) (c, t, c', t', [x, y, z]) ∧ SumD c t ∧ SumD c' t' ∧ RngD x sI ∧ RngD y sJ ∧ RngD z sK := by
  obtain ⟨h, e0⟩ := spec_l1New_ev l hl
  have h0 : At l 0 := ⟨hl, by omega, by omega⟩
  obtain ⟨c, t, i1, h1, e1, s1, c1⟩ := spec_l8One_ex h h0
  obtain ⟨c', t', i2, h2, e2, s2, c2⟩ := spec_l8One_ex h1 c1
  obtain ⟨b, i3, h3, e3, c3⟩ := spec_l1Once_ex h2 2 c2 (by omega) (by omega)
  have J : ∀ (i h a : Int) (s : List S73), At l i → SumD a s → ∃ a' s' x y z, Ev (fun k => spec_DrawMeets.j0 k l i h a s c' t') (a, s, a', s', [x, y, z]) ∧ SumD a' s' ∧ RngD x sI ∧ RngD y sJ ∧ RngD z sK := by
    intro i h a s hi hs
    obtain ⟨b, j1, g1, f1, k1⟩ := spec_l1Once_ex h 3 hi (by omega) (by omega)
    cases b with
    | true =>
      obtain ⟨u, o1, o2, o3, j2, g2, f2, u1, u2, r1, r2, r3, k2⟩ := spec_l8Draw_ex g1 k1
      obtain ⟨x, y, z, j3, g3, f3, px, py, pz, _⟩ := spec_l9Draw_ex g2 k2
      refine ⟨u, _, x, y, z, Ev.step (fun k => by rw [spec_DrawMeets.j0]) ?_, ⟨o1, o2, o3, rfl, u1, u2, r1, r2, r3⟩, px, py, pz⟩
      simp only [f1, Option.bind_some, if_true]
      exact Ev.then f2 (Ev.then f3 (Ev.now _))
    | false =>
      obtain ⟨x, y, z, j3, g3, f3, px, py, pz, _⟩ := spec_l9Draw_ex g1 k1
      refine ⟨c', t', x, y, z, Ev.step (fun k => by rw [spec_DrawMeets.j0]) ?_, s2, px, py, pz⟩
      simp only [f1, Option.bind_some, Bool.false_eq_true, if_false]
      exact Ev.then f3 (Ev.now _)
  unfold spec_DrawMeets.f
  cases b with
  | true =>
    obtain ⟨u, o1, o2, o3, j2, g2, f2, u1, u2, r1, r2, r3, k2⟩ := spec_l8Draw_ex h3 c3
    obtain ⟨a', s', x, y, z, E, w1, px, py, pz⟩ := J j2 g2 u _ k2 ⟨o1, o2, o3, rfl, u1, u2, r1, r2, r3⟩
    refine ⟨u, _, a', s', x, y, z, Ev.then e0 ?_, ⟨o1, o2, o3, rfl, u1, u2, r1, r2, r3⟩, w1, px, py, pz⟩
    simp only [e1, e2, e3, Option.bind_some, if_true]
    exact Ev.then f2 E
  | false =>
    obtain ⟨a', s', x, y, z, E, w1, px, py, pz⟩ := J i3 h3 c t c3 s1
    refine ⟨c, t, a', s', x, y, z, Ev.then e0 ?_, s1, w1, px, py, pz⟩
    simp only [e1, e2, e3, Option.bind_some, Bool.false_eq_true, if_false]
    exact E
theorem oth_nil {o2 o3 : Option Int} (h : (oth o2 o3).length = 0) : o2 = none ∧ o3 = none := by
  cases o2 <;> cases o3 <;> simp [oth, optT] at h ⊢
theorem FnDists : laws_FnDists.Pure := by
  intro l hl _ _
  apply Ev.rounds
  unfold laws_FnDists.f laws_big.f
  by_cases big : (l.length : Int) > 1048576
  · simp only [Option.bind_some, big, decide_true, if_true]
    exact Ev.now _
  simp only [Option.bind_some, big, decide_false, Bool.false_eq_true, if_false]
  obtain ⟨c, t, c', t', x, y, z, D, ⟨o1, o2, o3, rfl, c1, c2, t1, t2, t3⟩, ⟨p1, p2, p3, rfl, d1, d2, u1, u2, u3⟩, px, py, pz⟩ := spec_DrawMeets_ex l hl
  have I := impl_dist t1 t2 t3 u1 u2 u3 c1 c2 d1 d2
  have S := spec_dist t1 t2 t3 u1 u2 u3 c1 c2 d1 d2
  have S1 : Ev (fun k => laws_distOf.f k c (optT sI o1 ++ optT sJ o2 ++ optT sK o3) c' (optT sI p1 ++ optT sJ p2 ++ optT sK p3)) (distV (vO o1) (vO p1) (oth o2 o3).length (oth p2 p3).length (c - c')).1 := by
    unfold laws_distOf.f
    exact Ev.then S (Ev.now _)
  have S2 : Ev (fun k => laws_hasDist.f k c (optT sI o1 ++ optT sJ o2 ++ optT sK o3) c' (optT sI p1 ++ optT sJ p2 ++ optT sK p3)) (distV (vO o1) (vO p1) (oth o2 o3).length (oth p2 p3).length (c - c')).2 := by
    unfold laws_hasDist.f
    exact Ev.then S (Ev.now _)
  refine Ev.then D (Ev.then I (Ev.then S1 ?_))
  simp only [if_true]
  refine Ev.then S2 ?_
  simp only [bne_self_eq_false]
  refine Ev.step (fun q => by rw [laws_FnDists.j0]) ?_
  have g0 : (0 : Int) < (([x, y, z] : List S33).length : Int) := by simp only [List.length_cons, List.length_nil]; omega
  have r0 : rd_T33 [x, y, z] 0 = x := rfl
  simp only [Bool.false_eq_true, if_false, g0, if_true, r0]
  have ax := px.2
  unfold distV
  by_cases hh : vO o1 ≠ 0 ∧ vO o1 = vO p1 ∧ (oth o2 o3).length = 0 ∧ (oth p2 p3).length = 0 ∧ Int.tmod (c - c') (vO o1) = 0
  · rw [if_pos hh]
    obtain ⟨h0, h1, h2, h3, h4⟩ := hh
    obtain ⟨rfl, rfl⟩ := oth_nil h2
    obtain ⟨rfl, rfl⟩ := oth_nil h3
    have bv := vO_bd t1
    obtain ⟨q, hq, hq2, q1, q2⟩ := tdiv_small h0 bv.1 bv.2 (by omega) (by omega) h4
    rw [hq2]
    obtain ⟨v, rfl⟩ : ∃ v, o1 = some v := by
      cases o1 with
      | none => exact absurd rfl h0
      | some v => exact ⟨v, rfl⟩
    obtain ⟨w, rfl⟩ : ∃ w, p1 = some w := by
      cases p1 with
      | none => exact absurd h1 h0
      | some w => exact ⟨w, rfl⟩
    simp only [vO, Option.getD_some] at h0 h1 hq bv
    subst h1
    have hv := t1 v rfl
    simp only [optT, List.append_nil]
    have L1 : ∀ (i : Int), x.f1 ≤ i → i ≤ x.f2 → Ev (fun n => laws_FnDists.l0 n [x, y, z] q true (i + 1) c [⟨sI, v⟩] c' [⟨sI, v⟩]) true → ∀ (d : Nat) (k : Int), k + d = x.f2 + 1 → x.f1 ≤ k → Ev (fun n => laws_FnDists.l1 n [x, y, z] q true i k c [⟨sI, v⟩] c' [⟨sI, v⟩]) true := by
      intro i i1 i2 H d
      induction d with
      | zero =>
        intro k hk _
        refine Ev.step (fun n => by rw [laws_FnDists.l1]) ?_
        have cx : ¬ k ≤ x.f2 := by omega
        have hw : wrap64 (i + 1) = i + 1 := w64 (by omega) (by omega)
        simp only [g0, r0, cx, if_true, if_false, hw]
        exact H
      | succ d ih =>
        intro k hk k1
        refine Ev.step (fun n => by rw [laws_FnDists.l1]) ?_
        have cx : k ≤ x.f2 := by omega
        have hw : wrap64 (k + 1) = k + 1 := w64 (by omega) (by omega)
        have hw2 : wrap64 (k - i) = k - i := w64 (by omega) (by omega)
        simp only [g0, r0, cx, if_true, hw, hw2]
        refine Ev.then (meet_i px py pz hv c1 c2 d1 d2 hq i k i1 i2 k1 cx) ?_
        simp only [bne_self_eq_false, Bool.false_eq_true, if_false]
        exact ih (k + 1) (by omega) (by omega)
    have L0 : ∀ (d : Nat) (i : Int), i + d = x.f2 + 1 → x.f1 ≤ i → Ev (fun n => laws_FnDists.l0 n [x, y, z] q true i c [⟨sI, v⟩] c' [⟨sI, v⟩]) true := by
      intro d
      induction d with
      | zero =>
        intro i hi _
        refine Ev.step (fun n => by rw [laws_FnDists.l0]) ?_
        have cx : ¬ i ≤ x.f2 := by omega
        simp only [g0, r0, cx, if_true, if_false]
        refine Ev.step (fun n => by rw [laws_FnDists.j2]) ?_
        simp only [Bool.false_eq_true, if_true, if_false]
        exact Ev.now _
      | succ d ih =>
        intro i hi i1
        refine Ev.step (fun n => by rw [laws_FnDists.l0]) ?_
        have cx : i ≤ x.f2 := by omega
        simp only [g0, r0, cx, if_true]
        refine Ev.step (fun n => by rw [laws_FnDists.j2]) ?_
        simp only [g0, r0, if_true]
        exact L1 i i1 cx (ih (i + 1) (by omega) (by omega)) (x.f2 + 1 - x.f1).toNat x.f1 (by omega) (Int.le_refl _)
    exact L0 (x.f2 + 1 - x.f1).toNat x.f1 (by omega) (Int.le_refl _)
  · rw [if_neg hh]
    refine Ev.step (fun n => by rw [laws_FnDists.l0]) ?_
    have cx : x.f1 ≤ x.f2 := ax.2.2.1
    simp only [g0, r0, cx, if_true]
    refine Ev.step (fun n => by rw [laws_FnDists.j2]) ?_
    simp only [Bool.false_eq_true, if_false, beq_self_eq_true]
    exact Ev.now _

end Go.Proofs.Ytelklalagebdgaa.Pure
