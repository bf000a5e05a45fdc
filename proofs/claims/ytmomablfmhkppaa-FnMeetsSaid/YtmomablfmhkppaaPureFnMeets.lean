/- The pure statement of FnMeets: what the printed functions compute makes the law answer true. Conditions: those in the statement. -/
import Derived.Test.YtmomablfmhkppaaVFnMeets
import Derived.Test.YtmomablfmhkppaaPFnMeetsx0
import Derived.Test.YtmomablfmhkppaaPFnMeetsx1
import Derived.Test.YtmomablfmhkppaaPFnMeetsx2
import Derived.Test.YtmomablfmhkppaaPFnMeetsx3
import Derived.Test.YtmomablfmhkppaaPFnMeetsx4
import Derived.Test.YtmomablfmhkppaaPFnMeetsx5
import Derived.Test.YtmomablfmhkppaaPFnMeetsx6
import Derived.Test.YtmomablfmhkppaaPFnMeetsx7
import Derived.Test.YtmomablfmhkppaaPFnMeetsx8
import Derived.Test.YtmomablfmhkppaaPFnMeetsx9
import Derived.Test.YtmomablfmhkppaaPFnMeetsx10
import Derived.Test.YtmomablfmhkppaaPFnMeetsx11
import Derived.Test.YtmomablfmhkppaaPFnMeetsx12
import Derived.Test.YtmomablfmhkppaaPFnMeetsx13
namespace Go.Proofs.Ytmomablfmhkppaa.Pure
open Go.RowKit Go.Proofs.Ytmomablfmhkppaa.PFnMeets Go.Proofs.YtmomablfmhkppaaW.PrintWords Go.Proofs.YtmomablfmhkppaaW.PrintLast Go.Proofs.YtmomablfmhkppaaW.PrintMore Go.Proofs.Ytmomablfmhkppaa.Lem
set_option linter.unusedVariables false
set_option linter.unusedSimpArgs false

theorem spec_l1In_eq (a b c : Int) : spec_l1In.f a b c = some (decide (b ≤ a) && decide (a ≤ c)) := by
  unfold spec_l1In.f
  by_cases h : a ≥ b
  · have h' : b ≤ a := h
    simp [h']
  · have h' : ¬ b ≤ a := h
    simp [h']
theorem impl_inRange_eq (a b c : Int) : impl_inRange.f a b c = some (decide (b ≤ a) && decide (a ≤ c)) := by
  unfold impl_inRange.f
  by_cases h : a ≥ b
  · have h' : b ≤ a := h
    simp [h']
  · have h' : ¬ b ≤ a := h
    simp [h']
theorem impl_isLetter_eq (a : Int) : impl_isLetter.f a = some (decide (97 ≤ a) && decide (a ≤ 122)) := by
  unfold impl_isLetter.f
  by_cases h : a ≥ 97
  · have h' : 97 ≤ a := h
    simp [h']
  · have h' : ¬ 97 ≤ a := h
    simp [h']
theorem spec_l2Small_eq (a : Int) (h0 : 0 ≤ a) (h1 : a ≤ 255) : spec_l2Small.f a = some (decide (97 ≤ a) && decide (a ≤ 122)) := by
  unfold spec_l2Small.f
  rw [w64 (by omega) (by omega), spec_l1In_eq]
  rfl
theorem spec_l2Has_ev (xs : List ByteArray) (s : ByteArray) (hn : xs.length ≤ maxLen) : Ev (fun k => spec_l2Has.f k xs s) (xs.any fun x => x.toList == s.toList) := by
  unfold spec_l2Has.f
  have key : ∀ d i, i + d = xs.length → Ev (fun k => spec_l2Has.l0 k xs s (i : Int)) ((xs.drop i).any fun x => x.toList == s.toList) := by
    intro d
    induction d with
    | zero =>
      intro i hi
      refine Ev.step (fun k => by rw [spec_l2Has.l0]) ?_
      have c : ¬ (i : Int) < (xs.length : Int) := by omega
      simp only [c, if_false]
      rw [List.drop_eq_nil_of_le (by omega)]
      exact Ev.now _
    | succ d ih =>
      intro i hi
      refine Ev.step (fun k => by rw [spec_l2Has.l0]) ?_
      have c : (i : Int) < (xs.length : Int) := by omega
      have c0 : (0 : Int) ≤ (i : Int) := by omega
      have hw : wrap64 ((i : Int) + 1) = ((i + 1 : Nat) : Int) := wi (by omega) hn
      have hd : xs.drop i = rdOf ByteArray.empty xs (i : Int) :: xs.drop (i + 1) := by
        rw [List.drop_eq_getElem_cons (by omega)]
        simp [rdOf, List.getElem?_eq_getElem (show i < xs.length by omega)]
      rw [hd, List.any_cons]
      simp only [c, c0, if_true, hw]
      by_cases e : (rdOf ByteArray.empty xs (i : Int)).toList = s.toList
      · simp only [e, if_true, beq_self_eq_true, Bool.true_or]
        exact Ev.now _
      · simp only [e, if_false]
        have e' : ((rdOf ByteArray.empty xs (i : Int)).toList == s.toList) = false := by simpa using e
        rw [e', Bool.false_or]
        exact ih (i + 1) (by omega)
  have := key xs.length 0 (by omega)
  simpa using this
theorem spec_l2Kept_ev (s : ByteArray) : Ev (fun k => spec_l2Kept.f k s) (keptS s) := by
  unfold spec_l2Kept.f
  refine Ev.then (spec_l2Has_ev _ s (by simp [maxLen])) ?_
  have : (List.any [(⟨#[97, 114, 114, 97, 121]⟩ : ByteArray), (⟨#[102, 111, 114]⟩ : ByteArray), (⟨#[116, 111]⟩ : ByteArray), (⟨#[112, 114, 105, 110, 116]⟩ : ByteArray), (⟨#[109, 105, 110]⟩ : ByteArray), (⟨#[109, 97, 120]⟩ : ByteArray)] fun x => x.toList == s.toList) = keptS s := by
    simp only [keptS, keptL, List.any_cons, List.any_nil, toList_data]
  rw [this]
  exact Ev.now _
theorem impl_isKept_eq (s : ByteArray) : impl_isKept.f s = some (keptS s) := by
  unfold impl_isKept.f keptS keptL
  have hb : ∀ l : List UInt8, decide (s.toList = l) = (l == s.toList) := fun l => by
    by_cases h : s.toList = l
    · rw [decide_eq_true h, ← h, beq_self_eq_true]
    · rw [decide_eq_false h, beq_eq_false_iff_ne.mpr (fun e => h e.symm)]
  simp only [if_or, hb, List.any_cons, List.any_nil]
theorem spec_NameOk_ev (s : ByteArray) (hn : s.size ≤ maxLen) : Ev (fun k => spec_NameOk.f k s) (nameS s) := by
  unfold spec_NameOk.f nameS
  refine Ev.run (g := fun k i (_ : Unit) => spec_NameOk.l0 k s i) _ _ ?_ ?_ ()
  · intro i u hi
    have c : (i : Int) < (s.size : Int) := by omega
    have c0 : (0 : Int) ≤ (i : Int) := by omega
    have hw : wrap64 ((i : Int) + 1) = ((i + 1 : Nat) : Int) := wi hi hn
    have hl : spec_l2Small.f (bt s (i : Int)) = some (letS s i) := spec_l2Small_eq _ (bt_range s i).1 (bt_range s i).2
    cases e : letS s i with
    | true =>
      simp only [if_true]
      intro r hr
      refine Ev.step (fun k => by rw [spec_NameOk.l0]) ?_
      simp only [c, c0, if_true, hl, e, Option.bind_some, hw]
      exact hr
    | false =>
      simp only [Bool.false_eq_true, if_false]
      refine Ev.step (fun k => by rw [spec_NameOk.l0]) ?_
      simp only [c, c0, if_true, hl, e, Option.bind_some, Bool.false_eq_true, if_false]
      exact Ev.now _
  · intro u
    refine Ev.step (fun k => by rw [spec_NameOk.l0]) ?_
    have c : ¬ (s.size : Int) < (s.size : Int) := by omega
    simp only [c, if_false, spec_l1In_eq, Option.bind_some]
    have e1 : (decide ((1 : Int) ≤ (s.size : Int)) && decide ((s.size : Int) ≤ 6)) = (decide (1 ≤ s.size) && decide (s.size ≤ 6)) := by
      rw [Bool.eq_iff_iff]
      simp
      omega
    rw [e1]
    cases e : (decide (1 ≤ s.size) && decide (s.size ≤ 6)) with
    | true =>
      simp only [if_true, Bool.true_and]
      exact Ev.then (spec_l2Kept_ev s) (Ev.now _)
    | false =>
      simp only [Bool.false_eq_true, if_false, Bool.false_and]
      exact Ev.now _
theorem impl_NameOk_ev (s : ByteArray) (hn : s.size ≤ maxLen) : Ev (fun k => impl_NameOk.f k s) (nameS s) := by
  unfold impl_NameOk.f nameS
  refine Ev.run (g := fun k i (_ : Unit) => impl_NameOk.l0 k s i) _ _ ?_ ?_ ()
  · intro i u hi
    have c : (i : Int) < (s.size : Int) := by omega
    have c0 : (0 : Int) ≤ (i : Int) := by omega
    have hw : wrap64 ((i : Int) + 1) = ((i + 1 : Nat) : Int) := wi hi hn
    have hl : impl_isLetter.f (bt s (i : Int)) = some (letS s i) := impl_isLetter_eq _
    cases e : letS s i with
    | true =>
      simp only [if_true]
      intro r hr
      refine Ev.step (fun k => by rw [impl_NameOk.l0]) ?_
      simp only [c, c0, if_true, hl, e, Option.bind_some, hw]
      exact hr
    | false =>
      simp only [Bool.false_eq_true, if_false]
      refine Ev.step (fun k => by rw [impl_NameOk.l0]) ?_
      simp only [c, c0, if_true, hl, e, Option.bind_some, Bool.false_eq_true, if_false]
      exact Ev.now _
  · intro u
    refine Ev.step (fun k => by rw [impl_NameOk.l0]) ?_
    have c : ¬ (s.size : Int) < (s.size : Int) := by omega
    simp only [c, if_false, impl_inRange_eq, Option.bind_some]
    have e1 : (decide ((1 : Int) ≤ (s.size : Int)) && decide ((s.size : Int) ≤ 6)) = (decide (1 ≤ s.size) && decide (s.size ≤ 6)) := by
      rw [Bool.eq_iff_iff]
      simp
      omega
    rw [e1]
    cases e : (decide (1 ≤ s.size) && decide (s.size ≤ 6)) with
    | true =>
      simp only [if_true, Bool.true_and, impl_isKept_eq, Option.bind_some]
      exact Ev.now _
    | false =>
      simp only [Bool.false_eq_true, if_false, Bool.false_and]
      exact Ev.now _

theorem spec_CoefOf_ev (c : Int) (l : List S70) (s : ByteArray) (hl : l.length ≤ maxLen) : Ev (fun k => spec_CoefOf.f k c l s) (coefL S70.f0 S70.f1 l s) := by
  unfold spec_CoefOf.f
  have key : ∀ d i, i + d = l.length → Ev (fun k => spec_CoefOf.l0 k s (i : Int) c l) (coefL S70.f0 S70.f1 (l.drop i) s) := by
    intro d
    induction d with
    | zero =>
      intro i hi
      refine Ev.step (fun k => by rw [spec_CoefOf.l0]) ?_
      have c : ¬ (i : Int) < (l.length : Int) := by omega
      simp only [c, if_false]
      rw [List.drop_eq_nil_of_le (by omega)]
      exact Ev.now _
    | succ d ih =>
      intro i hi
      refine Ev.step (fun k => by rw [spec_CoefOf.l0]) ?_
      have c : (i : Int) < (l.length : Int) := by omega
      have c0 : (0 : Int) ≤ (i : Int) := by omega
      have hw : wrap64 ((i : Int) + 1) = ((i + 1 : Nat) : Int) := wi (n := l.length) (by omega) hl
      have hd : l.drop i = rd_T70 l (i : Int) :: l.drop (i + 1) := drop_cons l _ (by omega)
      rw [hd]
      simp only [c, c0, if_true, hw, coefL]
      by_cases e : (rd_T70 l (i : Int)).f0.toList = s.toList
      · simp only [e, if_true]
        exact Ev.now _
      · simp only [e, if_false]
        exact ih (i + 1) (by omega)
  exact key l.length 0 (by omega)
theorem impl_CoefOf_ev (c : Int) (l : List S70) (s : ByteArray) (hl : l.length ≤ maxLen) : Ev (fun k => impl_CoefOf.f k c l s) (coefL S70.f0 S70.f1 l s) := by
  unfold impl_CoefOf.f
  have key : ∀ d i, i + d = l.length → Ev (fun k => impl_CoefOf.l0 k s l (l.length : Int) (i : Int)) (coefL S70.f0 S70.f1 (l.drop i) s) := by
    intro d
    induction d with
    | zero =>
      intro i hi
      refine Ev.step (fun k => by rw [impl_CoefOf.l0]) ?_
      have c : ¬ (i : Int) < (l.length : Int) := by omega
      simp only [c, if_false]
      rw [List.drop_eq_nil_of_le (by omega)]
      exact Ev.now _
    | succ d ih =>
      intro i hi
      refine Ev.step (fun k => by rw [impl_CoefOf.l0]) ?_
      have c : (i : Int) < (l.length : Int) := by omega
      have c0 : (0 : Int) ≤ (i : Int) := by omega
      have hw : wrap64 ((i : Int) + 1) = ((i + 1 : Nat) : Int) := wi (n := l.length) (by omega) hl
      have hd : l.drop i = rd_T70 l (i : Int) :: l.drop (i + 1) := drop_cons l _ (by omega)
      rw [hd]
      simp only [c, c0, if_true, hw, coefL]
      by_cases e : (rd_T70 l (i : Int)).f0.toList = s.toList
      · simp only [e, if_true]
        exact Ev.now _
      · simp only [e, if_false]
        exact ih (i + 1) (by omega)
  exact key l.length 0 (by omega)
theorem spec_l8Num_eq (n : Int) : spec_l8Num.f n = some (coefOk n) := by
  unfold spec_l8Num.f
  rw [spec_l1In_eq]
  rfl
theorem impl_isCoef_eq (n : Int) : impl_isCoef.f n = some (coefOk n) := by
  unfold impl_isCoef.f
  rw [impl_inRange_eq]
  rfl
def prevT (l : List S70) (i : Nat) : Option ByteArray := if i = 0 then none else some (rd_T70 l ((i - 1 : Nat) : Int)).f0
theorem prevT_succ (l : List S70) (i : Nat) : prevT l (i + 1) = some (rd_T70 l (i : Int)).f0 := by
  unfold prevT
  rw [if_neg (by omega)]
  rfl
theorem spec_AffOk_ev (c : Int) (l : List S70) (hl : l.length ≤ maxLen) (hs : ∀ x ∈ l, x.f0.size ≤ maxLen) : Ev (fun k => spec_AffOk.f k c l) (affOkS S70.f0 S70.f1 c l) := by
  unfold spec_AffOk.f
  have key : ∀ d i, i + d = l.length → Ev (fun k => spec_AffOk.l0 k (i : Int) c l) (affOkL S70.f0 S70.f1 (prevT l i) (l.drop i) && coefOk c) := by
    intro d
    induction d with
    | zero =>
      intro i hi
      refine Ev.step (fun k => by rw [spec_AffOk.l0]) ?_
      have c : ¬ (i : Int) < (l.length : Int) := by omega
      simp only [c, if_false]
      rw [List.drop_eq_nil_of_le (by omega)]
      simp only [spec_l8Num_eq, Option.bind_some, affOkL, Bool.true_and]
      exact Ev.now _
    | succ d ih =>
      intro i hi
      refine Ev.step (fun k => by rw [spec_AffOk.l0]) ?_
      have c : (i : Int) < (l.length : Int) := by omega
      have c0 : (0 : Int) ≤ (i : Int) := by omega
      have hw : wrap64 ((i : Int) + 1) = ((i + 1 : Nat) : Int) := wi (n := l.length) (by omega) hl
      have hd : l.drop i = rd_T70 l (i : Int) :: l.drop (i + 1) := drop_cons l _ (by omega)
      have hm : rd_T70 l (i : Int) ∈ l := getD_mem l _ (by omega)
      have ih' := ih (i + 1) (by omega)
      rw [prevT_succ] at ih'
      rw [hd]
      simp only [c, c0, if_true, hw, affOkL, spec_l8Num_eq, Option.bind_some]
      refine Ev.then (spec_NameOk_ev _ (hs _ hm)) ?_
      cases e1 : nameS (rd_T70 l (i : Int)).f0 with
      | false =>
        simp only [Bool.false_eq_true, if_false, Bool.false_and]
        exact Ev.now _
      | true =>
        by_cases e2 : (rd_T70 l (i : Int)).f1 = 0
        · simp only [e2, if_true, decide_true, Bool.not_true, Bool.false_and, Bool.and_false]
          exact Ev.now _
        · cases e3 : coefOk (rd_T70 l (i : Int)).f1 with
          | false =>
            simp only [e2, if_true, if_false, decide_false, Bool.not_false, Bool.and_false, Bool.false_and, Bool.false_eq_true]
            exact Ev.now _
          | true =>
            simp only [e2, if_true, if_false, decide_false, Bool.not_false, Bool.true_and]
            by_cases e4 : i = 0
            · subst e4
              have c4 : ¬ ((0 : Nat) : Int) > 0 := by omega
              simp only [c4, if_false, prevT, if_true, lessO, Bool.true_and]
              exact ih'
            · have c4 : (i : Int) > 0 := by omega
              have c5 : wrap64 ((i : Int) - 1) = ((i - 1 : Nat) : Int) := by
                simp only [maxLen] at hl
                rw [w64 (by omega) (by omega)]
                omega
              have c6 : (0 : Int) ≤ ((i - 1 : Nat) : Int) := by omega
              have c7 : ((i - 1 : Nat) : Int) < (l.length : Int) := by omega
              simp only [c4, c5, c6, c7, if_true, prevT, e4, if_false, lessO]
              cases e5 : Op.bytesLess (rd_T70 l ((i - 1 : Nat) : Int)).f0.toList (rd_T70 l (i : Int)).f0.toList with
              | false =>
                simp only [Bool.false_eq_true, if_false, Bool.false_and]
                exact Ev.now _
              | true =>
                simp only [if_true, Bool.true_and]
                exact ih'
  exact key l.length 0 (by omega)
theorem impl_AffOk_ev (c : Int) (l : List S70) (hl : l.length ≤ maxLen) (hs : ∀ x ∈ l, x.f0.size ≤ maxLen) : Ev (fun k => impl_AffOk.f k c l) (affOkS S70.f0 S70.f1 c l) := by
  unfold impl_AffOk.f
  have key : ∀ d i, i + d = l.length → Ev (fun k => impl_AffOk.l0 k l (l.length : Int) (i : Int) c l) (affOkL S70.f0 S70.f1 (prevT l i) (l.drop i) && coefOk c) := by
    intro d
    induction d with
    | zero =>
      intro i hi
      refine Ev.step (fun k => by rw [impl_AffOk.l0]) ?_
      have c : ¬ (i : Int) < (l.length : Int) := by omega
      simp only [c, if_false]
      rw [List.drop_eq_nil_of_le (by omega)]
      simp only [impl_isCoef_eq, Option.bind_some, affOkL, Bool.true_and]
      exact Ev.now _
    | succ d ih =>
      intro i hi
      refine Ev.step (fun k => by rw [impl_AffOk.l0]) ?_
      have c : (i : Int) < (l.length : Int) := by omega
      have c0 : (0 : Int) ≤ (i : Int) := by omega
      have hw : wrap64 ((i : Int) + 1) = ((i + 1 : Nat) : Int) := wi (n := l.length) (by omega) hl
      have hd : l.drop i = rd_T70 l (i : Int) :: l.drop (i + 1) := drop_cons l _ (by omega)
      have hm : rd_T70 l (i : Int) ∈ l := getD_mem l _ (by omega)
      have ih' := ih (i + 1) (by omega)
      rw [prevT_succ] at ih'
      rw [hd]
      simp only [c, c0, if_true, hw, affOkL, impl_isCoef_eq, Option.bind_some]
      refine Ev.then (impl_NameOk_ev _ (hs _ hm)) ?_
      cases e1 : nameS (rd_T70 l (i : Int)).f0 with
      | false =>
        simp only [Bool.false_eq_true, if_false, Bool.false_and]
        exact Ev.now _
      | true =>
        by_cases e2 : (rd_T70 l (i : Int)).f1 = 0
        · simp only [e2, if_true, decide_true, Bool.not_true, Bool.false_and, Bool.and_false]
          exact Ev.now _
        · cases e3 : coefOk (rd_T70 l (i : Int)).f1 with
          | false =>
            simp only [e2, if_true, if_false, decide_false, Bool.not_false, Bool.and_false, Bool.false_and, Bool.false_eq_true]
            exact Ev.now _
          | true =>
            simp only [e2, if_true, if_false, decide_false, Bool.not_false, Bool.true_and]
            by_cases e4 : i = 0
            · subst e4
              have c4 : ¬ ((0 : Nat) : Int) > 0 := by omega
              simp only [c4, if_false, prevT, if_true, lessO, Bool.true_and]
              exact ih'
            · have c4 : (i : Int) > 0 := by omega
              have c5 : wrap64 ((i : Int) - 1) = ((i - 1 : Nat) : Int) := by
                simp only [maxLen] at hl
                rw [w64 (by omega) (by omega)]
                omega
              have c6 : (0 : Int) ≤ ((i - 1 : Nat) : Int) := by omega
              have c7 : ((i - 1 : Nat) : Int) < (l.length : Int) := by omega
              simp only [c4, c5, c6, c7, if_true, prevT, e4, if_false, lessO]
              cases e5 : Op.bytesLess (rd_T70 l ((i - 1 : Nat) : Int)).f0.toList (rd_T70 l (i : Int)).f0.toList with
              | false =>
                simp only [Bool.false_eq_true, if_false, Bool.false_and]
                exact Ev.now _
              | true =>
                simp only [if_true, Bool.true_and]
                exact ih'
  exact key l.length 0 (by omega)
theorem impl_boundTo_ev (bs : List S76) (s : ByteArray) (hl : bs.length ≤ maxLen) : ∃ b, Ev (fun k => impl_boundTo.f k bs s) (boundS S76.f0 S76.f1 bs s, b) := by
  unfold impl_boundTo.f boundS
  have key : ∀ d, d ≤ bs.length → ∃ b, Ev (fun k => impl_boundTo.l0 k bs s ((d : Int) - 1)) (lastR S76.f0 S76.f1 (bs.take d).reverse s, b) := by
    intro d
    induction d with
    | zero =>
      intro _
      refine ⟨false, Ev.step (fun k => by rw [impl_boundTo.l0]) ?_⟩
      have c : ¬ ((0 : Nat) : Int) - 1 ≥ 0 := by omega
      simp only [c, if_false]
      exact Ev.now _
    | succ d ih =>
      intro hd
      have e0 : (((d + 1 : Nat) : Int) - 1) = (d : Int) := by omega
      have c : (d : Int) ≥ 0 := by omega
      have c0 : (0 : Int) ≤ (d : Int) := by omega
      have c1 : (d : Int) < (bs.length : Int) := by omega
      have hw : wrap64 ((d : Int) - 1) = (d : Int) - 1 := by
        simp only [maxLen] at hl
        exact w64 (by omega) (by omega)
      have ht : (bs.take (d + 1)).reverse = rd_T76 bs (d : Int) :: (bs.take d).reverse := by
        rw [List.take_add_one, List.getElem?_eq_getElem (show d < bs.length by omega)]
        simp [rd_T76, List.getElem?_eq_getElem (show d < bs.length by omega)]
      rw [ht, e0]
      by_cases e : (rd_T76 bs (d : Int)).f0.toList = s.toList
      · refine ⟨true, Ev.step (fun k => by rw [impl_boundTo.l0]) ?_⟩
        simp only [c, c0, c1, if_true, e, lastR]
        exact Ev.now _
      · obtain ⟨b, hb⟩ := ih (by omega)
        refine ⟨b, Ev.step (fun k => by rw [impl_boundTo.l0]) ?_⟩
        simp only [c, c0, c1, if_true, e, if_false, lastR, hw]
        exact hb
  have hw : wrap64 ((bs.length : Int) - 1) = (bs.length : Int) - 1 := by
    simp only [maxLen] at hl
    exact w64 (by omega) (by omega)
  rw [hw]
  have := key bs.length (Nat.le_refl _)
  rwa [List.take_length] at this
theorem impl_AffAt_ev (c : Int) (l : List S70) (bs : List S76) (hl : l.length ≤ maxLen) (hb : bs.length ≤ maxLen) :
    Ev (fun k => impl_AffAt.f k c l bs) (affAtL S70.f0 S70.f1 S76.f0 S76.f1 bs l c) := by
  unfold impl_AffAt.f
  have key : ∀ d i, i + d = l.length → ∀ x, Ev (fun k => impl_AffAt.l0 k bs x l (l.length : Int) (i : Int)) (affAtL S70.f0 S70.f1 S76.f0 S76.f1 bs (l.drop i) x) := by
    intro d
    induction d with
    | zero =>
      intro i hi x
      refine Ev.step (fun k => by rw [impl_AffAt.l0]) ?_
      have c : ¬ (i : Int) < (l.length : Int) := by omega
      simp only [c, if_false]
      rw [List.drop_eq_nil_of_le (by omega)]
      exact Ev.now _
    | succ d ih =>
      intro i hi x
      refine Ev.step (fun k => by rw [impl_AffAt.l0]) ?_
      have c : (i : Int) < (l.length : Int) := by omega
      have c0 : (0 : Int) ≤ (i : Int) := by omega
      have hw : wrap64 ((i : Int) + 1) = ((i + 1 : Nat) : Int) := wi (n := l.length) (by omega) hl
      have hd : l.drop i = rd_T70 l (i : Int) :: l.drop (i + 1) := drop_cons l _ (by omega)
      obtain ⟨b, hbd⟩ := impl_boundTo_ev bs (rd_T70 l (i : Int)).f0 hb
      rw [hd]
      simp only [c, c0, if_true, hw, affAtL]
      exact Ev.then hbd (ih (i + 1) (by omega) _)
  exact key l.length 0 (by omega) c
theorem spec_l9At_ev (l : List S56) (s : ByteArray) (hl : l.length ≤ maxLen) : Ev (fun k => spec_l9At.f k l s) (idxL S56.f0 0 l s) := by
  unfold spec_l9At.f
  have key : ∀ d i, i + d = l.length → Ev (fun k => spec_l9At.l0 k l s (i : Int)) (idxL S56.f0 i (l.drop i) s) := by
    intro d
    induction d with
    | zero =>
      intro i hi
      refine Ev.step (fun k => by rw [spec_l9At.l0]) ?_
      have c : ¬ (i : Int) < (l.length : Int) := by omega
      simp only [c, if_false]
      rw [List.drop_eq_nil_of_le (by omega)]
      exact Ev.now _
    | succ d ih =>
      intro i hi
      refine Ev.step (fun k => by rw [spec_l9At.l0]) ?_
      have c : (i : Int) < (l.length : Int) := by omega
      have c0 : (0 : Int) ≤ (i : Int) := by omega
      have hw : wrap64 ((i : Int) + 1) = ((i + 1 : Nat) : Int) := wi (n := l.length) (by omega) hl
      have hd : l.drop i = rd_T56 l (i : Int) :: l.drop (i + 1) := drop_cons l _ (by omega)
      rw [hd]
      simp only [c, c0, if_true, hw, idxL]
      by_cases e : (rd_T56 l (i : Int)).f0.toList = s.toList
      · simp only [e, if_true]
        exact Ev.now _
      · simp only [e, if_false]
        exact ih (i + 1) (by omega)
  exact key l.length 0 (by omega)
theorem impl_rngAt_ev (l : List S56) (s : ByteArray) (hl : l.length ≤ maxLen) : Ev (fun k => impl_rngAt.f k l s) (idxL S56.f0 0 l s) := by
  unfold impl_rngAt.f
  have key : ∀ d i, i + d = l.length → Ev (fun k => impl_rngAt.l0 k l s (i : Int)) (idxL S56.f0 i (l.drop i) s) := by
    intro d
    induction d with
    | zero =>
      intro i hi
      refine Ev.step (fun k => by rw [impl_rngAt.l0]) ?_
      have c : ¬ (i : Int) < (l.length : Int) := by omega
      simp only [c, if_false]
      rw [List.drop_eq_nil_of_le (by omega)]
      exact Ev.now _
    | succ d ih =>
      intro i hi
      refine Ev.step (fun k => by rw [impl_rngAt.l0]) ?_
      have c : (i : Int) < (l.length : Int) := by omega
      have c0 : (0 : Int) ≤ (i : Int) := by omega
      have hw : wrap64 ((i : Int) + 1) = ((i + 1 : Nat) : Int) := wi (n := l.length) (by omega) hl
      have hd : l.drop i = rd_T56 l (i : Int) :: l.drop (i + 1) := drop_cons l _ (by omega)
      rw [hd]
      simp only [c, c0, if_true, hw, idxL]
      by_cases e : (rd_T56 l (i : Int)).f0.toList = s.toList
      · simp only [e, if_true]
        exact Ev.now _
      · simp only [e, if_false]
        exact ih (i + 1) (by omega)
  exact key l.length 0 (by omega)
theorem spec_BoxOk_ev (l : List S56) (hl : l.length ≤ maxLen) (hs : ∀ x ∈ l, x.f0.size ≤ maxLen) : Ev (fun k => spec_BoxOk.f k l) (boxOkS S56.f0 S56.f1 S56.f2 l) := by
  unfold spec_BoxOk.f boxOkS
  have key : ∀ d i, i + d = l.length → Ev (fun k => spec_BoxOk.l0 k l (i : Int)) (boxOkL S56.f0 S56.f1 S56.f2 l i (l.drop i)) := by
    intro d
    induction d with
    | zero =>
      intro i hi
      refine Ev.step (fun k => by rw [spec_BoxOk.l0]) ?_
      have c : ¬ (i : Int) < (l.length : Int) := by omega
      simp only [c, if_false]
      rw [List.drop_eq_nil_of_le (by omega)]
      have e : decide ((l.length : Int) ≤ 8) = decide (l.length ≤ 8) := by
        rw [decide_eq_decide]
        omega
      simp only [e, boxOkL]
      exact Ev.now _
    | succ d ih =>
      intro i hi
      refine Ev.step (fun k => by rw [spec_BoxOk.l0]) ?_
      have c : (i : Int) < (l.length : Int) := by omega
      have c0 : (0 : Int) ≤ (i : Int) := by omega
      have hw : wrap64 ((i : Int) + 1) = ((i + 1 : Nat) : Int) := wi (n := l.length) (by omega) hl
      have hd : l.drop i = rd_T56 l (i : Int) :: l.drop (i + 1) := drop_cons l _ (by omega)
      have hm : rd_T56 l (i : Int) ∈ l := getD_mem l _ (by omega)
      rw [hd]
      simp only [c, c0, if_true, hw, boxOkL, spec_l1In_eq, Option.bind_some]
      refine Ev.then (spec_NameOk_ev _ (hs _ hm)) ?_
      cases e1 : nameS (rd_T56 l (i : Int)).f0 with
      | false =>
        simp only [Bool.false_eq_true, if_false, Bool.false_and]
        exact Ev.now _
      | true =>
        rw [show (decide ((-10000 : Int) ≤ (rd_T56 l (i : Int)).f1) && decide ((rd_T56 l (i : Int)).f1 ≤ 10000)) = bndOk (rd_T56 l (i : Int)).f1 from rfl]
        rw [show (decide ((-10000 : Int) ≤ (rd_T56 l (i : Int)).f2) && decide ((rd_T56 l (i : Int)).f2 ≤ 10000)) = bndOk (rd_T56 l (i : Int)).f2 from rfl]
        cases e2 : bndOk (rd_T56 l (i : Int)).f1 with
        | false =>
          simp only [Bool.false_eq_true, if_true, if_false, Bool.false_and, Bool.true_and]
          exact Ev.now _
        | true =>
          cases e3 : bndOk (rd_T56 l (i : Int)).f2 with
          | false =>
            simp only [Bool.false_eq_true, if_true, if_false, Bool.false_and, Bool.true_and]
            exact Ev.now _
          | true =>
            simp only [if_true, Bool.true_and]
            refine Ev.then (spec_l9At_ev l _ hl) ?_
            by_cases e4 : idxL S56.f0 0 l (rd_T56 l (i : Int)).f0 = (i : Int)
            · simp only [e4, if_true, decide_true, Bool.true_and]
              exact ih (i + 1) (by omega)
            · simp only [e4, if_false, decide_false, Bool.false_and]
              exact Ev.now _
  exact key l.length 0 (by omega)
theorem impl_BoxOk_ev (l : List S56) (hl : l.length ≤ maxLen) (hs : ∀ x ∈ l, x.f0.size ≤ maxLen) : Ev (fun k => impl_BoxOk.f k l) (boxOkS S56.f0 S56.f1 S56.f2 l) := by
  unfold impl_BoxOk.f boxOkS
  have key : ∀ d i, i + d = l.length → Ev (fun k => impl_BoxOk.l0 k l l (l.length : Int) (i : Int)) (boxOkL S56.f0 S56.f1 S56.f2 l i (l.drop i)) := by
    intro d
    induction d with
    | zero =>
      intro i hi
      refine Ev.step (fun k => by rw [impl_BoxOk.l0]) ?_
      have c : ¬ (i : Int) < (l.length : Int) := by omega
      simp only [c, if_false]
      rw [List.drop_eq_nil_of_le (by omega)]
      have e : decide ((l.length : Int) ≤ 8) = decide (l.length ≤ 8) := by
        rw [decide_eq_decide]
        omega
      simp only [e, boxOkL]
      exact Ev.now _
    | succ d ih =>
      intro i hi
      refine Ev.step (fun k => by rw [impl_BoxOk.l0]) ?_
      have c : (i : Int) < (l.length : Int) := by omega
      have c0 : (0 : Int) ≤ (i : Int) := by omega
      have hw : wrap64 ((i : Int) + 1) = ((i + 1 : Nat) : Int) := wi (n := l.length) (by omega) hl
      have hd : l.drop i = rd_T56 l (i : Int) :: l.drop (i + 1) := drop_cons l _ (by omega)
      have hm : rd_T56 l (i : Int) ∈ l := getD_mem l _ (by omega)
      rw [hd]
      simp only [c, c0, if_true, hw, boxOkL, impl_inRange_eq, Option.bind_some]
      refine Ev.then (impl_NameOk_ev _ (hs _ hm)) ?_
      cases e1 : nameS (rd_T56 l (i : Int)).f0 with
      | false =>
        simp only [Bool.false_eq_true, if_false, Bool.false_and]
        exact Ev.now _
      | true =>
        rw [show (decide ((-10000 : Int) ≤ (rd_T56 l (i : Int)).f1) && decide ((rd_T56 l (i : Int)).f1 ≤ 10000)) = bndOk (rd_T56 l (i : Int)).f1 from rfl]
        rw [show (decide ((-10000 : Int) ≤ (rd_T56 l (i : Int)).f2) && decide ((rd_T56 l (i : Int)).f2 ≤ 10000)) = bndOk (rd_T56 l (i : Int)).f2 from rfl]
        cases e2 : bndOk (rd_T56 l (i : Int)).f1 with
        | false =>
          simp only [Bool.false_eq_true, if_true, if_false, Bool.false_and, Bool.true_and]
          exact Ev.now _
        | true =>
          cases e3 : bndOk (rd_T56 l (i : Int)).f2 with
          | false =>
            simp only [Bool.false_eq_true, if_true, if_false, Bool.false_and, Bool.true_and]
            exact Ev.now _
          | true =>
            simp only [if_true, Bool.true_and]
            refine Ev.then (impl_rngAt_ev l _ hl) ?_
            by_cases e4 : idxL S56.f0 0 l (rd_T56 l (i : Int)).f0 = (i : Int)
            · simp only [e4, if_true, decide_true, Bool.true_and]
              exact ih (i + 1) (by omega)
            · simp only [e4, if_false, decide_false, Bool.false_and]
              exact Ev.now _
  exact key l.length 0 (by omega)
theorem spec_l9Full_ev (l : List S56) (hl : l.length ≤ maxLen) (hs : ∀ x ∈ l, x.f0.size ≤ maxLen) : Ev (fun k => spec_l9Full.f k l) (fullS S56.f0 S56.f1 S56.f2 l) := by
  unfold spec_l9Full.f
  have key : ∀ d i, i + d = l.length → Ev (fun k => spec_l9Full.l0 k l (i : Int)) (((l.drop i).all fun r => decide (r.f1 ≤ r.f2)) && boxOkS S56.f0 S56.f1 S56.f2 l) := by
    intro d
    induction d with
    | zero =>
      intro i hi
      refine Ev.step (fun k => by rw [spec_l9Full.l0]) ?_
      have c : ¬ (i : Int) < (l.length : Int) := by omega
      simp only [c, if_false]
      rw [List.drop_eq_nil_of_le (by omega)]
      simp only [List.all_nil, Bool.true_and]
      exact Ev.then (spec_BoxOk_ev l hl hs) (Ev.now _)
    | succ d ih =>
      intro i hi
      refine Ev.step (fun k => by rw [spec_l9Full.l0]) ?_
      have c : (i : Int) < (l.length : Int) := by omega
      have c0 : (0 : Int) ≤ (i : Int) := by omega
      have hw : wrap64 ((i : Int) + 1) = ((i + 1 : Nat) : Int) := wi (n := l.length) (by omega) hl
      have hd : l.drop i = rd_T56 l (i : Int) :: l.drop (i + 1) := drop_cons l _ (by omega)
      rw [hd, List.all_cons]
      by_cases e : (rd_T56 l (i : Int)).f1 > (rd_T56 l (i : Int)).f2
      · have e' : ¬ (rd_T56 l (i : Int)).f1 ≤ (rd_T56 l (i : Int)).f2 := by omega
        simp only [c, c0, if_true, hw, e, e', decide_false, Bool.false_and]
        exact Ev.now _
      · have e' : (rd_T56 l (i : Int)).f1 ≤ (rd_T56 l (i : Int)).f2 := by omega
        simp only [c, c0, if_true, hw, e, e', if_false, decide_true, Bool.true_and]
        exact ih (i + 1) (by omega)
  exact key l.length 0 (by omega)
theorem impl_isRight_ev (l : List S56) (hl : l.length ≤ maxLen) (hs : ∀ x ∈ l, x.f0.size ≤ maxLen) : Ev (fun k => impl_isRight.f k l) (fullS S56.f0 S56.f1 S56.f2 l) := by
  unfold impl_isRight.f
  have key : ∀ d i, i + d = l.length → Ev (fun k => impl_isRight.l0 k l l (l.length : Int) (i : Int)) (((l.drop i).all fun r => decide (r.f1 ≤ r.f2)) && boxOkS S56.f0 S56.f1 S56.f2 l) := by
    intro d
    induction d with
    | zero =>
      intro i hi
      refine Ev.step (fun k => by rw [impl_isRight.l0]) ?_
      have c : ¬ (i : Int) < (l.length : Int) := by omega
      simp only [c, if_false]
      rw [List.drop_eq_nil_of_le (by omega)]
      simp only [List.all_nil, Bool.true_and]
      exact Ev.then (impl_BoxOk_ev l hl hs) (Ev.now _)
    | succ d ih =>
      intro i hi
      refine Ev.step (fun k => by rw [impl_isRight.l0]) ?_
      have c : (i : Int) < (l.length : Int) := by omega
      have c0 : (0 : Int) ≤ (i : Int) := by omega
      have hw : wrap64 ((i : Int) + 1) = ((i + 1 : Nat) : Int) := wi (n := l.length) (by omega) hl
      have hd : l.drop i = rd_T56 l (i : Int) :: l.drop (i + 1) := drop_cons l _ (by omega)
      rw [hd, List.all_cons]
      by_cases e : (rd_T56 l (i : Int)).f1 > (rd_T56 l (i : Int)).f2
      · have e' : ¬ (rd_T56 l (i : Int)).f1 ≤ (rd_T56 l (i : Int)).f2 := by omega
        simp only [c, c0, if_true, hw, e, e', decide_false, Bool.false_and]
        exact Ev.now _
      · have e' : (rd_T56 l (i : Int)).f1 ≤ (rd_T56 l (i : Int)).f2 := by omega
        simp only [c, c0, if_true, hw, e, e', if_false, decide_true, Bool.true_and]
        exact ih (i + 1) (by omega)
  exact key l.length 0 (by omega)
abbrev extT (c : Int) (l : List S70) (box : List S56) : Option (Int × Int) := extS S70.f0 S70.f1 S56.f0 S56.f1 S56.f2 c l box
theorem impl_extremes_ev (c : Int) (l : List S70) (box : List S56) (hl : l.length ≤ maxLen) (hs : ∀ x ∈ l, x.f0.size ≤ maxLen) (hb : box.length ≤ maxLen) (hbs : ∀ x ∈ box, x.f0.size ≤ maxLen) :
    Ev (fun k => impl_extremes.f k c l box) (ext3 (extT c l box)) := by
  unfold impl_extremes.f extT extS
  have bad : Ev (fun k => impl_extremes.j0 k box true c l) (ext3 none) := by
    refine Ev.step (fun k => by rw [impl_extremes.j0]) ?_
    simp only [if_true]
    exact Ev.now _
  refine Ev.then (impl_AffOk_ev c l hl hs) ?_
  cases e1 : affOkS S70.f0 S70.f1 c l with
  | false =>
    simp only [Bool.false_eq_true, if_false, Bool.false_and]
    exact bad
  | true =>
    simp only [if_true, Bool.true_and]
    refine Ev.then (impl_isRight_ev box hb hbs) ?_
    cases e2 : fullS S56.f0 S56.f1 S56.f2 box with
    | false =>
      simp only [Bool.false_eq_true, if_false, Bool.not_false]
      exact bad
    | true =>
      simp only [if_true, Bool.not_true]
      refine Ev.step (fun k => by rw [impl_extremes.j0]) ?_
      simp only [Bool.false_eq_true, if_false]
      have key : ∀ d i, i + d = l.length → ∀ x y, Ev (fun k => impl_extremes.l0 k box x y l (l.length : Int) (i : Int)) (ext3 (pairO (endL S70.f0 S56.f0 (lowT S70.f1 S56.f1 S56.f2) box (l.drop i) x) (endL S70.f0 S56.f0 (highT S70.f1 S56.f1 S56.f2) box (l.drop i) y))) := by
        intro d
        induction d with
        | zero =>
          intro i hi x y
          refine Ev.step (fun k => by rw [impl_extremes.l0]) ?_
          have c : ¬ (i : Int) < (l.length : Int) := by omega
          simp only [c, if_false]
          rw [List.drop_eq_nil_of_le (by omega)]
          exact Ev.now _
        | succ d ih =>
          intro i hi x y
          refine Ev.step (fun k => by rw [impl_extremes.l0]) ?_
          have c : (i : Int) < (l.length : Int) := by omega
          have c0 : (0 : Int) ≤ (i : Int) := by omega
          have hw : wrap64 ((i : Int) + 1) = ((i + 1 : Nat) : Int) := wi (n := l.length) (by omega) hl
          have hd : l.drop i = rd_T70 l (i : Int) :: l.drop (i + 1) := drop_cons l _ (by omega)
          rw [hd]
          simp only [c, c0, if_true, hw, endL]
          refine Ev.then (impl_rngAt_ev box _ hb) ?_
          rcases idx_find S56.f0 z56 box 0 (rd_T70 l (i : Int)).f0 with ⟨h1, h2⟩ | ⟨j, hj, h1, h2⟩
          · have c2 : (-1 : Int) < 0 := by omega
            simp only [h1, h2, c2, if_true]
            exact Ev.now _
          · have c2 : ¬ ((0 + j : Nat) : Int) < 0 := by omega
            have c3 : (0 : Int) ≤ ((0 + j : Nat) : Int) := by omega
            have c4 : ((0 + j : Nat) : Int) < (box.length : Int) := by omega
            have hr : rd_T56 box ((0 + j : Nat) : Int) = box.getD j z56 := by
              unfold rd_T56
              rw [Int.toNat_natCast, Nat.zero_add]
            simp only [h1, h2, c2, c3, c4, if_true, if_false, hr]
            exact ih (i + 1) (by omega) _ _
      exact key l.length 0 (by omega) c c
theorem spec_l9End_lowT_ev (c : Int) (l : List S70) (box : List S56) (hl : l.length ≤ maxLen) (hs : ∀ x ∈ l, x.f0.size ≤ maxLen) (hb : box.length ≤ maxLen) (hbs : ∀ x ∈ box, x.f0.size ≤ maxLen) :
    Ev (fun k => spec_l9End.f k c l box false) (extA (extT c l box)) := by
  unfold spec_l9End.f extT extS
  have bad : Ev (fun k => spec_l9End.j0 k box false true c l) (extA none) := by
    refine Ev.step (fun k => by rw [spec_l9End.j0]) ?_
    simp only [if_true]
    exact Ev.now _
  refine Ev.then (spec_AffOk_ev c l hl hs) ?_
  cases e1 : affOkS S70.f0 S70.f1 c l with
  | false =>
    simp only [Bool.false_eq_true, if_false, Bool.false_and]
    exact bad
  | true =>
    simp only [if_true, Bool.true_and]
    refine Ev.then (spec_l9Full_ev box hb hbs) ?_
    cases e2 : fullS S56.f0 S56.f1 S56.f2 box with
    | false =>
      simp only [Bool.false_eq_true, if_false, Bool.not_false]
      exact bad
    | true =>
      simp only [if_true, Bool.not_true]
      refine Ev.step (fun k => by rw [spec_l9End.j0]) ?_
      simp only [Bool.false_eq_true, if_false]
      have ha : affOkL S70.f0 S70.f1 none l = true := by
        simp only [affOkS, Bool.and_eq_true] at e1
        exact e1.1
      have hal := affOkL_mem S70.f0 S70.f1 l none ha
      have hfu := (fullS_mem S56.f0 S56.f1 S56.f2 e2).1
      have key : ∀ d i, i + d = l.length → ∀ x y, Ev (fun k => spec_l9End.l0 k box false x (i : Int) c l) (extA (pairO (endL S70.f0 S56.f0 (lowT S70.f1 S56.f1 S56.f2) box (l.drop i) x) (endL S70.f0 S56.f0 (highT S70.f1 S56.f1 S56.f2) box (l.drop i) y))) := by
        intro d
        induction d with
        | zero =>
          intro i hi x y
          refine Ev.step (fun k => by rw [spec_l9End.l0]) ?_
          have c : ¬ (i : Int) < (l.length : Int) := by omega
          simp only [c, if_false]
          rw [List.drop_eq_nil_of_le (by omega)]
          exact Ev.now _
        | succ d ih =>
          intro i hi x y
          refine Ev.step (fun k => by rw [spec_l9End.l0]) ?_
          have c : (i : Int) < (l.length : Int) := by omega
          have c0 : (0 : Int) ≤ (i : Int) := by omega
          have hw : wrap64 ((i : Int) + 1) = ((i + 1 : Nat) : Int) := wi (n := l.length) (by omega) hl
          have hd : l.drop i = rd_T70 l (i : Int) :: l.drop (i + 1) := drop_cons l _ (by omega)
          have hm : rd_T70 l (i : Int) ∈ l := getD_mem l _ (by omega)
          obtain ⟨_, q1, q2, q3⟩ := hal _ hm
          rw [hd]
          simp only [c, c0, if_true, hw, endL]
          refine Ev.then (spec_l9At_ev box _ hb) ?_
          rcases idx_find S56.f0 z56 box 0 (rd_T70 l (i : Int)).f0 with ⟨h1, h2⟩ | ⟨j, hj, h1, h2⟩
          · have c2 : (-1 : Int) < 0 := by omega
            simp only [h1, h2, c2, if_true]
            exact Ev.now _
          · have c2 : ¬ ((0 + j : Nat) : Int) < 0 := by omega
            have c3 : (0 : Int) ≤ ((0 + j : Nat) : Int) := by omega
            have c4 : ((0 + j : Nat) : Int) < (box.length : Int) := by omega
            have hr : rd_T56 box ((0 + j : Nat) : Int) = box.getD j z56 := by
              unfold rd_T56
              rw [Int.toNat_natCast, Nat.zero_add]
            have hbm : box.getD j z56 ∈ box := getD_mem box _ hj
            obtain ⟨r1, r2, r3, r4, r5⟩ := hfu _ hbm
            have he := lowT_eq S70.f1 S56.f1 S56.f2 (x := rd_T70 l (i : Int)) (r := box.getD j z56) q2 q3 r1 r2 r5
            have p1 := coefProd q2 q3 r2 (show (box.getD j z56).f1 ≤ 10000 by omega)
            have p2 := coefProd q2 q3 (show -10000 ≤ (box.getD j z56).f2 by omega) r5
            have w1 : wrap64 ((rd_T70 l (i : Int)).f1 * (box.getD j z56).f1) = (rd_T70 l (i : Int)).f1 * (box.getD j z56).f1 := w64 (by omega) (by omega)
            have w2 : wrap64 ((rd_T70 l (i : Int)).f1 * (box.getD j z56).f2) = (rd_T70 l (i : Int)).f1 * (box.getD j z56).f2 := w64 (by omega) (by omega)
            have ih' := ih (i + 1) (by omega)
            by_cases hp : (rd_T70 l (i : Int)).f1 > 0
            · rw [if_pos hp] at he
              simp only [h1, h2, c2, c3, c4, if_true, if_false, hr, hp, decide_true, show (true == false) = false from rfl, Bool.false_eq_true, w1, w2, he]
              exact ih' _ _
            · rw [if_neg hp] at he
              simp only [h1, h2, c2, c3, c4, if_true, if_false, hr, hp, decide_false, show (false == false) = true from rfl, Bool.false_eq_true, w1, w2, he]
              exact ih' _ _
      exact key l.length 0 (by omega) c c
theorem spec_l9End_highT_ev (c : Int) (l : List S70) (box : List S56) (hl : l.length ≤ maxLen) (hs : ∀ x ∈ l, x.f0.size ≤ maxLen) (hb : box.length ≤ maxLen) (hbs : ∀ x ∈ box, x.f0.size ≤ maxLen) :
    Ev (fun k => spec_l9End.f k c l box true) (extB (extT c l box)) := by
  unfold spec_l9End.f extT extS
  have bad : Ev (fun k => spec_l9End.j0 k box true true c l) (extB none) := by
    refine Ev.step (fun k => by rw [spec_l9End.j0]) ?_
    simp only [if_true]
    exact Ev.now _
  refine Ev.then (spec_AffOk_ev c l hl hs) ?_
  cases e1 : affOkS S70.f0 S70.f1 c l with
  | false =>
    simp only [Bool.false_eq_true, if_false, Bool.false_and]
    exact bad
  | true =>
    simp only [if_true, Bool.true_and]
    refine Ev.then (spec_l9Full_ev box hb hbs) ?_
    cases e2 : fullS S56.f0 S56.f1 S56.f2 box with
    | false =>
      simp only [Bool.false_eq_true, if_false, Bool.not_false]
      exact bad
    | true =>
      simp only [if_true, Bool.not_true]
      refine Ev.step (fun k => by rw [spec_l9End.j0]) ?_
      simp only [Bool.false_eq_true, if_false]
      have ha : affOkL S70.f0 S70.f1 none l = true := by
        simp only [affOkS, Bool.and_eq_true] at e1
        exact e1.1
      have hal := affOkL_mem S70.f0 S70.f1 l none ha
      have hfu := (fullS_mem S56.f0 S56.f1 S56.f2 e2).1
      have key : ∀ d i, i + d = l.length → ∀ x y, Ev (fun k => spec_l9End.l0 k box true x (i : Int) c l) (extB (pairO (endL S70.f0 S56.f0 (lowT S70.f1 S56.f1 S56.f2) box (l.drop i) y) (endL S70.f0 S56.f0 (highT S70.f1 S56.f1 S56.f2) box (l.drop i) x))) := by
        intro d
        induction d with
        | zero =>
          intro i hi x y
          refine Ev.step (fun k => by rw [spec_l9End.l0]) ?_
          have c : ¬ (i : Int) < (l.length : Int) := by omega
          simp only [c, if_false]
          rw [List.drop_eq_nil_of_le (by omega)]
          exact Ev.now _
        | succ d ih =>
          intro i hi x y
          refine Ev.step (fun k => by rw [spec_l9End.l0]) ?_
          have c : (i : Int) < (l.length : Int) := by omega
          have c0 : (0 : Int) ≤ (i : Int) := by omega
          have hw : wrap64 ((i : Int) + 1) = ((i + 1 : Nat) : Int) := wi (n := l.length) (by omega) hl
          have hd : l.drop i = rd_T70 l (i : Int) :: l.drop (i + 1) := drop_cons l _ (by omega)
          have hm : rd_T70 l (i : Int) ∈ l := getD_mem l _ (by omega)
          obtain ⟨_, q1, q2, q3⟩ := hal _ hm
          rw [hd]
          simp only [c, c0, if_true, hw, endL]
          refine Ev.then (spec_l9At_ev box _ hb) ?_
          rcases idx_find S56.f0 z56 box 0 (rd_T70 l (i : Int)).f0 with ⟨h1, h2⟩ | ⟨j, hj, h1, h2⟩
          · have c2 : (-1 : Int) < 0 := by omega
            simp only [h1, h2, c2, if_true]
            exact Ev.now _
          · have c2 : ¬ ((0 + j : Nat) : Int) < 0 := by omega
            have c3 : (0 : Int) ≤ ((0 + j : Nat) : Int) := by omega
            have c4 : ((0 + j : Nat) : Int) < (box.length : Int) := by omega
            have hr : rd_T56 box ((0 + j : Nat) : Int) = box.getD j z56 := by
              unfold rd_T56
              rw [Int.toNat_natCast, Nat.zero_add]
            have hbm : box.getD j z56 ∈ box := getD_mem box _ hj
            obtain ⟨r1, r2, r3, r4, r5⟩ := hfu _ hbm
            have he := highT_eq S70.f1 S56.f1 S56.f2 (x := rd_T70 l (i : Int)) (r := box.getD j z56) q2 q3 r1 r2 r5
            have p1 := coefProd q2 q3 r2 (show (box.getD j z56).f1 ≤ 10000 by omega)
            have p2 := coefProd q2 q3 (show -10000 ≤ (box.getD j z56).f2 by omega) r5
            have w1 : wrap64 ((rd_T70 l (i : Int)).f1 * (box.getD j z56).f1) = (rd_T70 l (i : Int)).f1 * (box.getD j z56).f1 := w64 (by omega) (by omega)
            have w2 : wrap64 ((rd_T70 l (i : Int)).f1 * (box.getD j z56).f2) = (rd_T70 l (i : Int)).f1 * (box.getD j z56).f2 := w64 (by omega) (by omega)
            have ih' := ih (i + 1) (by omega)
            by_cases hp : (rd_T70 l (i : Int)).f1 > 0
            · rw [if_pos hp] at he
              simp only [h1, h2, c2, c3, c4, if_true, if_false, hr, hp, decide_true, show (true == true) = true from rfl, Bool.false_eq_true, w1, w2, he]
              exact ih' _ _
            · rw [if_neg hp] at he
              simp only [h1, h2, c2, c3, c4, if_true, if_false, hr, hp, decide_false, show (false == true) = false from rfl, Bool.false_eq_true, w1, w2, he]
              exact ih' _ _
      exact key l.length 0 (by omega) c c
theorem spec_Least_ev (c : Int) (l : List S70) (box : List S56) (hl : l.length ≤ maxLen) (hs : ∀ x ∈ l, x.f0.size ≤ maxLen) (hb : box.length ≤ maxLen) (hbs : ∀ x ∈ box, x.f0.size ≤ maxLen) :
    Ev (fun k => spec_Least.f k c l box) (extA (extT c l box)) := by
  unfold spec_Least.f
  exact Ev.then (spec_l9End_lowT_ev c l box hl hs hb hbs) (Ev.now _)
theorem spec_Most_ev (c : Int) (l : List S70) (box : List S56) (hl : l.length ≤ maxLen) (hs : ∀ x ∈ l, x.f0.size ≤ maxLen) (hb : box.length ≤ maxLen) (hbs : ∀ x ∈ box, x.f0.size ≤ maxLen) :
    Ev (fun k => spec_Most.f k c l box) (extB (extT c l box)) := by
  unfold spec_Most.f
  exact Ev.then (spec_l9End_highT_ev c l box hl hs hb hbs) (Ev.now _)
theorem impl_Rounds_ev (l : List S56) (hl : l.length ≤ maxLen) (hs : ∀ x ∈ l, x.f0.size ≤ maxLen) : Ev (fun k => impl_Rounds.f k l) (rndS S56.f0 S56.f1 S56.f2 l) := by
  unfold impl_Rounds.f rndS
  refine Ev.then (impl_isRight_ev l hl hs) ?_
  cases e2 : fullS S56.f0 S56.f1 S56.f2 l with
  | false =>
    simp only [Bool.false_eq_true, if_false]
    exact Ev.now _
  | true =>
    simp only [if_true]
    have hfu := (fullS_mem S56.f0 S56.f1 S56.f2 e2).1
    have key : ∀ d i, i + d = l.length → ∀ x : Int, 1 ≤ x → x ≤ 1000000 → Ev (fun k => impl_Rounds.l0 k x l (l.length : Int) (i : Int)) (rndL S56.f1 S56.f2 (l.drop i) x) := by
      intro d
      induction d with
      | zero =>
        intro i hi x h1 h2
        refine Ev.step (fun k => by rw [impl_Rounds.l0]) ?_
        have c : ¬ (i : Int) < (l.length : Int) := by omega
        simp only [c, if_false]
        rw [List.drop_eq_nil_of_le (by omega)]
        exact Ev.now _
      | succ d ih =>
        intro i hi x h1 h2
        refine Ev.step (fun k => by rw [impl_Rounds.l0]) ?_
        have c : (i : Int) < (l.length : Int) := by omega
        have c0 : (0 : Int) ≤ (i : Int) := by omega
        have hw : wrap64 ((i : Int) + 1) = ((i + 1 : Nat) : Int) := wi (n := l.length) (by omega) hl
        have hd : l.drop i = rd_T56 l (i : Int) :: l.drop (i + 1) := drop_cons l _ (by omega)
        have hm : rd_T56 l (i : Int) ∈ l := getD_mem l _ (by omega)
        obtain ⟨r1, r2, r3, r4, r5⟩ := hfu _ hm
        have w1 : wrap64 ((rd_T56 l (i : Int)).f2 - (rd_T56 l (i : Int)).f1) = (rd_T56 l (i : Int)).f2 - (rd_T56 l (i : Int)).f1 := w64 (by omega) (by omega)
        have w2 : wrap64 ((rd_T56 l (i : Int)).f2 - (rd_T56 l (i : Int)).f1 + 1) = (rd_T56 l (i : Int)).f2 - (rd_T56 l (i : Int)).f1 + 1 := w64 (by omega) (by omega)
        have b1 : 0 ≤ (x - 1) * ((rd_T56 l (i : Int)).f2 - (rd_T56 l (i : Int)).f1) := Int.mul_nonneg (by omega) (by omega)
        have b2 : 0 ≤ x * (20000 - ((rd_T56 l (i : Int)).f2 - (rd_T56 l (i : Int)).f1)) := Int.mul_nonneg (by omega) (by omega)
        have b3 : 1 ≤ x * ((rd_T56 l (i : Int)).f2 - (rd_T56 l (i : Int)).f1 + 1) ∧ x * ((rd_T56 l (i : Int)).f2 - (rd_T56 l (i : Int)).f1 + 1) ≤ 20001000000 := by
          have hy : 0 ≤ (rd_T56 l (i : Int)).f2 - (rd_T56 l (i : Int)).f1 := by omega
          generalize (rd_T56 l (i : Int)).f2 - (rd_T56 l (i : Int)).f1 = y at b1 b2 hy ⊢
          simp only [Int.sub_mul, Int.add_mul, Int.mul_sub, Int.mul_add] at b1 b2 ⊢
          omega
        have w3 : wrap64 (x * ((rd_T56 l (i : Int)).f2 - (rd_T56 l (i : Int)).f1 + 1)) = x * ((rd_T56 l (i : Int)).f2 - (rd_T56 l (i : Int)).f1 + 1) := w64 (by omega) (by omega)
        rw [hd]
        simp only [c, c0, if_true, w1, w2, w3, hw, rndL]
        refine ih (i + 1) (by omega) _ ?_ ?_ <;> (unfold mn; split <;> omega)
    exact key l.length 0 (by omega) 1 (by omega) (by omega)
theorem impl_Wrap_eq (a : Int) : impl_Wrap.f a = some (wrap32 a) := by
  unfold impl_Wrap.f
  simp only [wrap64, wrap32]
  congr 1
  omega
theorem spec_Wrap_eq (a : Int) : spec_Wrap.f a = some (wrap32 a) := by
  unfold spec_Wrap.f
  rw [bits_and32]
  simp only [wrap64, wrap32]
  split <;> · congr 1; omega
theorem wrap32_range (a : Int) : -2147483648 ≤ wrap32 a ∧ wrap32 a ≤ 2147483647 := by
  unfold wrap32
  omega
theorem spec_l1Abs_eq (a : Int) (h : -2147483648 ≤ a ∧ a ≤ 2147483647) : spec_l1Abs.f a = some ((a.natAbs : Nat) : Int) := by
  unfold spec_l1Abs.f
  rw [w64 (by omega) (by omega)]
  split <;> · congr 1; omega
theorem impl_size_eq (a : Int) (h : -2147483648 ≤ a ∧ a ≤ 2147483647) : impl_size.f a = some ((a.natAbs : Nat) : Int) := by
  unfold impl_size.f mx
  rw [w64 (by omega) (by omega)]
  congr 1
  split <;> omega
theorem tmod_nat (a b : Nat) : Int.tmod (a : Int) (b : Int) = ((a % b : Nat) : Int) := by
  rw [Int.tmod_eq_emod_of_nonneg (by omega)]
  exact (Int.natCast_emod a b).symm
theorem spec_Gcd_l0_ev : ∀ (b a : Nat), Ev (fun k => spec_Gcd.l0 k (a : Int) (b : Int)) ((Nat.gcd b a : Nat) : Int) := by
  intro b
  induction b using Nat.strongRecOn with
  | ind b ih =>
    intro a
    refine Ev.step (fun k => by rw [spec_Gcd.l0]) ?_
    by_cases c : b = 0
    · subst c
      simp only [Int.natCast_zero, if_true, Nat.gcd_zero_left]
      exact Ev.now _
    · have c' : ¬ (b : Int) = 0 := by omega
      simp only [c', if_false, tmod_nat]
      have := ih (a % b) (Nat.mod_lt _ (by omega)) b
      rwa [← Nat.gcd_rec b a] at this
theorem impl_Gcd_l0_ev : ∀ (b a : Nat), Ev (fun k => impl_Gcd.l0 k (a : Int) (b : Int)) ((Nat.gcd b a : Nat) : Int) := by
  intro b
  induction b using Nat.strongRecOn with
  | ind b ih =>
    intro a
    refine Ev.step (fun k => by rw [impl_Gcd.l0]) ?_
    by_cases c : b = 0
    · subst c
      simp only [Int.natCast_zero, if_true, Nat.gcd_zero_left]
      exact Ev.now _
    · have c' : ¬ (b : Int) = 0 := by omega
      simp only [c', if_false, tmod_nat]
      have := ih (a % b) (Nat.mod_lt _ (by omega)) b
      rwa [← Nat.gcd_rec b a] at this
def gcdS (a b : Int) : Int := ((Nat.gcd (wrap32 b).natAbs (wrap32 a).natAbs : Nat) : Int)
theorem spec_Gcd_ev (a b : Int) : Ev (fun k => spec_Gcd.f k a b) (gcdS a b) := by
  unfold spec_Gcd.f
  simp only [spec_Wrap_eq, Option.bind_some, spec_l1Abs_eq _ (wrap32_range _)]
  exact spec_Gcd_l0_ev _ _
theorem impl_Gcd_ev (a b : Int) : Ev (fun k => impl_Gcd.f k a b) (gcdS a b) := by
  unfold impl_Gcd.f
  simp only [impl_Wrap_eq, Option.bind_some, impl_size_eq _ (wrap32_range _)]
  exact impl_Gcd_l0_ev _ _
def gcdL (n : Int) (l : List S70) : Int := l.foldl (fun a x => gcdS a x.f1) n
def gcdMeetS (c : Int) (l : List S70) (c2 : Int) (l2 : List S70) : Bool :=
  if (affOkS S70.f0 S70.f1 c l && affOkS S70.f0 S70.f1 c2 l2) = true then (if gcdL (gcdL 0 l) l2 = 0 then c == c2 else (Int.tmod (wrap64 (c - c2)) (gcdL (gcdL 0 l) l2)) == 0) else false
theorem concat_ev (a b : List S70) (ha : a.length ≤ 1048576) (hb : b.length ≤ 1048576) : Ev (fun k => impl_Term_70.f k [a, b]) (a ++ b) := by
  unfold impl_Term_70.f
  have r0 : rd_L5 [a, b] 0 = a := rfl
  have r1 : rd_L5 [a, b] 1 = b := rfl
  have e1 : wrap64 (0 + (a.length : Int)) = (a.length : Int) := by rw [Int.zero_add]; exact w64 (by omega) (by omega)
  have e2 : wrap64 ((a.length : Int) + (b.length : Int)) = (a.length : Int) + (b.length : Int) := w64 (by omega) (by omega)
  have e3 : wrap64 ((0 : Int) + 1) = 1 := w64 (by omega) (by omega)
  have e4 : wrap64 ((1 : Int) + 1) = 2 := w64 (by omega) (by omega)
  have c1 : (0 : Int) < (([a, b] : List (List S70)).length : Int) := by simp
  have c2 : (1 : Int) < (([a, b] : List (List S70)).length : Int) := by simp
  have c3 : ¬ (2 : Int) < (([a, b] : List (List S70)).length : Int) := by simp
  have d1 : ¬ (a.length : Int) < 0 := by omega
  have d2 : ¬ (a.length : Int) + (b.length : Int) < 0 := by omega
  have z0 : (0 : Int) ≤ 0 := by omega
  have z1 : (0 : Int) ≤ 1 := by omega
  refine Ev.step (fun k => by rw [impl_Term_70.l0]) ?_
  simp only [c1, z0, if_true, r0, e1, e3, d1, if_false]
  refine Ev.step (fun k => by rw [impl_Term_70.l0]) ?_
  simp only [c2, z1, if_true, r1, e2, e4, d2, if_false]
  refine Ev.step (fun k => by rw [impl_Term_70.l0]) ?_
  simp only [c3, if_false]
  have hg : impl_Term_91.f ([] : List S70) ((a.length : Int) + (b.length : Int)) = some [] := by
    unfold impl_Term_91.f
    rw [if_pos (by omega), if_pos (by omega)]
  simp only [hg, Option.bind_some]
  have l1 : ([] : List S70).length + a.length < 5864062014805 := by simp; omega
  have l2 : a.length + b.length < 5864062014805 := by omega
  refine Ev.step (fun k => by rw [impl_Term_70.l1]) ?_
  simp only [c1, z0, if_true, r0, e3, l1, List.nil_append]
  refine Ev.step (fun k => by rw [impl_Term_70.l1]) ?_
  simp only [c2, z1, if_true, r1, e4, l2]
  refine Ev.step (fun k => by rw [impl_Term_70.l1]) ?_
  simp only [c3, if_false]
  exact Ev.now _
theorem affOkS_c {c : Int} {l : List S70} (h : affOkS S70.f0 S70.f1 c l = true) : -100000 ≤ c ∧ c ≤ 100000 := by
  simp only [affOkS, coefOk, Bool.and_eq_true, decide_eq_true_eq] at h
  exact h.2
theorem impl_GcdMeet_ev (c : Int) (l : List S70) (c2 : Int) (l2 : List S70) (hl : l.length ≤ 1048576) (hs : ∀ x ∈ l, x.f0.size ≤ maxLen) (hl2 : l2.length ≤ 1048576) (hs2 : ∀ x ∈ l2, x.f0.size ≤ maxLen) :
    Ev (fun k => impl_GcdMeet.f k c l c2 l2) (gcdMeetS c l c2 l2) := by
  unfold impl_GcdMeet.f gcdMeetS
  have m1 : l.length ≤ maxLen := by simp only [maxLen]; omega
  have m2 : l2.length ≤ maxLen := by simp only [maxLen]; omega
  have bad : Ev (fun k => impl_GcdMeet.j0 k true c l c2 l2) false := by
    refine Ev.step (fun k => by rw [impl_GcdMeet.j0]) ?_
    simp only [if_true]
    exact Ev.now _
  refine Ev.then (impl_AffOk_ev c l m1 hs) ?_
  cases e1 : affOkS S70.f0 S70.f1 c l with
  | false =>
    simp only [Bool.false_eq_true, if_false, Bool.false_and]
    exact bad
  | true =>
    simp only [if_true, Bool.true_and]
    refine Ev.then (impl_AffOk_ev c2 l2 m2 hs2) ?_
    cases e2 : affOkS S70.f0 S70.f1 c2 l2 with
    | false =>
      simp only [Bool.false_eq_true, if_false, Bool.not_false]
      exact bad
    | true =>
      simp only [if_true, Bool.not_true]
      have k1 := affOkS_c e1
      have k2 := affOkS_c e2
      have hw : wrap64 (c - c2) = c - c2 := w64 (by omega) (by omega)
      refine Ev.step (fun k => by rw [impl_GcdMeet.j0]) ?_
      simp only [Bool.false_eq_true, if_false]
      refine Ev.then (concat_ev l l2 hl hl2) ?_
      have hL : (l ++ l2).length ≤ maxLen := by simp [maxLen]; omega
      have hG : gcdL (gcdL 0 l) l2 = gcdL 0 (l ++ l2) := by
        unfold gcdL
        rw [List.foldl_append]
      rw [hG]
      generalize l ++ l2 = q at hL
      have key : ∀ d i, i + d = q.length → ∀ x, Ev (fun k => impl_GcdMeet.l0 k x q (q.length : Int) (i : Int) c l c2 l2) (if gcdL x (q.drop i) = 0 then c == c2 else (Int.tmod (wrap64 (c - c2)) (gcdL x (q.drop i))) == 0) := by
        intro d
        induction d with
        | zero =>
          intro i hi x
          refine Ev.step (fun k => by rw [impl_GcdMeet.l0]) ?_
          have cq : ¬ (i : Int) < (q.length : Int) := by omega
          simp only [cq, if_false]
          rw [List.drop_eq_nil_of_le (by omega)]
          show Ev _ (if x = 0 then _ else (Int.tmod _ x) == 0)
          by_cases e : x = 0
          · simp only [e, if_true, hw]
            have : (c - c2 == 0) = (c == c2) := by
              rw [Bool.eq_iff_iff]
              simp only [beq_iff_eq]
              omega
            rw [this]
            exact Ev.now _
          · simp only [e, if_false]
            exact Ev.now _
        | succ d ih =>
          intro i hi x
          refine Ev.step (fun k => by rw [impl_GcdMeet.l0]) ?_
          have c : (i : Int) < (q.length : Int) := by omega
          have c0 : (0 : Int) ≤ (i : Int) := by omega
          have hw : wrap64 ((i : Int) + 1) = ((i + 1 : Nat) : Int) := wi (n := q.length) (by omega) hL
          have hd : q.drop i = rd_T70 q (i : Int) :: q.drop (i + 1) := drop_cons q _ (by omega)
          rw [hd]
          simp only [c, c0, if_true, hw]
          exact Ev.then (impl_Gcd_ev x _) (ih (i + 1) (by omega) _)
      exact key q.length 0 (by omega) 0
theorem spec_GcdMeet_ev (c : Int) (l : List S70) (c2 : Int) (l2 : List S70) (hl : l.length ≤ maxLen) (hs : ∀ x ∈ l, x.f0.size ≤ maxLen) (hl2 : l2.length ≤ maxLen) (hs2 : ∀ x ∈ l2, x.f0.size ≤ maxLen) :
    Ev (fun k => spec_GcdMeet.f k c l c2 l2) (gcdMeetS c l c2 l2) := by
  unfold spec_GcdMeet.f gcdMeetS
  have bad : Ev (fun k => spec_GcdMeet.j0 k true c l c2 l2) false := by
    refine Ev.step (fun k => by rw [spec_GcdMeet.j0]) ?_
    simp only [if_true]
    exact Ev.now _
  refine Ev.then (spec_AffOk_ev c l hl hs) ?_
  cases e1 : affOkS S70.f0 S70.f1 c l with
  | false =>
    simp only [Bool.false_eq_true, if_false, Bool.false_and]
    exact bad
  | true =>
    simp only [if_true, Bool.true_and]
    refine Ev.then (spec_AffOk_ev c2 l2 hl2 hs2) ?_
    cases e2 : affOkS S70.f0 S70.f1 c2 l2 with
    | false =>
      simp only [Bool.false_eq_true, if_false, Bool.not_false]
      exact bad
    | true =>
      simp only [if_true, Bool.not_true]
      refine Ev.step (fun k => by rw [spec_GcdMeet.j0]) ?_
      simp only [Bool.false_eq_true, if_false]
      have key1 : ∀ d i, i + d = l2.length → ∀ x, Ev (fun k => spec_GcdMeet.l1 k x (i : Int) c l c2 l2) (if gcdL x (l2.drop i) = 0 then c == c2 else (Int.tmod (wrap64 (c - c2)) (gcdL x (l2.drop i))) == 0) := by
        intro d
        induction d with
        | zero =>
          intro i hi x
          refine Ev.step (fun k => by rw [spec_GcdMeet.l1]) ?_
          have c : ¬ (i : Int) < (l2.length : Int) := by omega
          simp only [c, if_false]
          rw [List.drop_eq_nil_of_le (by omega)]
          show Ev _ (if x = 0 then _ else (Int.tmod _ x) == 0)
          by_cases e : x = 0
          · simp only [e, if_true]
            exact Ev.now _
          · simp only [e, if_false]
            exact Ev.now _
        | succ d ih =>
          intro i hi x
          refine Ev.step (fun k => by rw [spec_GcdMeet.l1]) ?_
          have c : (i : Int) < (l2.length : Int) := by omega
          have c0 : (0 : Int) ≤ (i : Int) := by omega
          have hw : wrap64 ((i : Int) + 1) = ((i + 1 : Nat) : Int) := wi (n := l2.length) (by omega) hl2
          have hd : l2.drop i = rd_T70 l2 (i : Int) :: l2.drop (i + 1) := drop_cons l2 _ (by omega)
          rw [hd]
          simp only [c, c0, if_true, hw]
          exact Ev.then (spec_Gcd_ev x _) (ih (i + 1) (by omega) _)
      have key : ∀ d i, i + d = l.length → ∀ x, Ev (fun k => spec_GcdMeet.l0 k x (i : Int) c l c2 l2) (if gcdL (gcdL x (l.drop i)) l2 = 0 then c == c2 else (Int.tmod (wrap64 (c - c2)) (gcdL (gcdL x (l.drop i)) l2)) == 0) := by
        intro d
        induction d with
        | zero =>
          intro i hi x
          refine Ev.step (fun k => by rw [spec_GcdMeet.l0]) ?_
          have c : ¬ (i : Int) < (l.length : Int) := by omega
          simp only [c, if_false]
          rw [List.drop_eq_nil_of_le (by omega)]
          exact key1 l2.length 0 (by omega) x
        | succ d ih =>
          intro i hi x
          refine Ev.step (fun k => by rw [spec_GcdMeet.l0]) ?_
          have c : (i : Int) < (l.length : Int) := by omega
          have c0 : (0 : Int) ≤ (i : Int) := by omega
          have hw : wrap64 ((i : Int) + 1) = ((i + 1 : Nat) : Int) := wi (n := l.length) (by omega) hl
          have hd : l.drop i = rd_T70 l (i : Int) :: l.drop (i + 1) := drop_cons l _ (by omega)
          rw [hd]
          simp only [c, c0, if_true, hw]
          exact Ev.then (spec_Gcd_ev x _) (ih (i + 1) (by omega) _)
      exact key l.length 0 (by omega) 0
def rngB (e f : Option (Int × Int)) : Bool := match e, f with
  | some (a, b), some (c, d) => decide (a ≤ d) && decide (c ≤ b)
  | _, _ => false
theorem impl_RngMeet_ev (c : Int) (l : List S70) (c2 : Int) (l2 : List S70) (box : List S56) (hl : l.length ≤ maxLen) (hs : ∀ x ∈ l, x.f0.size ≤ maxLen) (hl2 : l2.length ≤ maxLen) (hs2 : ∀ x ∈ l2, x.f0.size ≤ maxLen) (hb : box.length ≤ maxLen) (hbs : ∀ x ∈ box, x.f0.size ≤ maxLen) :
    Ev (fun k => impl_RngMeet.f k c l c2 l2 box) (rngB (extT c l box) (extT c2 l2 box)) := by
  unfold impl_RngMeet.f
  refine Ev.then (impl_extremes_ev c l box hl hs hb hbs) (Ev.then (impl_extremes_ev c2 l2 box hl2 hs2 hb hbs) ?_)
  rcases extT c l box with _ | ⟨a, b⟩
  · simp only [ext3, Bool.false_eq_true, if_false]
    exact Ev.now _
  · rcases extT c2 l2 box with _ | ⟨a', b'⟩
    · simp only [ext3, Bool.false_eq_true, if_true, if_false]
      exact Ev.now _
    · simp only [ext3, if_true]
      exact Ev.const (fun k => if_and _)
theorem spec_RngMeet_ev (c : Int) (l : List S70) (c2 : Int) (l2 : List S70) (box : List S56) (hl : l.length ≤ maxLen) (hs : ∀ x ∈ l, x.f0.size ≤ maxLen) (hl2 : l2.length ≤ maxLen) (hs2 : ∀ x ∈ l2, x.f0.size ≤ maxLen) (hb : box.length ≤ maxLen) (hbs : ∀ x ∈ box, x.f0.size ≤ maxLen) :
    Ev (fun k => spec_RngMeet.f k c l c2 l2 box) (rngB (extT c l box) (extT c2 l2 box)) := by
  unfold spec_RngMeet.f
  refine Ev.then (spec_Least_ev c l box hl hs hb hbs) (Ev.then (spec_Most_ev c l box hl hs hb hbs) (Ev.then (spec_Least_ev c2 l2 box hl2 hs2 hb hbs) (Ev.then (spec_Most_ev c2 l2 box hl2 hs2 hb hbs) ?_)))
  rcases extT c l box with _ | ⟨a, b⟩
  · simp only [extA, Bool.false_eq_true, if_false]
    exact Ev.now _
  · rcases extT c2 l2 box with _ | ⟨a', b'⟩
    · simp only [extA, Bool.false_eq_true, if_true, if_false]
      exact Ev.now _
    · simp only [extA, extB, if_true]
      exact Ev.const (fun k => if_and _)
/-! ### all that a sum may be, in a box -/
theorem wrap_addL (a b : Int) : wrap64 (wrap64 a + b) = wrap64 (a + b) := by
  unfold wrap64
  omega
theorem wrap_addR (a b : Int) : wrap64 (a + wrap64 b) = wrap64 (a + b) := by
  unfold wrap64
  omega
theorem wrap_rep (a : Int) : ∃ t, wrap64 a = a + 18446744073709551616 * t := by
  refine ⟨-((a + 9223372036854775808) / 18446744073709551616), ?_⟩
  unfold wrap64
  omega
theorem wrap_per (a t : Int) : wrap64 (a + 18446744073709551616 * t) = wrap64 a := by
  unfold wrap64
  omega
def sumB (bs : List S76) : List S70 → Int
  | [] => 0
  | x :: xs => x.f1 * boundS S76.f0 S76.f1 bs x.f0 + sumB bs xs
theorem affAt_sum (bs : List S76) : ∀ (l : List S70) (c : Int), -9223372036854775808 ≤ c → c < 9223372036854775808 → affAtL S70.f0 S70.f1 S76.f0 S76.f1 bs l c = wrap64 (c + sumB bs l)
  | [], c, h1, h2 => by
    simp only [affAtL, sumB, Int.add_zero]
    exact (w64 h1 h2).symm
  | x :: xs, c, h1, h2 => by
    have hr := wrap64_range (c + wrap64 (x.f1 * boundS S76.f0 S76.f1 bs x.f0))
    simp only [affAtL, sumB]
    rw [affAt_sum bs xs _ hr.1 hr.2, wrap_addL, Int.add_assoc, Int.add_comm (wrap64 _) _, ← Int.add_assoc, wrap_addR]
    congr 1
    omega
/-- Names that are not the same. -/
def Apart {α : Type} (nm : α → ByteArray) (l : List α) : Prop := l.Pairwise fun a b => ¬ (nm a).toList = (nm b).toList
theorem lastR_none (xs : List S76) (s : ByteArray) (h : ∀ x ∈ xs, ¬ x.f0.toList = s.toList) : lastR S76.f0 S76.f1 xs s = 0 := by
  induction xs with
  | nil => rfl
  | cons x xs ih =>
    have hx := h x List.mem_cons_self
    simp only [lastR, hx, if_false]
    exact ih fun y hy => h y (List.mem_cons_of_mem _ hy)
theorem lastR_snoc (b : S76) (s : ByteArray) : ∀ (xs : List S76), (∀ x ∈ xs, ¬ x.f0.toList = b.f0.toList) → lastR S76.f0 S76.f1 (xs ++ [b]) s = if b.f0.toList = s.toList then b.f1 else lastR S76.f0 S76.f1 xs s
  | [], _ => by simp [lastR]
  | x :: xs, h => by
    have hx := h x List.mem_cons_self
    have ih := lastR_snoc b s xs fun y hy => h y (List.mem_cons_of_mem _ hy)
    simp only [List.cons_append, lastR]
    rw [ih]
    by_cases e : x.f0.toList = s.toList
    · have e2 : ¬ b.f0.toList = s.toList := fun e2 => hx (e.trans e2.symm)
      simp only [e, e2, if_true, if_false]
    · simp only [e, if_false]
theorem bound_cons (b : S76) (bs : List S76) (s : ByteArray) (h : ∀ x ∈ bs, ¬ x.f0.toList = b.f0.toList) : boundS S76.f0 S76.f1 (b :: bs) s = if b.f0.toList = s.toList then b.f1 else boundS S76.f0 S76.f1 bs s := by
  unfold boundS
  rw [List.reverse_cons]
  exact lastR_snoc b s bs.reverse fun x hx => h x (List.mem_reverse.1 hx)
theorem coefL_none (l : List S70) (s : ByteArray) (h : ∀ x ∈ l, ¬ x.f0.toList = s.toList) : coefL S70.f0 S70.f1 l s = 0 := by
  induction l with
  | nil => rfl
  | cons x xs ih =>
    have hx := h x List.mem_cons_self
    simp only [coefL, hx, if_false]
    exact ih fun y hy => h y (List.mem_cons_of_mem _ hy)
theorem sumB_skip (b : S76) (bs : List S76) (h : ∀ x ∈ bs, ¬ x.f0.toList = b.f0.toList) : ∀ (l : List S70), (∀ x ∈ l, ¬ b.f0.toList = x.f0.toList) → sumB (b :: bs) l = sumB bs l
  | [], _ => rfl
  | x :: xs, hl => by
    have hx := hl x List.mem_cons_self
    simp only [sumB]
    rw [bound_cons b bs x.f0 h, if_neg hx, sumB_skip b bs h xs fun y hy => hl y (List.mem_cons_of_mem _ hy)]
theorem sumB_cons (b : S76) (bs : List S76) (h : ∀ x ∈ bs, ¬ x.f0.toList = b.f0.toList) : ∀ (l : List S70), Apart S70.f0 l → sumB (b :: bs) l = coefL S70.f0 S70.f1 l b.f0 * b.f1 + sumB bs l
  | [], _ => by simp [sumB, coefL]
  | x :: xs, hl => by
    have hp := List.pairwise_cons.1 hl
    simp only [sumB, coefL]
    rw [bound_cons b bs x.f0 h]
    by_cases e : b.f0.toList = x.f0.toList
    · have e' := e.symm
      have z : boundS S76.f0 S76.f1 bs x.f0 = 0 := lastR_none _ _ fun y hy => fun e2 => h y (List.mem_reverse.1 hy) (e2.trans e')
      rw [if_pos e, if_pos e', sumB_skip b bs h xs fun y hy => fun e2 => hp.1 y hy (e'.trans e2), z, Int.mul_zero]
      omega
    · have e' : ¬ x.f0.toList = b.f0.toList := fun e2 => e e2.symm
      rw [if_neg e, if_neg e', sumB_cons b bs h xs hp.2]
      omega
def szR (r : S56) : Int := r.f2 - r.f1 + 1
/-- How many choices there are; a name aside. -/
def prodN (s : ByteArray) : List S56 → Int
  | [] => 1
  | r :: rs => if r.f0.toList = s.toList then prodN s rs else szR r * prodN s rs
def prodA : List S56 → Int
  | [] => 1
  | r :: rs => szR r * prodA rs
def Reach (co : ByteArray → Int) (s : ByteArray) : List S56 → Int → Int → Prop
  | [], x, v => v = x
  | r :: rs, x, v => if r.f0.toList = s.toList then Reach co s rs x v else ∃ n, r.f1 ≤ n ∧ n ≤ r.f2 ∧ Reach co s rs (x + co r.f0 * n) v
theorem Reach_shift (co : ByteArray → Int) (s : ByteArray) (d : Int) : ∀ (rs : List S56) (x v : Int), Reach co s rs x v → Reach co s rs (x + d) (v + d)
  | [], x, v, h => by
    simp only [Reach] at h ⊢
    omega
  | r :: rs, x, v, h => by
    simp only [Reach] at h ⊢
    by_cases e : r.f0.toList = s.toList
    · simp only [e, if_true] at h ⊢
      exact Reach_shift co s d rs x v h
    · simp only [e, if_false] at h ⊢
      obtain ⟨n, h1, h2, h3⟩ := h
      refine ⟨n, h1, h2, ?_⟩
      have := Reach_shift co s d rs _ _ h3
      rwa [show x + d + co r.f0 * n = x + co r.f0 * n + d by omega]
def decB (s : ByteArray) : List S56 → Int → List S76 → List S76
  | [], _, bs => bs
  | r :: rs, y, bs => if r.f0.toList = s.toList then decB s rs y bs else decB s rs (Int.tdiv y (szR r)) (⟨r.f0, r.f1 + Int.tmod y (szR r)⟩ :: bs)
theorem prodN_pos (s : ByteArray) : ∀ (rs : List S56), (∀ r ∈ rs, r.f1 ≤ r.f2) → 1 ≤ prodN s rs
  | [], _ => by simp [prodN]
  | r :: rs, h => by
    have h1 := h r List.mem_cons_self
    have ih := prodN_pos s rs fun x hx => h x (List.mem_cons_of_mem _ hx)
    unfold prodN
    by_cases e : r.f0.toList = s.toList
    · rw [if_pos e]
      exact ih
    · rw [if_neg e]
      have a : 0 ≤ (szR r - 1) * prodN s rs := Int.mul_nonneg (by unfold szR; omega) (by omega)
      rw [Int.sub_mul] at a
      omega
theorem dec_reach (s : ByteArray) (l : List S70) (hl : Apart S70.f0 l) : ∀ (rs : List S56) (bs : List S76), (∀ r ∈ rs, r.f1 ≤ r.f2) → Apart S56.f0 rs → (∀ r ∈ rs, ¬ r.f0.toList = s.toList → ∀ b ∈ bs, ¬ b.f0.toList = r.f0.toList) → ∀ v,
    (∃ y, 0 ≤ y ∧ y < prodN s rs ∧ sumB (decB s rs y bs) l = v) ↔ Reach (coefL S70.f0 S70.f1 l) s rs (sumB bs l) v
  | [], bs, _, _, _, v => by
    simp only [decB, prodN, Reach]
    constructor
    · rintro ⟨y, _, _, h⟩
      exact h.symm
    · intro h
      exact ⟨0, by omega, by omega, h.symm⟩
  | r :: rs, bs, hle, hap, hbs, v => by
    have hp := List.pairwise_cons.1 hap
    have hle' : ∀ x ∈ rs, x.f1 ≤ x.f2 := fun x hx => hle x (List.mem_cons_of_mem _ hx)
    by_cases e : r.f0.toList = s.toList
    · simp only [decB, prodN, Reach, e, if_true]
      exact dec_reach s l hl rs bs hle' hp.2 (fun x hx => hbs x (List.mem_cons_of_mem _ hx)) v
    · simp only [decB, prodN, Reach, e, if_false]
      have h1 := hle r List.mem_cons_self
      have hm : 0 < szR r := by unfold szR; omega
      have hb := hbs r List.mem_cons_self e
      have ih := fun n => dec_reach s l hl rs (⟨r.f0, n⟩ :: bs) hle' hp.2 (fun x hx hn b hb' => by
        rcases List.mem_cons.1 hb' with rfl | hb'
        · exact hp.1 x hx
        · exact hbs x (List.mem_cons_of_mem _ hx) hn b hb')
      have sc : ∀ n, sumB (⟨r.f0, n⟩ :: bs) l = sumB bs l + coefL S70.f0 S70.f1 l r.f0 * n := by
        intro n
        rw [sumB_cons ⟨r.f0, n⟩ bs hb l hl]
        exact Int.add_comm _ _
      constructor
      · rintro ⟨y, y0, y1, hv⟩
        rw [Int.tdiv_eq_ediv_of_nonneg y0, Int.tmod_eq_emod_of_nonneg y0] at hv
        have m0 := Int.emod_nonneg y (show szR r ≠ 0 by omega)
        have m1 := Int.emod_lt_of_pos y hm
        refine ⟨r.f1 + y % szR r, by omega, by unfold szR at m1 ⊢; omega, ?_⟩
        rw [← sc]
        refine (ih _ v).1 ⟨y / szR r, Int.ediv_nonneg y0 (by omega), ?_, hv⟩
        exact Int.ediv_lt_of_lt_mul hm (by rw [Int.mul_comm]; exact y1)
      · rintro ⟨n, n1, n2, hv⟩
        rw [← sc] at hv
        obtain ⟨y, y0, y1, hy⟩ := (ih n v).2 hv
        have k0 : 0 ≤ n - r.f1 := by omega
        have k1 : n - r.f1 < szR r := by unfold szR; omega
        have p0 : 0 ≤ y * szR r := Int.mul_nonneg y0 (by omega)
        refine ⟨n - r.f1 + y * szR r, by omega, ?_, ?_⟩
        · have a : 0 ≤ (prodN s rs - 1 - y) * szR r := Int.mul_nonneg (by omega) (by omega)
          rw [Int.sub_mul, Int.sub_mul] at a
          rw [Int.mul_comm (szR r)]
          omega
        · rw [Int.tdiv_eq_ediv_of_nonneg (by omega), Int.tmod_eq_emod_of_nonneg (by omega), Int.add_mul_emod_self_right, Int.emod_eq_of_lt k0 k1, Int.add_mul_ediv_right _ _ (by omega), Int.ediv_eq_zero_of_lt k0 k1, Int.zero_add]
          rw [show r.f1 + (n - r.f1) = n by omega]
          exact hy
def rangeL : Int → Nat → List Int
  | _, 0 => []
  | n, d + 1 => n :: rangeL (n + 1) d
theorem mem_rangeL (v : Int) : ∀ (d : Nat) (n : Int), v ∈ rangeL n d ↔ n ≤ v ∧ v < n + d
  | 0, n => by
    simp only [rangeL, List.not_mem_nil, false_iff]
    omega
  | d + 1, n => by
    simp only [rangeL, List.mem_cons, mem_rangeL v d (n + 1)]
    omega
theorem rangeL_length : ∀ (d : Nat) (n : Int), (rangeL n d).length = d
  | 0, _ => rfl
  | d + 1, n => by simp [rangeL, rangeL_length d]
def stepL (c : Int) (r : S56) (x : Int) : List Int := (rangeL r.f1 (szR r).toNat).map fun n => wrap64 (x + wrap64 (c * n))
def valsL (co : ByteArray → Int) (s : ByteArray) : List S56 → List Int → List Int
  | [], out => out
  | r :: rs, out => if r.f0.toList = s.toList ∨ co r.f0 = 0 then valsL co s rs out else valsL co s rs (out.flatMap (stepL (co r.f0) r))
theorem flat_len (c : Int) (r : S56) : ∀ (out : List Int), (out.flatMap (stepL c r)).length = out.length * (szR r).toNat
  | [] => by simp
  | x :: xs => by
    rw [List.flatMap_cons, List.length_append, flat_len c r xs]
    simp only [stepL, List.length_map, rangeL_length, List.length_cons, Nat.succ_mul]
    omega
def InR (l : List Int) : Prop := ∀ x ∈ l, -9223372036854775808 ≤ x ∧ x < 9223372036854775808
theorem flat_in (c : Int) (r : S56) (out : List Int) : InR (out.flatMap (stepL c r)) := by
  intro x hx
  obtain ⟨y, _, hy⟩ := List.mem_flatMap.1 hx
  obtain ⟨n, _, rfl⟩ := List.mem_map.1 hy
  exact wrap64_range _
theorem vals_reach (co : ByteArray → Int) (s : ByteArray) : ∀ (rs : List S56) (out : List Int), (∀ r ∈ rs, r.f1 ≤ r.f2) → InR out → InR (valsL co s rs out) ∧ ∀ v, v ∈ valsL co s rs out ↔ ∃ x ∈ out, ∃ u, Reach co s rs x u ∧ v = wrap64 u
  | [], out, _, hin => by
    refine ⟨hin, fun v => ?_⟩
    simp only [valsL, Reach]
    constructor
    · intro hv
      exact ⟨v, hv, v, rfl, (w64 (hin v hv).1 (hin v hv).2).symm⟩
    · rintro ⟨x, hx, u, rfl, rfl⟩
      rw [w64 (hin u hx).1 (hin u hx).2]
      exact hx
  | r :: rs, out, hle, hin => by
    have h1 := hle r List.mem_cons_self
    have hle' : ∀ x ∈ rs, x.f1 ≤ x.f2 := fun x hx => hle x (List.mem_cons_of_mem _ hx)
    by_cases e : r.f0.toList = s.toList
    · simp only [valsL, Reach, e, true_or, if_true]
      exact vals_reach co s rs out hle' hin
    · by_cases e0 : co r.f0 = 0
      · simp only [valsL, Reach, e, e0, or_true, if_true, if_false, Int.zero_mul, Int.add_zero]
        have ih := vals_reach co s rs out hle' hin
        refine ⟨ih.1, fun v => (ih.2 v).trans ?_⟩
        constructor
        · rintro ⟨x, hx, u, hu, hv⟩
          exact ⟨x, hx, u, ⟨r.f1, Int.le_refl _, h1, hu⟩, hv⟩
        · rintro ⟨x, hx, u, ⟨_, _, _, hu⟩, hv⟩
          exact ⟨x, hx, u, hu, hv⟩
      · simp only [valsL, Reach, e, e0, or_false, if_false]
        have ih := vals_reach co s rs (out.flatMap (stepL (co r.f0) r)) hle' (flat_in _ _ _)
        refine ⟨ih.1, fun v => (ih.2 v).trans ?_⟩
        constructor
        · rintro ⟨y, hy, u, hu, hv⟩
          obtain ⟨x, hx, hy⟩ := List.mem_flatMap.1 hy
          obtain ⟨n, hn, rfl⟩ := List.mem_map.1 hy
          have hn' := (mem_rangeL n _ _).1 hn
          rw [wrap_addR] at hu
          obtain ⟨t, ht⟩ := wrap_rep (x + co r.f0 * n)
          rw [ht] at hu
          have := Reach_shift co s (-(18446744073709551616 * t)) rs _ _ hu
          rw [show x + co r.f0 * n + 18446744073709551616 * t + -(18446744073709551616 * t) = x + co r.f0 * n by omega] at this
          refine ⟨x, hx, _, ⟨n, hn'.1, ?_, this⟩, ?_⟩
          · have := hn'.2
            unfold szR at this
            omega
          · rw [hv, show u + -(18446744073709551616 * t) = u + 18446744073709551616 * (-t) by omega, wrap_per]
        · rintro ⟨x, hx, u, ⟨n, n1, n2, hu⟩, hv⟩
          obtain ⟨t, ht⟩ := wrap_rep (x + co r.f0 * n)
          have := Reach_shift co s (18446744073709551616 * t) rs _ _ hu
          rw [← ht] at this
          refine ⟨wrap64 (x + co r.f0 * n), List.mem_flatMap.2 ⟨x, hx, List.mem_map.2 ⟨n, (mem_rangeL n _ _).2 ⟨n1, by unfold szR; omega⟩, by rw [wrap_addR]⟩⟩, _, this, ?_⟩
          rw [hv, wrap_per]
theorem rnd_prod : ∀ (l : List S56) (n : Int), (∀ r ∈ l, r.f1 ≤ r.f2) → 1 ≤ n → rndL S56.f1 S56.f2 l n ≤ 600 → rndL S56.f1 S56.f2 l n = n * prodA l
  | [], n, _, _, _ => by simp [rndL, prodA]
  | r :: rs, n, h, hn, hr => by
    have h1 := h r List.mem_cons_self
    have h' : ∀ x ∈ rs, x.f1 ≤ x.f2 := fun x hx => h x (List.mem_cons_of_mem _ hx)
    have a : 0 ≤ (n - 1) * (r.f2 - r.f1) := Int.mul_nonneg (by omega) (by omega)
    have b : 1 ≤ n * (r.f2 - r.f1 + 1) := by
      simp only [Int.sub_mul, Int.mul_sub, Int.mul_add] at a ⊢
      omega
    simp only [rndL, prodA] at hr ⊢
    by_cases c : n * (r.f2 - r.f1 + 1) < 1000000
    · rw [show mn (n * (r.f2 - r.f1 + 1)) 1000000 = n * (r.f2 - r.f1 + 1) by unfold mn; split <;> omega] at hr ⊢
      rw [rnd_prod rs _ h' b hr, Int.mul_assoc]
      rfl
    · rw [show mn (n * (r.f2 - r.f1 + 1)) 1000000 = 1000000 by unfold mn; split <;> omega, rndL_top _ _ rs h'] at hr
      omega
theorem prodA_pos : ∀ (rs : List S56), (∀ r ∈ rs, r.f1 ≤ r.f2) → 1 ≤ prodA rs
  | [], _ => by simp [prodA]
  | r :: rs, h => by
    have h1 := h r List.mem_cons_self
    have ih := prodA_pos rs fun x hx => h x (List.mem_cons_of_mem _ hx)
    unfold prodA
    have a : 0 ≤ (szR r - 1) * prodA rs := Int.mul_nonneg (by unfold szR; omega) (by omega)
    rw [Int.sub_mul] at a
    omega
theorem prodN_none (s : ByteArray) : ∀ (rs : List S56), (∀ r ∈ rs, ¬ r.f0.toList = s.toList) → prodN s rs = prodA rs
  | [], _ => rfl
  | r :: rs, h => by
    unfold prodN prodA
    rw [if_neg (h r List.mem_cons_self), prodN_none s rs fun x hx => h x (List.mem_cons_of_mem _ hx)]
theorem prodA_eq (s : ByteArray) : ∀ (rs : List S56), Apart S56.f0 rs → ∀ q ∈ rs, q.f0.toList = s.toList → prodA rs = prodN s rs * szR q
  | r :: rs, hap, q, hq, e => by
    have hp := List.pairwise_cons.1 hap
    unfold prodN prodA
    rcases List.mem_cons.1 hq with rfl | hq
    · rw [if_pos e, prodN_none s rs fun x hx e2 => hp.1 x hx (e.trans e2.symm), Int.mul_comm]
    · have : ¬ r.f0.toList = s.toList := fun e2 => hp.1 q hq (e2.trans e.symm)
      rw [if_neg this, prodA_eq s rs hp.2 q hq e, Int.mul_assoc]
theorem prodN_le (s : ByteArray) : ∀ (rs : List S56), (∀ r ∈ rs, r.f1 ≤ r.f2) → prodN s rs ≤ prodA rs
  | [], _ => Int.le_refl _
  | r :: rs, h => by
    have h1 := h r List.mem_cons_self
    have h' : ∀ x ∈ rs, x.f1 ≤ x.f2 := fun x hx => h x (List.mem_cons_of_mem _ hx)
    have ih := prodN_le s rs h'
    have pa := prodA_pos rs h'
    unfold prodN prodA
    by_cases e : r.f0.toList = s.toList
    · rw [if_pos e]
      have a : 0 ≤ (szR r - 1) * prodA rs := Int.mul_nonneg (by unfold szR; omega) (by omega)
      rw [Int.sub_mul] at a
      omega
    · rw [if_neg e]
      exact Int.mul_le_mul_of_nonneg_left ih (by unfold szR; omega)
theorem less_lt (x y : List UInt8) : Op.bytesLess x y = true → Op.bytesLess y x = false ∧ ¬ x = y := by
  induction x generalizing y with
  | nil => cases y <;> simp [Op.bytesLess]
  | cons a x ih =>
    cases y with
    | nil => simp [Op.bytesLess]
    | cons b y =>
      simp only [Op.bytesLess, Bool.or_eq_true, Bool.and_eq_true, decide_eq_true_eq, beq_iff_eq]
      rintro (h | ⟨rfl, h⟩)
      · have hn : ¬ b < a := fun h2 => absurd (UInt8.lt_trans h h2) (UInt8.lt_irrefl _)
        have hne : ¬ b = a := fun h2 => by subst h2; exact UInt8.lt_irrefl _ h
        have hne' : ¬ a = b := fun h2 => hne h2.symm
        simp [hn, hne, hne']
      · have := ih y h
        simp [this.1, this.2]
theorem less_trans (x y z : List UInt8) : Op.bytesLess x y = true → Op.bytesLess y z = true → Op.bytesLess x z = true := by
  induction x generalizing y z with
  | nil =>
    cases z with
    | nil => cases y <;> simp [Op.bytesLess]
    | cons c z => intros; simp [Op.bytesLess]
  | cons a x ih =>
    cases y with
    | nil => simp [Op.bytesLess]
    | cons b y =>
      cases z with
      | nil => simp [Op.bytesLess]
      | cons c z =>
        simp only [Op.bytesLess, Bool.or_eq_true, Bool.and_eq_true, decide_eq_true_eq, beq_iff_eq]
        rintro (h | ⟨rfl, h⟩) (h2 | ⟨rfl, h2⟩)
        · exact .inl (UInt8.lt_trans h h2)
        · exact .inl h
        · exact .inl h2
        · exact .inr ⟨rfl, ih y z h h2⟩
theorem affOk_above : ∀ (l : List S70) (p : ByteArray), affOkL S70.f0 S70.f1 (some p) l = true → ∀ x ∈ l, Op.bytesLess p.toList x.f0.toList = true
  | [], _, _ => by simp
  | x :: xs, p, h => by
    simp only [affOkL, lessO, Bool.and_eq_true] at h
    intro y hy
    rcases List.mem_cons.1 hy with rfl | hy
    · exact h.1.2
    · exact less_trans _ _ _ h.1.2 (affOk_above xs x.f0 h.2 y hy)
theorem affOk_apart : ∀ (l : List S70) (p : Option ByteArray), affOkL S70.f0 S70.f1 p l = true → Apart S70.f0 l
  | [], _, _ => List.Pairwise.nil
  | x :: xs, p, h => by
    simp only [affOkL, Bool.and_eq_true] at h
    refine List.pairwise_cons.2 ⟨fun y hy => ?_, affOk_apart xs _ h.2⟩
    exact (less_lt _ _ (affOk_above xs x.f0 h.2 y hy)).2
theorem boxOk_idx (all : List S56) : ∀ (l : List S56) (i : Nat), boxOkL S56.f0 S56.f1 S56.f2 all i l = true → ∀ j (h : j < l.length), idxL S56.f0 0 all l[j].f0 = ((i + j : Nat) : Int)
  | x :: xs, i, h, 0, _ => by
    simp only [boxOkL, Bool.and_eq_true, decide_eq_true_eq] at h
    exact h.1.2
  | x :: xs, i, h, j + 1, hj => by
    simp only [boxOkL, Bool.and_eq_true, decide_eq_true_eq] at h
    have := boxOk_idx all xs (i + 1) h.2 j (by simpa using hj)
    rw [List.getElem_cons_succ, this]
    congr 1
    omega
theorem idx_congr (s t : ByteArray) (e : s.toList = t.toList) : ∀ (l : List S56) (i : Nat), idxL S56.f0 i l s = idxL S56.f0 i l t
  | [], _ => rfl
  | x :: xs, i => by
    simp only [idxL]
    rw [e, idx_congr s t e xs (i + 1)]
theorem box_apart {l : List S56} (h : fullS S56.f0 S56.f1 S56.f2 l = true) : Apart S56.f0 l := by
  simp only [fullS, Bool.and_eq_true] at h
  refine List.pairwise_iff_getElem.2 fun i j hi hj hij e => ?_
  have a := boxOk_idx l l 0 h.2 i hi
  have b := boxOk_idx l l 0 h.2 j hj
  rw [idx_congr _ _ e] at a
  rw [a] at b
  omega
theorem sz_wrap {r : S56} (h1 : r.f1 ≤ r.f2) (h2 : -10000 ≤ r.f1) (h3 : r.f2 ≤ 10000) : wrap64 (wrap64 (r.f2 - r.f1) + 1) = szR r := by
  rw [w64 (x := r.f2 - r.f1) (by omega) (by omega), w64 (by omega) (by omega)]
  rfl
theorem dec_step {r : S56} (y : Int) (r1 : r.f1 ≤ r.f2) (r2 : -10000 ≤ r.f1) (r5 : r.f2 ≤ 10000) (hy0 : 0 ≤ y) (hy : y ≤ 1000000) : wrap64 (wrap64 (r.f2 - r.f1) + 1) = szR r ∧ ¬ szR r = 0 ∧ 0 ≤ Int.tdiv y (szR r) ∧ Int.tdiv y (szR r) ≤ y ∧ wrap64 (r.f1 + Int.tmod y (szR r)) = r.f1 + Int.tmod y (szR r) ∧ wrap64 (Int.tdiv y (szR r)) = Int.tdiv y (szR r) := by
  have hsz := sz_wrap r1 r2 r5
  have hs0 : 1 ≤ szR r := by unfold szR; omega
  have hs1 : szR r ≤ 20001 := by unfold szR; omega
  generalize szR r = z at *
  have m0 := Int.emod_nonneg y (show z ≠ 0 by omega)
  have m1 := Int.emod_lt_of_pos y (show 0 < z by omega)
  have d0 : 0 ≤ y / z := Int.ediv_nonneg hy0 (by omega)
  have d1 : y / z ≤ y := Int.ediv_le_self _ hy0
  rw [← Int.tdiv_eq_ediv_of_nonneg (b := z) hy0] at d0 d1
  rw [← Int.tmod_eq_emod_of_nonneg (b := z) hy0] at m0 m1
  generalize Int.tdiv y z = q at *
  generalize Int.tmod y z = m at *
  exact ⟨hsz, by omega, d0, d1, w64 (by omega) (by omega), w64 (by omega) (by omega)⟩
theorem rd_mem (box : List S56) {p : Nat} (h : p < box.length) : rd_T56 box (p : Int) ∈ box := by
  unfold rd_T56
  rw [Int.toNat_natCast]
  exact getD_mem box _ h
theorem impl_valuesOf_ev (c : Int) (l : List S70) (s : ByteArray) (i : Int) (box : List S56) (hl : l.length ≤ maxLen) (hc : -9223372036854775808 ≤ c ∧ c < 9223372036854775808) (hbl : box.length ≤ 8)
    (hb : ∀ r ∈ box, r.f1 ≤ r.f2 ∧ -10000 ≤ r.f1 ∧ r.f1 ≤ 10000 ∧ -10000 ≤ r.f2 ∧ r.f2 ≤ 10000) (hP : prodA box ≤ 600) :
    ∃ xs, Ev (fun k => impl_valuesOf.f k c l s i box) xs ∧ xs.length ≤ 600 ∧ xs = valsL (coefL S70.f0 S70.f1 l) s box [wrap64 (c + sumB [⟨s, i⟩] l)] := by
  have wd : 8 ≤ maxLen := by decide
  have at_ := impl_AffAt_ev c l [⟨s, i⟩] hl (by simp only [List.length_cons, List.length_nil]; omega)
  rw [affAt_sum _ l c hc.1 hc.2] at at_
  have L2 : ∀ (r : S56) (x co : Int) (j p : Nat) (out : List Int) (v : List Int), -10000 ≤ r.f1 → r.f2 ≤ 10000 → (j : Int) + 1 ≤ 1000 →
      ∀ (d : Nat) (n : Int) (acc : List Int), n + d = r.f2 + 1 → r.f1 ≤ n → acc.length + d ≤ 1000000 →
      Ev (fun k => impl_valuesOf.l1 k s co (acc ++ (rangeL n d).map fun n => wrap64 (x + wrap64 (co * n))) box (box.length : Int) (p : Int) out (out.length : Int) ((j + 1 : Nat) : Int) c l r.f0 r.f1 r.f2) v →
      Ev (fun k => impl_valuesOf.l2 k s co acc x n box (box.length : Int) (p : Int) out (out.length : Int) (j : Int) c l r.f0 r.f1 r.f2) v := by
    intro r x co j p out v r1 r2 hj d
    induction d with
    | zero =>
      intro n acc hn hn1 _ H
      refine Ev.step (fun k => by rw [impl_valuesOf.l2]) ?_
      have cx : ¬ n ≤ r.f2 := by omega
      have hw : wrap64 ((j : Int) + 1) = ((j + 1 : Nat) : Int) := by rw [w64 (by omega) (by omega)]; omega
      simp only [cx, if_false, hw]
      simpa only [rangeL, List.map_nil, List.append_nil] using H
    | succ d ih =>
      intro n acc hn hn1 ha H
      refine Ev.step (fun k => by rw [impl_valuesOf.l2]) ?_
      have cx : n ≤ r.f2 := by omega
      have cl : acc.length < 17592186044416 := by omega
      have hw : wrap64 (n + 1) = n + 1 := w64 (by omega) (by omega)
      simp only [cx, cl, if_true, hw]
      refine ih (n + 1) _ (by omega) (by omega) (by simp; omega) ?_
      simpa only [rangeL, List.map_cons, List.append_assoc, List.cons_append, List.nil_append] using H
  have L1 : ∀ (r : S56) (co : Int) (p : Nat) (out : List Int) (v : List Int), r.f1 ≤ r.f2 → -10000 ≤ r.f1 → r.f2 ≤ 10000 → out.length * (szR r).toNat ≤ 600 → out.length ≤ 600 → (p : Int) + 1 ≤ 1000 →
      ∀ (d : Nat) (j : Nat) (acc : List Int), j + d = out.length → acc.length + d * (szR r).toNat ≤ 600 →
      Ev (fun k => impl_valuesOf.l0 k s (acc ++ (out.drop j).flatMap (stepL co r)) box (box.length : Int) ((p + 1 : Nat) : Int) c l) v →
      Ev (fun k => impl_valuesOf.l1 k s co acc box (box.length : Int) (p : Int) out (out.length : Int) (j : Int) c l r.f0 r.f1 r.f2) v := by
    intro r co p out v r0 r1 r2 ho ho2 hp d
    induction d with
    | zero =>
      intro j acc hj _ H
      refine Ev.step (fun k => by rw [impl_valuesOf.l1]) ?_
      have cx : ¬ (j : Int) < (out.length : Int) := by omega
      have hw : wrap64 ((p : Int) + 1) = ((p + 1 : Nat) : Int) := by rw [w64 (by omega) (by omega)]; omega
      simp only [cx, if_false, hw]
      rw [List.drop_eq_nil_of_le (by omega)] at H
      simpa only [List.flatMap_nil, List.append_nil] using H
    | succ d ih =>
      intro j acc hj ha H
      refine Ev.step (fun k => by rw [impl_valuesOf.l1]) ?_
      have cx : (j : Int) < (out.length : Int) := by omega
      have cx0 : (0 : Int) ≤ (j : Int) := by omega
      rw [Nat.succ_mul] at ha
      simp only [cx, cx0, if_true]
      refine L2 r (rd out (j : Int)) co j p out v r1 r2 (by omega) (szR r).toNat r.f1 acc (by unfold szR; omega) (Int.le_refl _) (by omega) ?_
      refine ih (j + 1) _ (by omega) (by simp only [List.length_append, List.length_map, rangeL_length]; omega) ?_
      have hd : out.drop j = rd out (j : Int) :: out.drop (j + 1) := drop_cons out _ (by omega)
      rw [hd, List.flatMap_cons, ← List.append_assoc] at H
      exact H
  have L0 : ∀ (d p : Nat) (out : List Int), p + d = box.length → (out.length : Int) * prodA (box.drop p) ≤ 600 → ∃ xs, Ev (fun k => impl_valuesOf.l0 k s out box (box.length : Int) (p : Int) c l) xs ∧ xs.length ≤ 600 ∧ xs = valsL (coefL S70.f0 S70.f1 l) s (box.drop p) out := by
    intro d
    induction d with
    | zero =>
      intro p out hp ho
      rw [List.drop_eq_nil_of_le (by omega)] at ho ⊢
      refine ⟨out, Ev.step (fun k => by rw [impl_valuesOf.l0]) ?_, ?_, rfl⟩
      · have cx : ¬ (p : Int) < (box.length : Int) := by omega
        simp only [cx, if_false]
        exact Ev.now _
      · simp only [prodA, Int.mul_one] at ho
        omega
    | succ d ih =>
      intro p out hp ho
      have hd : box.drop p = rd_T56 box (p : Int) :: box.drop (p + 1) := drop_cons box _ (by omega)
      have hm : rd_T56 box (p : Int) ∈ box := getD_mem box _ (by omega)
      obtain ⟨r1, r2, r3, r4, r5⟩ := hb _ hm
      have pr := prodA_pos (box.drop (p + 1)) fun x hx => (hb x (List.mem_of_mem_drop hx)).1
      rw [hd] at ho ⊢
      simp only [prodA] at ho
      have cx : (p : Int) < (box.length : Int) := by omega
      have cx0 : (0 : Int) ≤ (p : Int) := by omega
      have hw : wrap64 ((p : Int) + 1) = ((p + 1 : Nat) : Int) := by rw [w64 (by omega) (by omega)]; omega
      have hsz : 1 ≤ szR (rd_T56 box (p : Int)) := by unfold szR; omega
      have hco := impl_CoefOf_ev c l (rd_T56 box (p : Int)).f0 hl
      generalize hr : rd_T56 box (p : Int) = r at *
      have q1 : (out.length : Int) * prodA (box.drop (p + 1)) ≤ 600 := by
        have a : 0 ≤ (out.length : Int) * ((szR r - 1) * prodA (box.drop (p + 1))) := Int.mul_nonneg (by omega) (Int.mul_nonneg (by omega) (by omega))
        rw [Int.sub_mul, Int.mul_sub, Int.one_mul] at a
        omega
      have q2 : (out.length : Int) * szR r * prodA (box.drop (p + 1)) ≤ 600 := by
        rw [Int.mul_assoc]
        exact ho
      have q3 : (out.length : Int) * szR r ≤ 600 := by
        have a : 0 ≤ ((out.length : Int) * szR r) * (prodA (box.drop (p + 1)) - 1) := Int.mul_nonneg (Int.mul_nonneg (by omega) (by omega)) (by omega)
        rw [Int.mul_sub, Int.mul_one] at a
        omega
      have q4 : (out.length : Int) ≤ 600 := by
        have a : 0 ≤ (out.length : Int) * (szR r - 1) := Int.mul_nonneg (by omega) (by omega)
        rw [Int.mul_sub, Int.mul_one] at a
        omega
      have skip : ∀ xs, Ev (fun k => impl_valuesOf.l0 k s out box (box.length : Int) ((p + 1 : Nat) : Int) c l) xs → Ev (fun k => impl_valuesOf.j1 k s out (coefL S70.f0 S70.f1 l r.f0) box (box.length : Int) (p : Int) true c l r.f0 r.f1 r.f2) xs := by
        intro xs hxs
        refine Ev.step (fun k => by rw [impl_valuesOf.j1]) ?_
        simp only [if_true, hw]
        exact hxs
      by_cases e : r.f0.toList = s.toList
      · obtain ⟨xs, h1, h2, h3⟩ := ih (p + 1) out (by omega) q1
        refine ⟨xs, Ev.step (fun k => by rw [impl_valuesOf.l0]) ?_, h2, ?_⟩
        · simp only [cx, cx0, if_true, hr]
          refine Ev.then hco ?_
          simp only [e, if_true]
          exact skip xs h1
        · rw [h3]
          simp only [valsL, e, true_or, if_true]
      · by_cases e0 : coefL S70.f0 S70.f1 l r.f0 = 0
        · obtain ⟨xs, h1, h2, h3⟩ := ih (p + 1) out (by omega) q1
          refine ⟨xs, Ev.step (fun k => by rw [impl_valuesOf.l0]) ?_, h2, ?_⟩
          · simp only [cx, cx0, if_true, hr]
            refine Ev.then hco ?_
            rw [show ((coefL S70.f0 S70.f1 l r.f0) == 0) = true by simp [e0]]
            simp only [e, if_false]
            exact skip xs h1
          · rw [h3]
            simp only [valsL, e0, or_true, if_true]
        · have fl := flat_len (coefL S70.f0 S70.f1 l r.f0) r out
          have cast : ((szR r).toNat : Int) = szR r := by omega
          have hn : out.length * (szR r).toNat ≤ 600 := by
            have : ((out.length * (szR r).toNat : Nat) : Int) = (out.length : Int) * szR r := by rw [Int.natCast_mul, cast]
            omega
          obtain ⟨xs, h1, h2, h3⟩ := ih (p + 1) (out.flatMap (stepL (coefL S70.f0 S70.f1 l r.f0) r)) (by omega) (by rw [fl, Int.natCast_mul, cast]; exact q2)
          refine ⟨xs, Ev.step (fun k => by rw [impl_valuesOf.l0]) ?_, h2, ?_⟩
          · simp only [cx, cx0, if_true, hr]
            refine Ev.then hco ?_
            rw [show ((coefL S70.f0 S70.f1 l r.f0) == 0) = false by simp [e0]]
            simp only [e, if_false]
            refine Ev.step (fun k => by rw [impl_valuesOf.j1]) ?_
            simp only [Bool.false_eq_true, if_false]
            refine L1 r _ p out xs r1 r2 r5 hn (by omega) (by omega) out.length 0 [] (by omega) (by simp only [List.length_nil]; omega) ?_
            simpa only [List.nil_append, List.drop_zero] using h1
          · rw [h3]
            simp only [valsL, e, e0, or_false, if_false]
  unfold impl_valuesOf.f
  obtain ⟨xs, h1, h2, h3⟩ := L0 box.length 0 [wrap64 (c + sumB [⟨s, i⟩] l)] (by omega) (by simp only [List.length_cons, List.length_nil, List.drop_zero]; omega)
  rw [List.drop_zero] at h3
  exact ⟨xs, Ev.then at_ h1, h2, h3⟩
theorem bits_and8 (a : Int) : Go.bits .and .i64 a 255 = a % 256 := by
  have h : (255 : Int) = ((2 ^ 8 - 1 : Nat) : Int) := by decide
  unfold Go.bits
  simp only [Go.IntKind.wrap_i64]
  rw [h]
  simp only [BitVec.toNat_and, BitVec.ofInt_natCast, BitVec.toNat_ofInt, BitVec.toNat_ofNat]
  have e : (2 ^ 8 - 1) % 2 ^ Go.IntKind.bits .i64 = 2 ^ 8 - 1 := by decide
  rw [e, Nat.and_two_pow_sub_one_eq_mod]
  have e2 : Go.IntKind.bits .i64 = 64 := rfl
  rw [e2]
  omega
theorem spec_l1New_ev (l : List Int) (hl : l.length ≤ maxLen) : ∃ h, Ev (fun k => spec_l1New.f k l) (l, 0, h) := by
  have key : ∀ d i, i + d = l.length → ∀ x, ∃ h, Ev (fun k => spec_l1New.l0 k l x (i : Int)) (l, 0, h) := by
    intro d
    induction d with
    | zero =>
      intro i hi x
      refine ⟨x, Ev.step (fun k => by rw [spec_l1New.l0]) ?_⟩
      have c : ¬ (i : Int) < (l.length : Int) := by omega
      simp only [c, if_false]
      exact Ev.now _
    | succ d ih =>
      intro i hi x
      have c : (i : Int) < (l.length : Int) := by omega
      have c0 : (0 : Int) ≤ (i : Int) := by omega
      have hw : wrap64 ((i : Int) + 1) = ((i + 1 : Nat) : Int) := wi (n := l.length) (by omega) hl
      by_cases e : (i : Int) < 4000
      · obtain ⟨h, hh⟩ := ih (i + 1) (by omega) (Go.bits .and .i64 (wrap64 ((wrap64 ((wrap64 (x * 137)) + (wrap64 (rd l (i : Int))))) + 11)) 1073741823)
        refine ⟨h, Ev.step (fun k => by rw [spec_l1New.l0]) ?_⟩
        simp only [c, c0, e, if_true, hw]
        exact hh
      · refine ⟨x, Ev.step (fun k => by rw [spec_l1New.l0]) ?_⟩
        simp only [c, e, if_true, if_false]
        exact Ev.now _
  exact key l.length 0 (by omega) _
/-- Where a cursor may stand. -/
def At (l : List Int) (i : Int) : Prop := l.length ≤ maxLen ∧ 0 ≤ i ∧ i ≤ (l.length : Int)
theorem spec_l1Byte_ex {l : List Int} {i : Int} (h : Int) (hi : At l i) : ∃ b i' h', spec_l1Byte.f l i h = some (b, i', h') ∧ 0 ≤ b ∧ b ≤ 255 ∧ At l i' := by
  obtain ⟨hl, h0, h1⟩ := hi
  have hm := hl
  unfold maxLen at hm
  unfold spec_l1Byte.f
  by_cases c : i < (l.length : Int)
  · simp only [c, h0, if_true]
    have hw : wrap64 (i + 1) = i + 1 := w64 (by omega) (by omega)
    refine ⟨_, _, _, rfl, ?_, ?_, hl, ?_, ?_⟩
    · rw [bits_and8]; omega
    · rw [bits_and8]; omega
    · omega
    · omega
  · simp only [c, if_false]
    refine ⟨_, _, _, rfl, ?_, ?_, hl, h0, h1⟩
    · rw [bits_and8]; omega
    · rw [bits_and8]; omega
theorem spec_l1Below_ex {l : List Int} {i : Int} (h : Int) (n : Int) (hi : At l i) (hn : 0 < n) (hn2 : n ≤ 256) : ∃ b i' h', spec_l1Below.f l i h n = some (b, i', h') ∧ 0 ≤ b ∧ b < n ∧ At l i' := by
  unfold spec_l1Below.f
  obtain ⟨b, i', h', e, b0, b1, c⟩ := spec_l1Byte_ex h hi
  have c1 : ¬ n ≤ 0 := by omega
  have c2 : ¬ n = 0 := by omega
  simp only [c1, c2, hn2, e, if_true, if_false, Option.bind_some]
  refine ⟨_, _, _, rfl, ?_, ?_, c⟩
  · exact Int.tmod_nonneg _ b0
  · exact Int.tmod_lt_of_pos _ hn
theorem spec_l1Int_ex {l : List Int} {i : Int} (h : Int) (q : List Int) (hi : At l i) (hn : 0 < q.length) (hn2 : q.length ≤ 256) : ∃ x i' h', spec_l1Int.f l i h q = some (x, i', h') ∧ x ∈ q ∧ At l i' := by
  unfold spec_l1Int.f
  obtain ⟨b, i', h', e, b0, b1, c⟩ := spec_l1Below_ex h (q.length : Int) hi (by omega) (by omega)
  simp only [e, b0, b1, if_true, Option.bind_some]
  refine ⟨_, _, _, rfl, ?_, c⟩
  obtain ⟨j, rfl⟩ : ∃ j : Nat, b = (j : Int) := ⟨b.toNat, by omega⟩
  exact getD_mem q _ (by omega)
theorem spec_l1Once_ex {l : List Int} {i : Int} (h : Int) (n : Int) (hi : At l i) (hn : 0 < n) (hn2 : n ≤ 256) : ∃ b i' h', spec_l1Once.f l i h n = some (b, i', h') ∧ At l i' := by
  unfold spec_l1Once.f
  obtain ⟨b, i', h', e, b0, b1, c⟩ := spec_l1Below_ex h n hi hn hn2
  simp only [e, Option.bind_some]
  exact ⟨_, _, _, rfl, c⟩
abbrev sI : ByteArray := ⟨#[105]⟩
abbrev sJ : ByteArray := ⟨#[106]⟩
abbrev sK : ByteArray := ⟨#[107]⟩
/-- A drawn range. -/
def RngD (x : S56) (s : ByteArray) : Prop := x.f0 = s ∧ -1 ≤ x.f1 ∧ x.f1 ≤ 3 ∧ x.f1 ≤ x.f2 ∧ x.f2 ≤ x.f1 + 4
theorem spec_l9Draw_ex {l : List Int} {i : Int} (h : Int) (hi : At l i) : ∃ x y z i' h', Ev (fun k => spec_l9Draw.f k l i h) ([x, y, z], i', h') ∧ RngD x sI ∧ RngD y sJ ∧ RngD z sK ∧ At l i' := by
  unfold spec_l9Draw.f
  obtain ⟨a1, i1, h1, e1, p1, q1, c1⟩ := spec_l1Below_ex h 5 hi (by omega) (by omega)
  obtain ⟨b1, i2, h2, e2, p2, q2, c2⟩ := spec_l1Below_ex h1 5 c1 (by omega) (by omega)
  obtain ⟨a2, i3, h3, e3, p3, q3, c3⟩ := spec_l1Below_ex h2 5 c2 (by omega) (by omega)
  obtain ⟨b2, i4, h4, e4, p4, q4, c4⟩ := spec_l1Below_ex h3 5 c3 (by omega) (by omega)
  obtain ⟨a3, i5, h5, e5, p5, q5, c5⟩ := spec_l1Below_ex h4 5 c4 (by omega) (by omega)
  obtain ⟨b3, i6, h6, e6, p6, q6, c6⟩ := spec_l1Below_ex h5 5 c5 (by omega) (by omega)
  have r1 : wrap64 (a1 - 1) = a1 - 1 := w64 (by omega) (by omega)
  have r2 : wrap64 (a2 - 1) = a2 - 1 := w64 (by omega) (by omega)
  have r3 : wrap64 (a3 - 1) = a3 - 1 := w64 (by omega) (by omega)
  have s1 : wrap64 (a1 - 1 + b1) = a1 - 1 + b1 := w64 (by omega) (by omega)
  have s2 : wrap64 (a2 - 1 + b2) = a2 - 1 + b2 := w64 (by omega) (by omega)
  have s3 : wrap64 (a3 - 1 + b3) = a3 - 1 + b3 := w64 (by omega) (by omega)
  refine ⟨⟨sI, a1 - 1, a1 - 1 + b1⟩, ⟨sJ, a2 - 1, a2 - 1 + b2⟩, ⟨sK, a3 - 1, a3 - 1 + b3⟩, i6, h6, ?_, ⟨rfl, by simp only; omega, by simp only; omega, by simp only; omega, by simp only; omega⟩, ⟨rfl, by simp only; omega, by simp only; omega, by simp only; omega, by simp only; omega⟩, ⟨rfl, by simp only; omega, by simp only; omega, by simp only; omega, by simp only; omega⟩, c6⟩
  have w1 : wrap64 ((0 : Int) + 1) = 1 := w64 (by omega) (by omega)
  have w2 : wrap64 ((1 : Int) + 1) = 2 := w64 (by omega) (by omega)
  have w3 : wrap64 ((2 : Int) + 1) = 3 := w64 (by omega) (by omega)
  have n0 : rdOf ByteArray.empty [sI, sJ, sK] 0 = sI := rfl
  have n1 : rdOf ByteArray.empty [sI, sJ, sK] 1 = sJ := rfl
  have n2 : rdOf ByteArray.empty [sI, sJ, sK] 2 = sK := rfl
  refine ⟨4, fun k hk => ?_⟩
  obtain ⟨k, rfl⟩ : ∃ d, k = d + 4 := ⟨k - 4, by omega⟩
  simp only [spec_l9Draw.l0, e1, e2, e3, e4, e5, e6, Option.bind_some, r1, r2, r3, s1, s2, s3, w1, w2, w3, n0, n1, n2, List.length_cons, List.length_nil, List.nil_append, List.cons_append]
  simp
/-- A drawn term of a name, or none. -/
def optT (s : ByteArray) : Option Int → List S70
  | none => []
  | some n => [⟨s, n⟩]
def TermD (o : Option Int) : Prop := ∀ n, o = some n → n ∈ [1, 1, 2, 3, (-1), (-2), 4]
theorem l8_round {l : List Int} {i : Int} (h : Int) (hi : At l i) (j : Nat) (s : ByteArray) (hj : j < 3) (hs : rdOf ByteArray.empty [sI, sJ, sK] (j : Int) = s) (c : Int) (t : List S70) (ht : t.length ≤ 3) :
    ∃ o i' h', TermD o ∧ At l i' ∧ ∀ r, Ev (fun k => spec_l8Draw.l0 k [sI, sJ, sK] ((j + 1 : Nat) : Int) l i' h' c (t ++ optT s o)) r → Ev (fun k => spec_l8Draw.l0 k [sI, sJ, sK] (j : Int) l i h c t) r := by
  obtain ⟨b, i1, h1, e1, c1⟩ := spec_l1Once_ex h 2 hi (by omega) (by omega)
  have hw : wrap64 ((j : Int) + 1) = ((j + 1 : Nat) : Int) := by rw [w64 (by omega) (by omega)]; omega
  have g1 : (j : Int) < 3 := by omega
  have g2 : (0 : Int) ≤ (j : Int) := by omega
  have g3 : (j : Int) < (([sI, sJ, sK] : List ByteArray).length : Int) := by
    have : ([sI, sJ, sK] : List ByteArray).length = 3 := rfl
    omega
  cases b with
  | false =>
    refine ⟨none, i1, h1, (by intro n hn; cases hn), c1, fun r hr => Ev.step (fun k => by rw [spec_l8Draw.l0]) ?_⟩
    simp only [g1, e1, Option.bind_some, if_true, if_false, Bool.false_eq_true, hw]
    simpa [optT] using hr
  | true =>
    obtain ⟨v, i2, h2, e2, hv, c2⟩ := spec_l1Int_ex h1 [1, 1, 2, 3, (-1), (-2), 4] c1 (by decide) (by decide)
    have g4 : t.length < 5864062014805 := by omega
    refine ⟨some v, i2, h2, (by intro n hn; cases hn; exact hv), c2, fun r hr => Ev.step (fun k => by rw [spec_l8Draw.l0]) ?_⟩
    simp only [g1, g2, g3, g4, e1, e2, Option.bind_some, if_true, hw, hs]
    exact hr
theorem spec_l8Draw_ex {l : List Int} {i : Int} (h : Int) (hi : At l i) : ∃ c o1 o2 o3 i' h', Ev (fun k => spec_l8Draw.f k l i h) (c, optT sI o1 ++ optT sJ o2 ++ optT sK o3, i', h') ∧ -4 ≤ c ∧ c ≤ 8 ∧ TermD o1 ∧ TermD o2 ∧ TermD o3 ∧ At l i' := by
  unfold spec_l8Draw.f
  obtain ⟨a, i1, h1, e1, p1, q1, c1⟩ := spec_l1Below_ex h 13 hi (by omega) (by omega)
  have r1 : wrap64 (a - 4) = a - 4 := w64 (by omega) (by omega)
  have len : ∀ s o, (optT s o).length ≤ 1 := by
    intro s o
    cases o <;> simp [optT]
  obtain ⟨o1, i2, h2, t1, c2, k1⟩ := l8_round h1 c1 0 sI (by omega) rfl (a - 4) [] (by simp)
  obtain ⟨o2, i3, h3, t2, c3, k2⟩ := l8_round h2 c2 1 sJ (by omega) rfl (a - 4) ([] ++ optT sI o1) (by have := len sI o1; simp; omega)
  obtain ⟨o3, i4, h4, t3, c4, k3⟩ := l8_round h3 c3 2 sK (by omega) rfl (a - 4) ([] ++ optT sI o1 ++ optT sJ o2) (by have := len sI o1; have := len sJ o2; simp; omega)
  refine ⟨a - 4, o1, o2, o3, i4, h4, ?_, by omega, by omega, t1, t2, t3, c4⟩
  simp only [e1, Option.bind_some, r1]
  refine k1 _ (k2 _ (k3 _ (Ev.step (fun k => by rw [spec_l8Draw.l0]) ?_)))
  have g : ¬ ((2 + 1 : Nat) : Int) < 3 := by omega
  simp only [g, if_false, List.nil_append]
  exact Ev.now _
theorem optT_size {s : ByteArray} (hs : s.size ≤ 3) (o : Option Int) : (optT s o).length ≤ 1 ∧ ∀ x ∈ optT s o, x.f0.size ≤ 3 := by
  cases o with
  | none => exact ⟨by simp [optT], by simp [optT]⟩
  | some n =>
    refine ⟨by simp [optT], ?_⟩
    intro x hx
    simp only [optT, List.mem_cons, List.not_mem_nil, or_false] at hx
    rw [hx]
    exact hs
theorem drawn_size (o1 o2 o3 : Option Int) : (optT sI o1 ++ optT sJ o2 ++ optT sK o3).length ≤ 3 ∧ ∀ x ∈ optT sI o1 ++ optT sJ o2 ++ optT sK o3, x.f0.size ≤ 3 := by
  obtain ⟨a1, b1⟩ := optT_size (s := sI) (by decide) o1
  obtain ⟨a2, b2⟩ := optT_size (s := sJ) (by decide) o2
  obtain ⟨a3, b3⟩ := optT_size (s := sK) (by decide) o3
  refine ⟨by simp only [List.length_append]; omega, fun x hx => ?_⟩
  simp only [List.mem_append] at hx
  rcases hx with (hx | hx) | hx
  · exact b1 x hx
  · exact b2 x hx
  · exact b3 x hx
/-- What a drawn term may be, or 0. -/
def vO (o : Option Int) : Int := o.getD 0
theorem vO_bd {o : Option Int} (h : TermD o) : -2 ≤ vO o ∧ vO o ≤ 4 := by
  cases o with
  | none => decide
  | some n =>
    have := h n rfl
    simp only [List.mem_cons, List.not_mem_nil, or_false] at this
    simp only [vO, Option.getD_some]
    omega
theorem drawn_ok (o1 o2 o3 : Option Int) (t1 : TermD o1) (t2 : TermD o2) (t3 : TermD o3) (c : Int) (c1 : -4 ≤ c) (c2 : c ≤ 8) :
    affOkS S70.f0 S70.f1 c (optT sI o1 ++ optT sJ o2 ++ optT sK o3) = true := by
  have nI : nameS sI = true := by decide +kernel
  have nJ : nameS sJ = true := by decide +kernel
  have nK : nameS sK = true := by decide +kernel
  have bIJ : Op.bytesLess sI.toList sJ.toList = true := by decide +kernel
  have bIK : Op.bytesLess sI.toList sK.toList = true := by decide +kernel
  have bJK : Op.bytesLess sJ.toList sK.toList = true := by decide +kernel
  have hc : coefOk c = true := by
    simp only [coefOk, Bool.and_eq_true, decide_eq_true_eq]
    omega
  have hk : ∀ n, n ∈ [1, 1, 2, 3, (-1), (-2), (4 : Int)] → decide (n = 0) = false ∧ coefOk n = true := by decide +kernel
  cases o1 with
  | none => cases o2 with
    | none => cases o3 with
      | none => simp only [optT, List.nil_append, List.append_nil, affOkS, affOkL, hc, Bool.and_true]
      | some n3 => simp only [optT, List.nil_append, List.append_nil, affOkS, affOkL, lessO, hc, nK, hk _ (t3 n3 rfl), Bool.and_true, Bool.not_false]
    | some n2 => cases o3 with
      | none => simp only [optT, List.nil_append, List.append_nil, affOkS, affOkL, lessO, hc, nJ, hk _ (t2 n2 rfl), Bool.and_true, Bool.not_false]
      | some n3 => simp only [optT, List.nil_append, List.append_nil, List.cons_append, affOkS, affOkL, lessO, hc, nJ, nK, bJK, hk _ (t2 n2 rfl), hk _ (t3 n3 rfl), Bool.and_true, Bool.not_false]
  | some n1 => cases o2 with
    | none => cases o3 with
      | none => simp only [optT, List.nil_append, List.append_nil, affOkS, affOkL, lessO, hc, nI, hk _ (t1 n1 rfl), Bool.and_true, Bool.not_false]
      | some n3 => simp only [optT, List.nil_append, List.append_nil, List.cons_append, affOkS, affOkL, lessO, hc, nI, nK, bIK, hk _ (t1 n1 rfl), hk _ (t3 n3 rfl), Bool.and_true, Bool.not_false]
    | some n2 => cases o3 with
      | none => simp only [optT, List.nil_append, List.append_nil, List.cons_append, affOkS, affOkL, lessO, hc, nI, nJ, bIJ, hk _ (t1 n1 rfl), hk _ (t2 n2 rfl), Bool.and_true, Bool.not_false]
      | some n3 => simp only [optT, List.nil_append, List.append_nil, List.cons_append, affOkS, affOkL, lessO, hc, nI, nJ, nK, bIJ, bJK, hk _ (t1 n1 rfl), hk _ (t2 n2 rfl), hk _ (t3 n3 rfl), Bool.and_true, Bool.not_false]
theorem box_full {x y z : S56} (px : RngD x sI) (py : RngD y sJ) (pz : RngD z sK) : fullS S56.f0 S56.f1 S56.f2 [x, y, z] = true := by
  obtain ⟨a0, a1, a2, a3, a4⟩ := px
  obtain ⟨b0, b1, b2, b3, b4⟩ := py
  obtain ⟨d0, d1, d2, d3, d4⟩ := pz
  have nI : nameS sI = true := by decide +kernel
  have nJ : nameS sJ = true := by decide +kernel
  have nK : nameS sK = true := by decide +kernel
  have q1 : ¬ sI.toList = sJ.toList := by decide +kernel
  have q2 : ¬ sI.toList = sK.toList := by decide +kernel
  have q3 : ¬ sJ.toList = sK.toList := by decide +kernel
  have hb : ∀ n : Int, -10000 ≤ n → n ≤ 10000 → bndOk n = true := by
    intro n h1 h2
    simp only [bndOk, Bool.and_eq_true, decide_eq_true_eq]
    exact ⟨h1, h2⟩
  have e1 := hb x.f1 (by omega) (by omega)
  have e2 := hb x.f2 (by omega) (by omega)
  have e3 := hb y.f1 (by omega) (by omega)
  have e4 := hb y.f2 (by omega) (by omega)
  have e5 := hb z.f1 (by omega) (by omega)
  have e6 := hb z.f2 (by omega) (by omega)
  have i1 : idxL S56.f0 0 [x, y, z] sI = 0 := by
    simp only [idxL, a0, if_true]
    rfl
  have i2 : idxL S56.f0 0 [x, y, z] sJ = 1 := by
    simp only [idxL, a0, b0, q1, if_true, if_false]
    rfl
  have i3 : idxL S56.f0 0 [x, y, z] sK = 2 := by
    simp only [idxL, a0, b0, d0, q2, q3, if_true, if_false]
    rfl
  simp [fullS, boxOkS, boxOkL, a0, b0, d0, a3, b3, d3, nI, nJ, nK, e1, e2, e3, e4, e5, e6, i1, i2, i3]
theorem small_mul {n i : Int} (h1 : -2 ≤ n) (h2 : n ≤ 4) (h3 : -1 ≤ i) (h4 : i ≤ 7) : -28 ≤ n * i ∧ n * i ≤ 28 := by
  have a : n = -2 ∨ n = -1 ∨ n = 0 ∨ n = 1 ∨ n = 2 ∨ n = 3 ∨ n = 4 := by omega
  rcases a with rfl | rfl | rfl | rfl | rfl | rfl | rfl <;> omega
def selO (sel : S70 → S56 → Int) (s : ByteArray) (r : S56) : Option Int → Int
  | none => 0
  | some n => sel ⟨s, n⟩ r
theorem endL_opt (sel : S70 → S56 → Int) (box : List S56) (s : ByteArray) (r : S56) (o : Option Int) (rest : List S70) (a : Int) (hf : findR S56.f0 box s = some r) (h1 : -1000 ≤ a + selO sel s r o) (h2 : a + selO sel s r o ≤ 1000) :
    endL S70.f0 S56.f0 sel box (optT s o ++ rest) a = endL S70.f0 S56.f0 sel box rest (a + selO sel s r o) := by
  cases o with
  | none => simp [optT, selO]
  | some n =>
    simp only [selO] at h1 h2
    simp only [optT, List.cons_append, List.nil_append, endL, hf, selO]
    rw [w64 (by omega) (by omega)]
/-- Where a term is least. -/
def lowAt (r : S56) (n : Int) : Int := if n > 0 then r.f1 else r.f2
def highAt (r : S56) (n : Int) : Int := if n > 0 then r.f2 else r.f1
theorem selO_low {r : S56} {s s' : ByteArray} (hr : RngD r s') {o : Option Int} (t : TermD o) : selO (lowT S70.f1 S56.f1 S56.f2) s r o = vO o * lowAt r (vO o) := by
  obtain ⟨a0, a1, a2, a3, a4⟩ := hr
  cases o with
  | none => simp [selO, vO]
  | some n =>
    have hn := vO_bd t
    simp only [vO, Option.getD_some] at hn
    simp only [selO, vO, Option.getD_some, lowAt]
    exact lowT_eq S70.f1 S56.f1 S56.f2 (x := ⟨s, n⟩) (by simp only; omega) (by simp only; omega) a3 (by omega) (by omega)
theorem selO_high {r : S56} {s s' : ByteArray} (hr : RngD r s') {o : Option Int} (t : TermD o) : selO (highT S70.f1 S56.f1 S56.f2) s r o = vO o * highAt r (vO o) := by
  obtain ⟨a0, a1, a2, a3, a4⟩ := hr
  cases o with
  | none => simp [selO, vO]
  | some n =>
    have hn := vO_bd t
    simp only [vO, Option.getD_some] at hn
    simp only [selO, vO, Option.getD_some, highAt]
    exact highT_eq S70.f1 S56.f1 S56.f2 (x := ⟨s, n⟩) (by simp only; omega) (by simp only; omega) a3 (by omega) (by omega)
theorem low_le {r : S56} {s : ByteArray} (hr : RngD r s) {n i : Int} (h1 : -2 ≤ n) (h2 : n ≤ 4) (h3 : r.f1 ≤ i) (h4 : i ≤ r.f2) : n * lowAt r n ≤ n * i ∧ n * i ≤ n * highAt r n := by
  have a : n = -2 ∨ n = -1 ∨ n = 0 ∨ n = 1 ∨ n = 2 ∨ n = 3 ∨ n = 4 := by omega
  rcases a with rfl | rfl | rfl | rfl | rfl | rfl | rfl <;> simp [lowAt, highAt] <;> omega
theorem lowAt_in {r : S56} {s : ByteArray} (hr : RngD r s) (n : Int) : (r.f1 ≤ lowAt r n ∧ lowAt r n ≤ r.f2) ∧ r.f1 ≤ highAt r n ∧ highAt r n ≤ r.f2 := by
  obtain ⟨a0, a1, a2, a3, a4⟩ := hr
  unfold lowAt highAt
  by_cases h : n > 0
  · simp only [h, if_true]
    omega
  · simp only [h, if_false]
    omega
theorem drawn_ext {x y z : S56} (px : RngD x sI) (py : RngD y sJ) (pz : RngD z sK) (o1 o2 o3 : Option Int) (t1 : TermD o1) (t2 : TermD o2) (t3 : TermD o3) (c : Int) (c1 : -4 ≤ c) (c2 : c ≤ 8) :
    extT c (optT sI o1 ++ optT sJ o2 ++ optT sK o3) [x, y, z] = some (c + vO o1 * lowAt x (vO o1) + vO o2 * lowAt y (vO o2) + vO o3 * lowAt z (vO o3), c + vO o1 * highAt x (vO o1) + vO o2 * highAt y (vO o2) + vO o3 * highAt z (vO o3)) := by
  have q1 : ¬ sI.toList = sJ.toList := by decide +kernel
  have q2 : ¬ sI.toList = sK.toList := by decide +kernel
  have q3 : ¬ sJ.toList = sK.toList := by decide +kernel
  have f1 : findR S56.f0 [x, y, z] sI = some x := by simp only [findR, px.1, if_true]
  have f2 : findR S56.f0 [x, y, z] sJ = some y := by simp only [findR, px.1, py.1, q1, if_true, if_false]
  have f3 : findR S56.f0 [x, y, z] sK = some z := by simp only [findR, px.1, py.1, pz.1, q2, q3, if_true, if_false]
  have b1 := vO_bd t1
  have b2 := vO_bd t2
  have b3 := vO_bd t3
  have k1 := lowAt_in px (vO o1)
  have k2 := lowAt_in py (vO o2)
  have k3 := lowAt_in pz (vO o3)
  have m1 := small_mul b1.1 b1.2 (i := lowAt x (vO o1)) (by have := px.2; omega) (by have := px.2; omega)
  have m2 := small_mul b2.1 b2.2 (i := lowAt y (vO o2)) (by have := py.2; omega) (by have := py.2; omega)
  have m3 := small_mul b3.1 b3.2 (i := lowAt z (vO o3)) (by have := pz.2; omega) (by have := pz.2; omega)
  have u1 := small_mul b1.1 b1.2 (i := highAt x (vO o1)) (by have := px.2; omega) (by have := px.2; omega)
  have u2 := small_mul b2.1 b2.2 (i := highAt y (vO o2)) (by have := py.2; omega) (by have := py.2; omega)
  have u3 := small_mul b3.1 b3.2 (i := highAt z (vO o3)) (by have := pz.2; omega) (by have := pz.2; omega)
  have l1 := selO_low (s := sI) px t1
  have l2 := selO_low (s := sJ) py t2
  have l3 := selO_low (s := sK) pz t3
  have g1 := selO_high (s := sI) px t1
  have g2 := selO_high (s := sJ) py t2
  have g3 := selO_high (s := sK) pz t3
  have e1 : endL S70.f0 S56.f0 (lowT S70.f1 S56.f1 S56.f2) [x, y, z] (optT sI o1 ++ optT sJ o2 ++ optT sK o3) c = some (c + vO o1 * lowAt x (vO o1) + vO o2 * lowAt y (vO o2) + vO o3 * lowAt z (vO o3)) := by
    rw [List.append_assoc, endL_opt _ _ sI x o1 _ c f1 (by omega) (by omega), endL_opt _ _ sJ y o2 _ _ f2 (by omega) (by omega), ← List.append_nil (optT sK o3), endL_opt _ _ sK z o3 _ _ f3 (by omega) (by omega), l1, l2, l3]
    rfl
  have e2 : endL S70.f0 S56.f0 (highT S70.f1 S56.f1 S56.f2) [x, y, z] (optT sI o1 ++ optT sJ o2 ++ optT sK o3) c = some (c + vO o1 * highAt x (vO o1) + vO o2 * highAt y (vO o2) + vO o3 * highAt z (vO o3)) := by
    rw [List.append_assoc, endL_opt _ _ sI x o1 _ c f1 (by omega) (by omega), endL_opt _ _ sJ y o2 _ _ f2 (by omega) (by omega), ← List.append_nil (optT sK o3), endL_opt _ _ sK z o3 _ _ f3 (by omega) (by omega), g1, g2, g3]
    rfl
  unfold extT extS
  rw [drawn_ok o1 o2 o3 t1 t2 t3 c c1 c2, box_full px py pz, e1, e2]
  rfl
theorem impl_restOf_ev (c : Int) (l : List S70) (s : ByteArray) (hl : l.length ≤ 100) : Ev (fun k => impl_restOf.f k c l s) (c, l.filter fun x => !decide (x.f0.toList = s.toList)) := by
  unfold impl_restOf.f
  have wd : 100 ≤ maxLen := by decide
  have key : ∀ d i, i + d = l.length → ∀ acc : List S70, acc.length ≤ i → Ev (fun k => impl_restOf.l0 k s l (l.length : Int) (i : Int) c acc) (c, acc ++ (l.drop i).filter fun x => !decide (x.f0.toList = s.toList)) := by
    intro d
    induction d with
    | zero =>
      intro i hi acc ha
      refine Ev.step (fun k => by rw [impl_restOf.l0]) ?_
      have c : ¬ (i : Int) < (l.length : Int) := by omega
      simp only [c, if_false]
      rw [List.drop_eq_nil_of_le (by omega)]
      simp only [List.filter_nil, List.append_nil]
      exact Ev.now _
    | succ d ih =>
      intro i hi acc ha
      refine Ev.step (fun k => by rw [impl_restOf.l0]) ?_
      have c : (i : Int) < (l.length : Int) := by omega
      have c0 : (0 : Int) ≤ (i : Int) := by omega
      have c1 : acc.length < 5864062014805 := by omega
      have hw : wrap64 ((i : Int) + 1) = ((i + 1 : Nat) : Int) := wi (n := l.length) (by omega) (by omega)
      have hd : l.drop i = rd_T70 l (i : Int) :: l.drop (i + 1) := drop_cons l _ (by omega)
      rw [hd]
      simp only [c, c0, c1, if_true, hw]
      by_cases e : (rd_T70 l (i : Int)).f0.toList = s.toList
      · simp only [e, if_true, decide_true, Bool.not_true, Bool.false_eq_true, not_false_eq_true, List.filter_cons_of_neg]
        exact ih (i + 1) (by omega) acc (by omega)
      · simp only [e, if_false, decide_false, Bool.not_false, List.filter_cons_of_pos]
        have := ih (i + 1) (by omega) (acc ++ [⟨(rd_T70 l (i : Int)).f0, (rd_T70 l (i : Int)).f1⟩]) (by simp; omega)
        simpa only [List.append_assoc, List.cons_append, List.nil_append] using this
  have e := key l.length 0 (by omega) [] (by simp)
  rw [List.nil_append, List.drop_zero] at e
  exact e
/-- Two names of a drawn sum other than i. -/
def oth (o2 o3 : Option Int) : List S70 := optT sJ o2 ++ optT sK o3
theorem neI : (¬ sJ.toList = sI.toList) ∧ ¬ sK.toList = sI.toList := by decide +kernel
theorem coef_i (o1 o2 o3 : Option Int) : coefL S70.f0 S70.f1 (optT sI o1 ++ optT sJ o2 ++ optT sK o3) sI = vO o1 := by
  cases o1 <;> cases o2 <;> cases o3 <;> simp [optT, coefL, vO, neI.1, neI.2]
theorem rest_i (o1 o2 o3 : Option Int) : ((optT sI o1 ++ optT sJ o2 ++ optT sK o3).filter fun x => !decide (x.f0.toList = sI.toList)) = oth o2 o3 := by
  cases o1 <;> cases o2 <;> cases o3 <;> simp [optT, oth, neI.1, neI.2]
theorem box_rounds {x y z : S56} (px : RngD x sI) (py : RngD y sJ) (pz : RngD z sK) : 1 ≤ rndS S56.f0 S56.f1 S56.f2 [x, y, z] ∧ rndS S56.f0 S56.f1 S56.f2 [x, y, z] ≤ 600 := by
  have ax := px.2
  have ay := py.2
  have az := pz.2
  obtain ⟨nx, hnx⟩ : ∃ n : Nat, x.f1 + n = x.f2 + 1 := ⟨(x.f2 + 1 - x.f1).toNat, by omega⟩
  obtain ⟨ny, hny⟩ : ∃ n : Nat, y.f1 + n = y.f2 + 1 := ⟨(y.f2 + 1 - y.f1).toNat, by omega⟩
  obtain ⟨nz, hnz⟩ : ∃ n : Nat, z.f1 + n = z.f2 + 1 := ⟨(z.f2 + 1 - z.f1).toNat, by omega⟩
  have v1 : nx * ny ≤ 5 * 5 := Nat.mul_le_mul (by omega) (by omega)
  have v2 : nx * ny * nz ≤ 25 * 5 := Nat.mul_le_mul v1 (by omega)
  have v3 : 1 * 1 ≤ nx * ny := Nat.mul_le_mul (by omega) (by omega)
  have v4 : 1 * 1 ≤ nx * ny * nz := Nat.mul_le_mul v3 (by omega)
  have w1 : x.f2 - x.f1 + 1 = (nx : Int) := by omega
  have w2 : y.f2 - y.f1 + 1 = (ny : Int) := by omega
  have w3 : z.f2 - z.f1 + 1 = (nz : Int) := by omega
  have mnl : ∀ a : Int, a ≤ 1000 → mn a 1000000 = a := by
    intro a ha
    unfold mn
    split <;> omega
  unfold rndS
  rw [box_full px py pz]
  simp only [if_true, rndL, w1, w2, w3, Int.one_mul]
  rw [mnl (nx : Int) (by omega), ← Int.natCast_mul, mnl ((nx * ny : Nat) : Int) (by omega), ← Int.natCast_mul, mnl ((nx * ny * nz : Nat) : Int) (by omega)]
  omega
/-- A drawn sum. -/
def SumD (c : Int) (t : List S70) : Prop := ∃ o1 o2 o3, t = optT sI o1 ++ optT sJ o2 ++ optT sK o3 ∧ -4 ≤ c ∧ c ≤ 8 ∧ TermD o1 ∧ TermD o2 ∧ TermD o3
theorem spec_l8One_ex {l : List Int} {i : Int} (h : Int) (hi : At l i) : ∃ c t i' h', spec_l8One.f l i h = some (c, t, i', h') ∧ SumD c t ∧ At l i' := by
  unfold spec_l8One.f
  obtain ⟨a, i1, h1, e1, p1, q1, c1⟩ := spec_l1Below_ex h 13 hi (by omega) (by omega)
  obtain ⟨v, i2, h2, e2, hv, c2⟩ := spec_l1Int_ex h1 [1, 1, 1, 2, 2, 3, (-1), 0] c1 (by decide) (by decide)
  have r1 : wrap64 (a - 4) = a - 4 := w64 (by omega) (by omega)
  have tn : TermD none := by intro n hn; cases hn
  by_cases h0 : v = 0
  · refine ⟨a - 4, [], i2, h2, ?_, ⟨none, none, none, rfl, by omega, by omega, tn, tn, tn⟩, c2⟩
    simp only [e1, e2, Option.bind_some, h0, if_true, r1]
  · refine ⟨a - 4, [⟨sI, v⟩], i2, h2, ?_, ⟨some v, none, none, rfl, by omega, by omega, ?_, tn, tn⟩, c2⟩
    · simp only [e1, e2, Option.bind_some, h0, if_false, r1, List.length_nil, show (0 : Nat) < 5864062014805 by omega, if_true, List.nil_append]
    · intro n hn
      cases hn
      simp only [List.mem_cons, List.not_mem_nil, or_false] at hv ⊢
      omega
theorem spec_DrawMeets_ex (l : List Int) (hl : l.length ≤ maxLen) : ∃ c t c' t' x y z, Ev (fun k => spec_DrawMeets.f k l) (c, t, c', t', [x, y, z]) ∧ SumD c t ∧ SumD c' t' ∧ RngD x sI ∧ RngD y sJ ∧ RngD z sK := by
  obtain ⟨h, e0⟩ := spec_l1New_ev l hl
  have h0 : At l 0 := ⟨hl, by omega, by omega⟩
  obtain ⟨c, t, i1, h1, e1, s1, c1⟩ := spec_l8One_ex h h0
  obtain ⟨c', t', i2, h2, e2, s2, c2⟩ := spec_l8One_ex h1 c1
  obtain ⟨b, i3, h3, e3, c3⟩ := spec_l1Once_ex h2 2 c2 (by omega) (by omega)
  have J : ∀ (i h a : Int) (s : List S70), At l i → SumD a s → ∃ a' s' x y z, Ev (fun k => spec_DrawMeets.j0 k l i h a s c' t') (a, s, a', s', [x, y, z]) ∧ SumD a' s' ∧ RngD x sI ∧ RngD y sJ ∧ RngD z sK := by
    intro i h a s hi hs
    obtain ⟨b, j1, g1, f1, k1⟩ := spec_l1Once_ex h 3 hi (by omega) (by omega)
    cases b with
    | true =>
      obtain ⟨u, o1, o2, o3, j2, g2, f2, u1, u2, r1, r2, r3, k2⟩ := spec_l8Draw_ex g1 k1
      obtain ⟨x, y, z, j3, g3, f3, px, py, pz, _⟩ := spec_l9Draw_ex g2 k2
      refine ⟨u, _, x, y, z, Ev.step (fun k => by rw [spec_DrawMeets.j0]) ?_, ⟨o1, o2, o3, rfl, u1, u2, r1, r2, r3⟩, px, py, pz⟩
      simp only [f1, Option.bind_some, if_true]
      exact Ev.then f2 (Ev.then f3 (Ev.now _))
    | false =>
      obtain ⟨x, y, z, j3, g3, f3, px, py, pz, _⟩ := spec_l9Draw_ex g1 k1
      refine ⟨c', t', x, y, z, Ev.step (fun k => by rw [spec_DrawMeets.j0]) ?_, s2, px, py, pz⟩
      simp only [f1, Option.bind_some, Bool.false_eq_true, if_false]
      exact Ev.then f3 (Ev.now _)
  unfold spec_DrawMeets.f
  cases b with
  | true =>
    obtain ⟨u, o1, o2, o3, j2, g2, f2, u1, u2, r1, r2, r3, k2⟩ := spec_l8Draw_ex h3 c3
    obtain ⟨a', s', x, y, z, E, w1, px, py, pz⟩ := J j2 g2 u _ k2 ⟨o1, o2, o3, rfl, u1, u2, r1, r2, r3⟩
    refine ⟨u, _, a', s', x, y, z, Ev.then e0 ?_, ⟨o1, o2, o3, rfl, u1, u2, r1, r2, r3⟩, w1, px, py, pz⟩
    simp only [e1, e2, e3, Option.bind_some, if_true]
    exact Ev.then f2 E
  | false =>
    obtain ⟨a', s', x, y, z, E, w1, px, py, pz⟩ := J i3 h3 c t c3 s1
    refine ⟨c, t, a', s', x, y, z, Ev.then e0 ?_, s1, w1, px, py, pz⟩
    simp only [e1, e2, e3, Option.bind_some, Bool.false_eq_true, if_false]
    exact E
theorem spec_l11Rest_ev (c : Int) (l : List S70) (s : ByteArray) (hl : l.length ≤ 100) : Ev (fun k => spec_l11Rest.f k c l s) (c, l.filter fun x => !decide (x.f0.toList = s.toList)) := by
  unfold spec_l11Rest.f
  have wd : 100 ≤ maxLen := by decide
  have key : ∀ d i, i + d = l.length → ∀ acc : List S70, acc.length ≤ i → Ev (fun k => spec_l11Rest.l0 k s (i : Int) c l c acc) (c, acc ++ (l.drop i).filter fun x => !decide (x.f0.toList = s.toList)) := by
    intro d
    induction d with
    | zero =>
      intro i hi acc ha
      refine Ev.step (fun k => by rw [spec_l11Rest.l0]) ?_
      have c1 : ¬ (i : Int) < (l.length : Int) := by omega
      simp only [c1, if_false]
      rw [List.drop_eq_nil_of_le (by omega)]
      simp only [List.filter_nil, List.append_nil]
      exact Ev.now _
    | succ d ih =>
      intro i hi acc ha
      refine Ev.step (fun k => by rw [spec_l11Rest.l0]) ?_
      have c1 : (i : Int) < (l.length : Int) := by omega
      have c0 : (0 : Int) ≤ (i : Int) := by omega
      have c2 : acc.length < 5864062014805 := by omega
      have hw : wrap64 ((i : Int) + 1) = ((i + 1 : Nat) : Int) := wi (n := l.length) (by omega) (by omega)
      have hd : l.drop i = rd_T70 l (i : Int) :: l.drop (i + 1) := drop_cons l _ (by omega)
      rw [hd]
      simp only [c0, c1, c2, if_true, hw]
      by_cases e : (rd_T70 l (i : Int)).f0.toList = s.toList
      · simp only [e, if_true, decide_true, Bool.not_true, Bool.false_eq_true, not_false_eq_true, List.filter_cons_of_neg]
        exact ih (i + 1) (by omega) acc (by omega)
      · simp only [e, if_false, decide_false, Bool.not_false, List.filter_cons_of_pos]
        have := ih (i + 1) (by omega) (acc ++ [⟨(rd_T70 l (i : Int)).f0, (rd_T70 l (i : Int)).f1⟩]) (by simp; omega)
        simpa only [List.append_assoc, List.cons_append, List.nil_append] using this
  have e := key l.length 0 (by omega) [] (by simp)
  rw [List.nil_append, List.drop_zero] at e
  exact e
theorem neAll : (¬ sI.toList = sJ.toList) ∧ (¬ sI.toList = sK.toList) ∧ (¬ sJ.toList = sK.toList) ∧ ¬ sK.toList = sJ.toList := by decide +kernel
theorem coef_j (o1 o2 o3 : Option Int) : coefL S70.f0 S70.f1 (optT sI o1 ++ optT sJ o2 ++ optT sK o3) sJ = vO o2 := by
  cases o1 <;> cases o2 <;> cases o3 <;> simp [optT, coefL, vO, neAll.1, neAll.2.2.2]
theorem coef_k (o1 o2 o3 : Option Int) : coefL S70.f0 S70.f1 (optT sI o1 ++ optT sJ o2 ++ optT sK o3) sK = vO o3 := by
  cases o1 <;> cases o2 <;> cases o3 <;> simp [optT, coefL, vO, neAll.2.1, neAll.2.2.1]
theorem sum_i (o1 o2 o3 : Option Int) (i : Int) : sumB [⟨sI, i⟩] (optT sI o1 ++ optT sJ o2 ++ optT sK o3) = vO o1 * i := by
  cases o1 <;> cases o2 <;> cases o3 <;> simp [sumB, boundS, lastR, optT, vO, neAll.1, neAll.2.1]
/-! ### the greatest number that divides all -/
theorem gcdS_small {a b : Int} (h1 : -8 ≤ a) (h2 : a ≤ 8) (h3 : -8 ≤ b) (h4 : b ≤ 8) : -8 ≤ gcdS a b ∧ gcdS a b ≤ 8 ∧ gcdS a b ∣ a ∧ gcdS a b ∣ b := by
  have wa : wrap32 a = a := by unfold wrap32; omega
  have wb : wrap32 b = b := by unfold wrap32; omega
  unfold gcdS
  rw [wa, wb]
  refine ⟨by omega, ?_, Int.ofNat_dvd_left.2 (Nat.gcd_dvd_right _ _), Int.ofNat_dvd_left.2 (Nat.gcd_dvd_left _ _)⟩
  rcases Nat.eq_zero_or_pos b.natAbs with h | h
  · rw [h, Nat.gcd_zero_left]
    omega
  · have := Nat.gcd_le_left a.natAbs h
    omega
theorem gcdL_small : ∀ (l : List S70) (n : Int), -8 ≤ n → n ≤ 8 → (∀ x ∈ l, -8 ≤ x.f1 ∧ x.f1 ≤ 8) → -8 ≤ gcdL n l ∧ gcdL n l ≤ 8 ∧ gcdL n l ∣ n ∧ ∀ x ∈ l, gcdL n l ∣ x.f1
  | [], n, h1, h2, _ => ⟨h1, h2, Int.dvd_refl n, by simp⟩
  | x :: xs, n, h1, h2, h => by
    have hx := h x List.mem_cons_self
    obtain ⟨g1, g2, g3, g4⟩ := gcdS_small h1 h2 hx.1 hx.2
    obtain ⟨i1, i2, i3, i4⟩ := gcdL_small xs (gcdS n x.f1) g1 g2 (fun y hy => h y (List.mem_cons_of_mem _ hy))
    have e : gcdL n (x :: xs) = gcdL (gcdS n x.f1) xs := rfl
    rw [e]
    refine ⟨i1, i2, Int.dvd_trans i3 g3, fun y hy => ?_⟩
    rcases List.mem_cons.1 hy with rfl | hy
    · exact Int.dvd_trans i3 g4
    · exact i4 y hy
theorem drawn_bd {o1 o2 o3 : Option Int} (t1 : TermD o1) (t2 : TermD o2) (t3 : TermD o3) : ∀ x ∈ optT sI o1 ++ optT sJ o2 ++ optT sK o3, -8 ≤ x.f1 ∧ x.f1 ≤ 8 := by
  have key : ∀ s o, TermD o → ∀ x ∈ optT s o, -8 ≤ x.f1 ∧ x.f1 ≤ 8 := by
    intro s o t x hx
    cases o with
    | none => simp [optT] at hx
    | some n =>
      have hb := vO_bd t
      simp only [vO, Option.getD_some] at hb
      simp only [optT, List.mem_cons, List.not_mem_nil, or_false] at hx
      rw [hx]
      show -8 ≤ n ∧ n ≤ 8
      omega
  intro x hx
  simp only [List.mem_append] at hx
  rcases hx with (hx | hx) | hx
  · exact key _ _ t1 x hx
  · exact key _ _ t2 x hx
  · exact key _ _ t3 x hx
theorem dvd_vO {G : Int} {o1 o2 o3 : Option Int} (h : ∀ x ∈ optT sI o1 ++ optT sJ o2 ++ optT sK o3, G ∣ x.f1) : G ∣ vO o1 ∧ G ∣ vO o2 ∧ G ∣ vO o3 := by
  have key : ∀ s o, (∀ x ∈ optT s o, G ∣ x.f1) → G ∣ vO o := by
    intro s o h
    cases o with
    | none => exact Int.dvd_zero G
    | some n => exact h ⟨s, n⟩ (by simp [optT])
  exact ⟨key sI o1 fun x hx => h x (by simp [hx]), key sJ o2 fun x hx => h x (by simp [hx]), key sK o3 fun x hx => h x (by simp [hx])⟩
set_option linter.unusedSectionVars false
section
variable {o1 o2 o3 p1 p2 p3 : Option Int} (t1 : TermD o1) (t2 : TermD o2) (t3 : TermD o3) (u1 : TermD p1) (u2 : TermD p2) (u3 : TermD p3) {c c' : Int} (c1 : -4 ≤ c) (c2 : c ≤ 8) (d1 : -4 ≤ c') (d2 : c' ≤ 8)
  {x y z : S56} (px : RngD x sI) (py : RngD y sJ) (pz : RngD z sK)
/-- Both sums are the same number somewhere in the box. -/
def Meets (x y z : S56) (c a1 a2 a3 c' b1 b2 b3 i k : Int) : Prop := ∃ j m j' m', (y.f1 ≤ j ∧ j ≤ y.f2) ∧ (z.f1 ≤ m ∧ m ≤ z.f2) ∧ (y.f1 ≤ j' ∧ j' ≤ y.f2) ∧ (z.f1 ≤ m' ∧ m' ≤ z.f2) ∧ c + a1 * i + a2 * j + a3 * m = c' + b1 * k + b2 * j' + b3 * m'
include t1 t2 t3 u1 u2 u3 c1 c2 d1 d2 px py pz
theorem gcd_of_meets {i k : Int} (h : Meets x y z c (vO o1) (vO o2) (vO o3) c' (vO p1) (vO p2) (vO p3) i k) : gcdMeetS c (optT sI o1 ++ optT sJ o2 ++ optT sK o3) c' (optT sI p1 ++ optT sJ p2 ++ optT sK p3) = true := by
  obtain ⟨j, m, j', m', _, _, _, _, e⟩ := h
  have oa := drawn_ok o1 o2 o3 t1 t2 t3 c c1 c2
  have ob := drawn_ok p1 p2 p3 u1 u2 u3 c' d1 d2
  obtain ⟨g1, g2, g3, g4⟩ := gcdL_small (optT sI o1 ++ optT sJ o2 ++ optT sK o3) 0 (by omega) (by omega) (drawn_bd t1 t2 t3)
  obtain ⟨i1, i2, i3, i4⟩ := gcdL_small (optT sI p1 ++ optT sJ p2 ++ optT sK p3) _ g1 g2 (drawn_bd u1 u2 u3)
  obtain ⟨⟨q1, e1⟩, ⟨q2, e2⟩, ⟨q3, e3⟩⟩ := dvd_vO fun x hx => Int.dvd_trans i3 (g4 x hx)
  obtain ⟨⟨r1, f1⟩, ⟨r2, f2⟩, ⟨r3, f3⟩⟩ := dvd_vO i4
  unfold gcdMeetS
  rw [oa, ob]
  simp only [Bool.and_self, if_true]
  generalize gcdL (gcdL 0 (optT sI o1 ++ optT sJ o2 ++ optT sK o3)) (optT sI p1 ++ optT sJ p2 ++ optT sK p3) = G at *
  rw [e1, e2, e3, f1, f2, f3] at e
  simp only [Int.mul_assoc] at e
  have hd : c - c' = G * (r1 * k + r2 * j' + r3 * m' - q1 * i - q2 * j - q3 * m) := by
    simp only [Int.mul_add, Int.mul_sub]
    omega
  have hw : wrap64 (c - c') = c - c' := w64 (by omega) (by omega)
  by_cases hG : G = 0
  · rw [if_pos hG]
    rw [hG, Int.zero_mul] at hd
    have : c = c' := by omega
    simp [this]
  · rw [if_neg hG, hw, hd, Int.mul_tmod_right]
    rfl
theorem rng_of_meets {i k : Int} (hi1 : x.f1 ≤ i) (hi2 : i ≤ x.f2) (hk1 : x.f1 ≤ k) (hk2 : k ≤ x.f2) (h : Meets x y z c (vO o1) (vO o2) (vO o3) c' (vO p1) (vO p2) (vO p3) i k) :
    rngB (extT c (optT sI o1 ++ optT sJ o2 ++ optT sK o3) [x, y, z]) (extT c' (optT sI p1 ++ optT sJ p2 ++ optT sK p3) [x, y, z]) = true := by
  obtain ⟨j, m, j', m', hj, hm, hj', hm', e⟩ := h
  rw [drawn_ext px py pz o1 o2 o3 t1 t2 t3 c c1 c2, drawn_ext px py pz p1 p2 p3 u1 u2 u3 c' d1 d2]
  have a1 := low_le px (vO_bd t1).1 (vO_bd t1).2 hi1 hi2
  have a2 := low_le py (vO_bd t2).1 (vO_bd t2).2 hj.1 hj.2
  have a3 := low_le pz (vO_bd t3).1 (vO_bd t3).2 hm.1 hm.2
  have b1 := low_le px (vO_bd u1).1 (vO_bd u1).2 hk1 hk2
  have b2 := low_le py (vO_bd u2).1 (vO_bd u2).2 hj'.1 hj'.2
  have b3 := low_le pz (vO_bd u3).1 (vO_bd u3).2 hm'.1 hm'.2
  simp only [rngB, Bool.and_eq_true, decide_eq_true_eq]
  omega
theorem meet_ev (i k : Int) (hi1 : x.f1 ≤ i) (hi2 : i ≤ x.f2) (hk1 : x.f1 ≤ k) (hk2 : k ≤ x.f2) :
    ∃ b, Ev (fun q => impl_MeetAt.f q c (optT sI o1 ++ optT sJ o2 ++ optT sK o3) c' (optT sI p1 ++ optT sJ p2 ++ optT sK p3) sI i k [x, y, z]) b ∧ (b = true → Meets x y z c (vO o1) (vO o2) (vO o3) c' (vO p1) (vO p2) (vO p3) i k) := by
  have wd : 4 ≤ maxLen := by decide
  have z1 : sI.size = 1 := rfl
  have z2 : sJ.size = 1 := rfl
  have z3 : sK.size = 1 := rfl
  have M1 : ([x, y, z] : List S56).length ≤ maxLen := by simp only [List.length_cons, List.length_nil]; omega
  have M2 : ∀ u ∈ [x, y, z], u.f0.size ≤ maxLen := by
    intro u hu
    simp only [List.mem_cons, List.not_mem_nil, or_false] at hu
    rcases hu with rfl | rfl | rfl
    · rw [px.1]; omega
    · rw [py.1]; omega
    · rw [pz.1]; omega
  have rv := impl_Rounds_ev [x, y, z] M1 M2
  have br := box_rounds px py pz
  have g : (decide (1 ≤ rndS S56.f0 S56.f1 S56.f2 [x, y, z]) && decide (rndS S56.f0 S56.f1 S56.f2 [x, y, z] ≤ 600)) = true := by
    simp only [Bool.and_eq_true, decide_eq_true_eq]
    exact br
  have hfu := box_full px py pz
  obtain ⟨hfb, hb8⟩ := fullS_mem S56.f0 S56.f1 S56.f2 hfu
  have hle : ∀ r ∈ [x, y, z], r.f1 ≤ r.f2 := fun r hr => (hfb r hr).1
  have hA : prodA [x, y, z] ≤ 600 := by
    have h := br.2
    unfold rndS at h
    rw [if_pos hfu] at h
    rw [rnd_prod [x, y, z] 1 hle (by omega) h, Int.one_mul] at h
    exact h
  have n1 := drawn_size o1 o2 o3
  have n2 := drawn_size p1 p2 p3
  have a1 := impl_AffOk_ev c _ (show (optT sI o1 ++ optT sJ o2 ++ optT sK o3).length ≤ maxLen by omega) (fun x hx => Nat.le_trans (n1.2 x hx) (by omega))
  have a2 := impl_AffOk_ev c' _ (show (optT sI p1 ++ optT sJ p2 ++ optT sK p3).length ≤ maxLen by omega) (fun x hx => Nat.le_trans (n2.2 x hx) (by omega))
  rw [drawn_ok o1 o2 o3 t1 t2 t3 c c1 c2] at a1
  rw [drawn_ok p1 p2 p3 u1 u2 u3 c' d1 d2] at a2
  have val : ∀ {o1 o2 o3 : Option Int} {c i : Int}, TermD o1 → TermD o2 → TermD o3 → -4 ≤ c → c ≤ 8 → x.f1 ≤ i → i ≤ x.f2 → ∃ xs, Ev (fun q => impl_valuesOf.f q c (optT sI o1 ++ optT sJ o2 ++ optT sK o3) sI i [x, y, z]) xs ∧ xs.length ≤ 600 ∧ InR xs ∧
      ∀ v ∈ xs, ∃ j m, (y.f1 ≤ j ∧ j ≤ y.f2) ∧ (z.f1 ≤ m ∧ m ≤ z.f2) ∧ v = c + vO o1 * i + vO o2 * j + vO o3 * m := by
    intro o1 o2 o3 c i t1 t2 t3 c1 c2 hi1 hi2
    have ln := (drawn_size o1 o2 o3).1
    obtain ⟨xs, E, lx, hx⟩ := impl_valuesOf_ev c (optT sI o1 ++ optT sJ o2 ++ optT sK o3) sI i [x, y, z] (by omega) ⟨by omega, by omega⟩ hb8 hfb hA
    have ax := px.2
    have ay := py.2
    have az := pz.2
    have b1 := vO_bd t1
    have b2 := vO_bd t2
    have b3 := vO_bd t3
    have m1 := small_mul b1.1 b1.2 (i := i) (by omega) (by omega)
    rw [sum_i, w64 (by omega) (by omega)] at hx
    have hr := vals_reach (coefL S70.f0 S70.f1 (optT sI o1 ++ optT sJ o2 ++ optT sK o3)) sI [x, y, z] [c + vO o1 * i] hle (fun q hq => by
      simp only [List.mem_cons, List.not_mem_nil, or_false] at hq
      rw [hq]
      omega)
    rw [← hx] at hr
    refine ⟨xs, E, lx, hr.1, fun v hv => ?_⟩
    obtain ⟨q, hq, u, hu, rfl⟩ := (hr.2 v).1 hv
    simp only [List.mem_cons, List.not_mem_nil, or_false] at hq
    subst hq
    simp only [Reach, px.1, py.1, pz.1, neI.1, neI.2, if_true, if_false, coef_j, coef_k] at hu
    obtain ⟨j, j1, j2, m, k1, k2, rfl⟩ := hu
    have m2 := small_mul b2.1 b2.2 (i := j) (by omega) (by omega)
    have m3 := small_mul b3.1 b3.2 (i := m) (by omega) (by omega)
    exact ⟨j, m, ⟨j1, j2⟩, ⟨k1, k2⟩, w64 (by omega) (by omega)⟩
  obtain ⟨xs, Ex, lx, rx, vx⟩ := val t1 t2 t3 c1 c2 hi1 hi2
  obtain ⟨ys, Ey, ly, ry, vy⟩ := val u1 u2 u3 d1 d2 hk1 hk2
  have wf : ∀ l : List Int, InR l → impl_MeetAt.wfs l = true := by
    intro l hl
    unfold impl_MeetAt.wfs
    rw [List.all_eq_true]
    intro v hv
    have := hl v hv
    simp [Lit.wf, IntKind.min, IntKind.max, IntKind.bits, IntKind.signed]
    omega
  have f : (impl_MeetAt.wfs xs && impl_MeetAt.wfs ys && decide (xs.length ≤ 140737488351232) && decide (ys.length ≤ 140737488351232)) = true := by
    simp only [wf xs rx, wf ys ry, Bool.and_eq_true, decide_eq_true_eq, true_and, Bool.and_self]
    omega
  refine ⟨ys.any fun y => xs.contains y, ?_, fun hb => ?_⟩
  · unfold impl_MeetAt.f
    refine Ev.then rv ?_
    simp only [g, if_true]
    refine Ev.then a1 ?_
    simp only [if_true]
    refine Ev.then a2 ?_
    simp only [if_true]
    refine Ev.then Ex (Ev.then Ey ?_)
    simp only [f, if_true]
    exact Ev.now _
  · rw [List.any_eq_true] at hb
    obtain ⟨v, hv, hc⟩ := hb
    have hv2 : v ∈ xs := by simpa using hc
    obtain ⟨j, m, hj, hm, e⟩ := vx v hv2
    obtain ⟨j', m', hj', hm', e'⟩ := vy v hv
    exact ⟨j, m, j', m', hj, hm, hj', hm', e.symm.trans e'⟩
/-! ### may they meet -/
theorem may_loop (n la ha lb hb : Int) (hn1 : -2 ≤ n) (hn2 : n ≤ 4) (h1 : -1000 ≤ la) (h2 : la ≤ 1000) (h3 : -1000 ≤ ha) (h4 : ha ≤ 1000) (h5 : -1000 ≤ lb) (h6 : lb ≤ 1000) (h7 : -1000 ≤ hb) (h8 : hb ≤ 1000) :
    ∃ b, Ev (fun k => impl_MayMeet.l0 k [x, y, z] n 0 la ha lb hb 1) b ∧ Ev (fun k => spec_MayMeet.l0 k [x, y, z] n 0 la ha lb hb 1) b ∧ ∀ d, 1 ≤ d → d ≤ x.f2 - x.f1 → ((lb - ha ≤ n * d ∧ n * d ≤ hb - la) ∨ (lb - ha ≤ -n * d ∧ -n * d ≤ hb - la)) → b = true := by
  have ax := px.2
  have g0 : (0 : Int) < (([x, y, z] : List S56).length : Int) := by simp only [List.length_cons, List.length_nil]; omega
  have g1 : (0 : Int) ≤ 0 := by omega
  have r0 : rd_T56 [x, y, z] 0 = x := rfl
  have w0 : wrap64 (x.f2 - x.f1) = x.f2 - x.f1 := w64 (by omega) (by omega)
  have w1 : wrap64 (lb - ha) = lb - ha := w64 (by omega) (by omega)
  have w2 : wrap64 (hb - la) = hb - la := w64 (by omega) (by omega)
  have w3 : wrap64 (-n) = -n := w64 (by omega) (by omega)
  have key : ∀ (r : Nat) (t : Int), t + r = x.f2 - x.f1 + 1 → 1 ≤ t → ∃ b, Ev (fun k => impl_MayMeet.l0 k [x, y, z] n 0 la ha lb hb t) b ∧ Ev (fun k => spec_MayMeet.l0 k [x, y, z] n 0 la ha lb hb t) b ∧ ∀ d, t ≤ d → d ≤ x.f2 - x.f1 → ((lb - ha ≤ n * d ∧ n * d ≤ hb - la) ∨ (lb - ha ≤ -n * d ∧ -n * d ≤ hb - la)) → b = true := by
    intro r
    induction r with
    | zero =>
      intro t ht h1t
      have cc : ¬ t ≤ x.f2 - x.f1 := by omega
      refine ⟨false, Ev.step (fun k => by rw [impl_MayMeet.l0]) ?_, Ev.step (fun k => by rw [spec_MayMeet.l0]) ?_, fun d hd1 hd2 => by omega⟩
      · simp only [g0, g1, r0, w0, cc, if_true, if_false]
        exact Ev.now _
      · simp only [g0, g1, r0, w0, cc, if_true, if_false]
        exact Ev.now _
    | succ r ih =>
      intro t ht h1t
      have cc : t ≤ x.f2 - x.f1 := by omega
      have m1 := small_mul hn1 hn2 (i := t) (by omega) (by omega)
      have e1 : -n * t = -(n * t) := Int.neg_mul n t
      have w4 : wrap64 (n * t) = n * t := w64 (by omega) (by omega)
      have w5 : wrap64 (-n * t) = -n * t := w64 (by omega) (by omega)
      have w6 : wrap64 (t + 1) = t + 1 := w64 (by omega) (by omega)
      obtain ⟨b, E1, E2, hbt⟩ := ih (t + 1) (by omega) (by omega)
      by_cases k1 : lb - ha ≤ n * t ∧ n * t ≤ hb - la
      · refine ⟨true, Ev.step (fun k => by rw [impl_MayMeet.l0]) ?_, Ev.step (fun k => by rw [spec_MayMeet.l0]) ?_, fun _ _ _ _ => rfl⟩
        · simp only [g0, g1, r0, w0, w1, w2, w3, w4, cc, if_true, impl_inRange_eq, Option.bind_some, k1, decide_true, Bool.and_self]
          exact Ev.now _
        · simp only [g0, g1, r0, w0, w1, w2, w3, w4, cc, if_true, spec_l1In_eq, Option.bind_some, k1, decide_true, Bool.and_self]
          exact Ev.now _
      have k1' : (decide (lb - ha ≤ n * t) && decide (n * t ≤ hb - la)) = false := by
        cases q : (decide (lb - ha ≤ n * t) && decide (n * t ≤ hb - la)) with
        | false => rfl
        | true => exact absurd (by simpa using q) k1
      by_cases k2 : lb - ha ≤ -n * t ∧ -n * t ≤ hb - la
      · refine ⟨true, Ev.step (fun k => by rw [impl_MayMeet.l0]) ?_, Ev.step (fun k => by rw [spec_MayMeet.l0]) ?_, fun _ _ _ _ => rfl⟩
        · simp only [g0, g1, r0, w0, w1, w2, w3, w4, w5, cc, if_true, impl_inRange_eq, Option.bind_some, k1', k2, decide_true, Bool.and_self, Bool.false_eq_true, if_false]
          exact Ev.now _
        · simp only [g0, g1, r0, w0, w1, w2, w3, w4, w5, cc, if_true, spec_l1In_eq, Option.bind_some, k1', k2, decide_true, Bool.and_self, Bool.false_eq_true, if_false]
          exact Ev.now _
      have k2' : (decide (lb - ha ≤ -n * t) && decide (-n * t ≤ hb - la)) = false := by
        cases q : (decide (lb - ha ≤ -n * t) && decide (-n * t ≤ hb - la)) with
        | false => rfl
        | true => exact absurd (by simpa using q) k2
      refine ⟨b, Ev.step (fun k => by rw [impl_MayMeet.l0]) ?_, Ev.step (fun k => by rw [spec_MayMeet.l0]) ?_, fun d hd1 hd2 hd => ?_⟩
      · simp only [g0, g1, r0, w0, w1, w2, w3, w4, w5, w6, cc, if_true, impl_inRange_eq, Option.bind_some, k1', k2', Bool.false_eq_true, if_false]
        exact E1
      · simp only [g0, g1, r0, w0, w1, w2, w3, w4, w5, w6, cc, if_true, spec_l1In_eq, Option.bind_some, k1', k2', Bool.false_eq_true, if_false]
        exact E2
      · by_cases ed : d = t
        · subst ed
          exact absurd hd (fun h => h.elim k1 k2)
        · exact hbt d (by omega) hd2 hd
  exact key (x.f2 - x.f1).toNat 1 (by omega) (by omega)
theorem rest_i' (o1 o2 o3 : Option Int) : ((optT sI o1 ++ optT sJ o2 ++ optT sK o3).filter fun x => !decide (x.f0.toList = sI.toList)) = optT sI none ++ optT sJ o2 ++ optT sK o3 := by
  rw [rest_i]
  rfl
theorem may_both : ∃ b, Ev (fun q => impl_MayMeet.f q c (optT sI o1 ++ optT sJ o2 ++ optT sK o3) c' (optT sI p1 ++ optT sJ p2 ++ optT sK p3) sI [x, y, z]) b ∧ Ev (fun q => spec_MayMeet.f q c (optT sI o1 ++ optT sJ o2 ++ optT sK o3) c' (optT sI p1 ++ optT sJ p2 ++ optT sK p3) sI [x, y, z]) b ∧
    ∀ i k, x.f1 ≤ i → i ≤ x.f2 → x.f1 ≤ k → k ≤ x.f2 → i ≠ k → Meets x y z c (vO o1) (vO o2) (vO o3) c' (vO p1) (vO p2) (vO p3) i k → b = true := by
  have wd : 4 ≤ maxLen := by decide
  have z1 : sI.size = 1 := rfl
  have z2 : sJ.size = 1 := rfl
  have z3 : sK.size = 1 := rfl
  have tn : TermD none := by intro n hn; cases hn
  have M1 : ([x, y, z] : List S56).length ≤ maxLen := by simp only [List.length_cons, List.length_nil]; omega
  have M2 : ∀ u ∈ [x, y, z], u.f0.size ≤ maxLen := by
    intro u hu
    simp only [List.mem_cons, List.not_mem_nil, or_false] at hu
    rcases hu with rfl | rfl | rfl
    · rw [px.1]; omega
    · rw [py.1]; omega
    · rw [pz.1]; omega
  have siz : ∀ q1 q2 q3 : Option Int, (optT sI q1 ++ optT sJ q2 ++ optT sK q3).length ≤ 3 ∧ (optT sI q1 ++ optT sJ q2 ++ optT sK q3).length ≤ maxLen ∧ ∀ x ∈ optT sI q1 ++ optT sJ q2 ++ optT sK q3, x.f0.size ≤ maxLen := fun q1 q2 q3 => by
    have := drawn_size q1 q2 q3
    exact ⟨this.1, by omega, fun x hx => Nat.le_trans (this.2 x hx) (by omega)⟩
  have n1 := siz o1 o2 o3
  have n2 := siz p1 p2 p3
  have r1 := siz none o2 o3
  have r2 := siz none p2 p3
  have Gi := impl_GcdMeet_ev c _ c' _ (show (optT sI o1 ++ optT sJ o2 ++ optT sK o3).length ≤ 1048576 by omega) n1.2.2 (show (optT sI p1 ++ optT sJ p2 ++ optT sK p3).length ≤ 1048576 by omega) n2.2.2
  have Gs := spec_GcdMeet_ev c _ c' _ n1.2.1 n1.2.2 n2.2.1 n2.2.2
  have Ri := impl_RngMeet_ev c _ c' _ [x, y, z] n1.2.1 n1.2.2 n2.2.1 n2.2.2 M1 M2
  have Rs := spec_RngMeet_ev c _ c' _ [x, y, z] n1.2.1 n1.2.2 n2.2.1 n2.2.2 M1 M2
  have hG := fun i k => gcd_of_meets (i := i) (k := k) t1 t2 t3 u1 u2 u3 c1 c2 d1 d2 px py pz
  have hR := fun i k => rng_of_meets (i := i) (k := k) t1 t2 t3 u1 u2 u3 c1 c2 d1 d2 px py pz
  unfold impl_MayMeet.f spec_MayMeet.f
  cases eG : gcdMeetS c (optT sI o1 ++ optT sJ o2 ++ optT sK o3) c' (optT sI p1 ++ optT sJ p2 ++ optT sK p3) with
  | false =>
    rw [eG] at Gi Gs
    refine ⟨false, Ev.then Gi ?_, Ev.then Gs ?_, fun i k _ _ _ _ _ hm => ?_⟩
    · simp only [Bool.false_eq_true, if_false]
      refine Ev.step (fun q => by rw [impl_MayMeet.j0]) ?_
      simp only [if_true]
      exact Ev.now _
    · simp only [Bool.false_eq_true, if_false]
      refine Ev.step (fun q => by rw [spec_MayMeet.j0]) ?_
      simp only [if_true]
      exact Ev.now _
    · have := hG i k hm
      rw [eG] at this
      exact this
  | true =>
  rw [eG] at Gi Gs
  cases eR : rngB (extT c (optT sI o1 ++ optT sJ o2 ++ optT sK o3) [x, y, z]) (extT c' (optT sI p1 ++ optT sJ p2 ++ optT sK p3) [x, y, z]) with
  | false =>
    rw [eR] at Ri Rs
    refine ⟨false, Ev.then Gi ?_, Ev.then Gs ?_, fun i k a1 a2 a3 a4 _ hm => ?_⟩
    · simp only [if_true]
      refine Ev.then Ri (Ev.step (fun q => by rw [impl_MayMeet.j0]) ?_)
      simp only [Bool.not_false, if_true]
      exact Ev.now _
    · simp only [if_true]
      refine Ev.then Rs (Ev.step (fun q => by rw [spec_MayMeet.j0]) ?_)
      simp only [Bool.not_false, if_true]
      exact Ev.now _
    · have := hR i k a1 a2 a3 a4 hm
      rw [eR] at this
      exact this
  | true =>
  rw [eR] at Ri Rs
  have Ci := impl_CoefOf_ev c (optT sI o1 ++ optT sJ o2 ++ optT sK o3) sI n1.2.1
  have Cs := spec_CoefOf_ev c (optT sI o1 ++ optT sJ o2 ++ optT sK o3) sI n1.2.1
  have Di := impl_CoefOf_ev c' (optT sI p1 ++ optT sJ p2 ++ optT sK p3) sI n2.2.1
  have Ds := spec_CoefOf_ev c' (optT sI p1 ++ optT sJ p2 ++ optT sK p3) sI n2.2.1
  rw [coef_i] at Ci Cs Di Ds
  have idx : idxL S56.f0 0 [x, y, z] sI = 0 := by
    simp only [idxL, px.1, if_true]
    rfl
  have Ai := impl_rngAt_ev [x, y, z] sI M1
  have As := spec_l9At_ev [x, y, z] sI M1
  rw [idx] at Ai As
  -- what comes behind the question
  suffices hJ : ∃ b, Ev (fun q => impl_MayMeet.j0 q sI [x, y, z] false c (optT sI o1 ++ optT sJ o2 ++ optT sK o3) c' (optT sI p1 ++ optT sJ p2 ++ optT sK p3)) b ∧ Ev (fun q => spec_MayMeet.j0 q sI [x, y, z] false c (optT sI o1 ++ optT sJ o2 ++ optT sK o3) c' (optT sI p1 ++ optT sJ p2 ++ optT sK p3)) b ∧
      ∀ i k, x.f1 ≤ i → i ≤ x.f2 → x.f1 ≤ k → k ≤ x.f2 → i ≠ k → Meets x y z c (vO o1) (vO o2) (vO o3) c' (vO p1) (vO p2) (vO p3) i k → b = true by
    obtain ⟨b, E1, E2, hb⟩ := hJ
    refine ⟨b, Ev.then Gi ?_, Ev.then Gs ?_, hb⟩
    · simp only [if_true]
      exact Ev.then Ri E1
    · simp only [if_true]
      exact Ev.then Rs E2
  by_cases h0 : vO o1 = 0
  · refine ⟨true, Ev.step (fun q => by rw [impl_MayMeet.j0]) ?_, Ev.step (fun q => by rw [spec_MayMeet.j0]) ?_, fun _ _ _ _ _ _ _ _ => rfl⟩
    · simp only [Bool.false_eq_true, if_false]
      refine Ev.then Ci (Ev.then Ai ?_)
      simp only [h0, if_true]
      refine Ev.step (fun q => by rw [impl_MayMeet.j1]) ?_
      simp only [if_true]
      exact Ev.now _
    · simp only [Bool.false_eq_true, if_false]
      refine Ev.then Cs (Ev.then As ?_)
      simp only [h0, if_true]
      refine Ev.step (fun q => by rw [spec_MayMeet.j1]) ?_
      simp only [if_true]
      exact Ev.now _
  by_cases hv : ¬ vO o1 = vO p1
  · refine ⟨true, Ev.step (fun q => by rw [impl_MayMeet.j0]) ?_, Ev.step (fun q => by rw [spec_MayMeet.j0]) ?_, fun _ _ _ _ _ _ _ _ => rfl⟩
    · simp only [Bool.false_eq_true, if_false]
      refine Ev.then Ci (Ev.then Ai ?_)
      simp only [h0, if_false]
      refine Ev.then Di ?_
      simp only [hv, if_false]
      refine Ev.step (fun q => by rw [impl_MayMeet.j1]) ?_
      simp only [if_true]
      exact Ev.now _
    · simp only [Bool.false_eq_true, if_false]
      refine Ev.then Cs (Ev.then As ?_)
      simp only [h0, if_false]
      refine Ev.then Ds ?_
      simp only [hv, if_false]
      refine Ev.step (fun q => by rw [spec_MayMeet.j1]) ?_
      simp only [if_true]
      exact Ev.now _
  have hv : vO o1 = vO p1 := Decidable.not_not.1 hv
  have ex1 := drawn_ext px py pz none o2 o3 tn t2 t3 c c1 c2
  have ex2 := drawn_ext px py pz none p2 p3 tn u2 u3 c' d1 d2
  have b1 := vO_bd t1
  have b2 := vO_bd t2
  have b3 := vO_bd t3
  have e2 := vO_bd u2
  have e3 := vO_bd u3
  have ax := px.2
  have ay := py.2
  have az := pz.2
  have bd : ∀ {v : Int} {r : S56} {s : ByteArray}, RngD r s → -2 ≤ v → v ≤ 4 → (-28 ≤ v * lowAt r v ∧ v * lowAt r v ≤ 28) ∧ (-28 ≤ v * highAt r v ∧ v * highAt r v ≤ 28) := by
    intro v r s hr h1 h2
    have := lowAt_in hr v
    have hr2 := hr.2
    exact ⟨small_mul h1 h2 (by omega) (by omega), small_mul h1 h2 (by omega) (by omega)⟩
  have q2 := bd py b2.1 b2.2
  have q3 := bd pz b3.1 b3.2
  have q4 := bd py e2.1 e2.2
  have q5 := bd pz e3.1 e3.2
  have v0 : vO none = 0 := rfl
  rw [v0, Int.zero_mul, Int.zero_mul, Int.add_zero] at ex1 ex2
  obtain ⟨b, E1, E2, hb⟩ := may_loop t1 t2 t3 u1 u2 u3 c1 c2 d1 d2 px py pz (vO o1) (c + vO o2 * lowAt y (vO o2) + vO o3 * lowAt z (vO o3)) (c + vO o2 * highAt y (vO o2) + vO o3 * highAt z (vO o3)) (c' + vO p2 * lowAt y (vO p2) + vO p3 * lowAt z (vO p3)) (c' + vO p2 * highAt y (vO p2) + vO p3 * highAt z (vO p3)) b1.1 b1.2 (by omega) (by omega) (by omega) (by omega) (by omega) (by omega) (by omega) (by omega)
  have F1 := impl_restOf_ev c (optT sI o1 ++ optT sJ o2 ++ optT sK o3) sI (by omega)
  have F2 := impl_restOf_ev c' (optT sI p1 ++ optT sJ p2 ++ optT sK p3) sI (by omega)
  have F3 := spec_l11Rest_ev c (optT sI o1 ++ optT sJ o2 ++ optT sK o3) sI (by omega)
  have F4 := spec_l11Rest_ev c' (optT sI p1 ++ optT sJ p2 ++ optT sK p3) sI (by omega)
  rw [rest_i] at F1 F2 F3 F4
  have oe : ∀ q2 q3, oth q2 q3 = optT sI none ++ optT sJ q2 ++ optT sK q3 := fun _ _ => rfl
  rw [oe] at F1 F2 F3 F4
  have X1 := impl_extremes_ev c _ [x, y, z] r1.2.1 r1.2.2 M1 M2
  have X2 := impl_extremes_ev c' _ [x, y, z] r2.2.1 r2.2.2 M1 M2
  have L1 := spec_Least_ev c _ [x, y, z] r1.2.1 r1.2.2 M1 M2
  have L2 := spec_Least_ev c' _ [x, y, z] r2.2.1 r2.2.2 M1 M2
  have N1 := spec_Most_ev c _ [x, y, z] r1.2.1 r1.2.2 M1 M2
  have N2 := spec_Most_ev c' _ [x, y, z] r2.2.1 r2.2.2 M1 M2
  rw [ex1] at X1 L1 N1
  rw [ex2] at X2 L2 N2
  have nd : decide ((0 : Int) < 0) = false := by decide
  refine ⟨b, Ev.step (fun q => by rw [impl_MayMeet.j0]) ?_, Ev.step (fun q => by rw [spec_MayMeet.j0]) ?_, fun i k i1 i2 k1 k2 hne hm => ?_⟩
  · simp only [Bool.false_eq_true, if_false]
    refine Ev.then Ci (Ev.then Ai ?_)
    simp only [h0, if_false]
    refine Ev.then Di ?_
    simp only [eq_true hv, if_true, nd]
    refine Ev.step (fun q => by rw [impl_MayMeet.j1]) ?_
    simp only [Bool.false_eq_true, if_false]
    exact Ev.then F1 (Ev.then X1 (Ev.then F2 (Ev.then X2 E1)))
  · simp only [Bool.false_eq_true, if_false]
    refine Ev.then Cs (Ev.then As ?_)
    simp only [h0, if_false]
    refine Ev.then Ds ?_
    simp only [eq_true hv, if_true, nd]
    refine Ev.step (fun q => by rw [spec_MayMeet.j1]) ?_
    simp only [Bool.false_eq_true, if_false]
    exact Ev.then F3 (Ev.then F4 (Ev.then L1 (Ev.then N1 (Ev.then L2 (Ev.then N2 E2)))))
  · obtain ⟨j, m, j', m', hj, hmm, hj', hm', e⟩ := hm
    have y1 := low_le py b2.1 b2.2 hj.1 hj.2
    have y2 := low_le pz b3.1 b3.2 hmm.1 hmm.2
    have y3 := low_le py e2.1 e2.2 hj'.1 hj'.2
    have y4 := low_le pz e3.1 e3.2 hm'.1 hm'.2
    rw [← hv] at e
    rcases Int.lt_or_gt_of_ne hne with hlt | hgt
    · refine hb (k - i) (by omega) (by omega) (.inr ?_)
      rw [Int.neg_mul, Int.mul_sub]
      omega
    · refine hb (i - k) (by omega) (by omega) (.inl ?_)
      rw [Int.mul_sub]
      omega
end
theorem FnMeets : laws_FnMeets.Pure := by
  intro l hl _ _
  apply Ev.rounds
  unfold laws_FnMeets.f laws_big.f
  by_cases big : (l.length : Int) > 1048576
  · simp only [Option.bind_some, big, decide_true, if_true]
    exact Ev.now _
  simp only [Option.bind_some, big, decide_false, Bool.false_eq_true, if_false]
  obtain ⟨c, t, c', t', x, y, z, D, ⟨o1, o2, o3, rfl, c1, c2, t1, t2, t3⟩, ⟨p1, p2, p3, rfl, d1, d2, u1, u2, u3⟩, px, py, pz⟩ := spec_DrawMeets_ex l hl
  obtain ⟨b, E1, E2, hb⟩ := may_both t1 t2 t3 u1 u2 u3 c1 c2 d1 d2 px py pz
  have wd : 4 ≤ maxLen := by decide
  have z1 : sI.size = 1 := rfl
  have z2 : sJ.size = 1 := rfl
  have z3 : sK.size = 1 := rfl
  have ax := px.2
  have M1 : ([x, y, z] : List S56).length ≤ maxLen := by simp only [List.length_cons, List.length_nil]; omega
  have M2 : ∀ u ∈ [x, y, z], u.f0.size ≤ maxLen := by
    intro u hu
    simp only [List.mem_cons, List.not_mem_nil, or_false] at hu
    rcases hu with rfl | rfl | rfl
    · rw [px.1]; omega
    · rw [py.1]; omega
    · rw [pz.1]; omega
  have n1 := drawn_size o1 o2 o3
  have n2 := drawn_size p1 p2 p3
  have S1 : ∀ u ∈ optT sI o1 ++ optT sJ o2 ++ optT sK o3, u.f0.size ≤ maxLen := fun u hu => Nat.le_trans (n1.2 u hu) (by omega)
  have S2 : ∀ u ∈ optT sI p1 ++ optT sJ p2 ++ optT sK p3, u.f0.size ≤ maxLen := fun u hu => Nat.le_trans (n2.2 u hu) (by omega)
  have G := impl_GcdMeet_ev c _ c' _ (show (optT sI o1 ++ optT sJ o2 ++ optT sK o3).length ≤ 1048576 by omega) S1 (show (optT sI p1 ++ optT sJ p2 ++ optT sK p3).length ≤ 1048576 by omega) S2
  have R := impl_RngMeet_ev c _ c' _ [x, y, z] (show (optT sI o1 ++ optT sJ o2 ++ optT sK o3).length ≤ maxLen by omega) S1 (show (optT sI p1 ++ optT sJ p2 ++ optT sK p3).length ≤ maxLen by omega) S2 M1 M2
  have BO := impl_BoxOk_ev [x, y, z] M1 M2
  have bx : boxOkS S56.f0 S56.f1 S56.f2 [x, y, z] = true := by
    have full := box_full px py pz
    simp only [fullS, Bool.and_eq_true] at full
    exact full.2
  rw [bx] at BO
  have hG := fun i k => gcd_of_meets (i := i) (k := k) t1 t2 t3 u1 u2 u3 c1 c2 d1 d2 px py pz
  have hR := fun i k => rng_of_meets (i := i) (k := k) t1 t2 t3 u1 u2 u3 c1 c2 d1 d2 px py pz
  have hM := meet_ev t1 t2 t3 u1 u2 u3 c1 c2 d1 d2 px py pz
  have g0 : (0 : Int) < (([x, y, z] : List S56).length : Int) := by simp only [List.length_cons, List.length_nil]; omega
  have r0 : rd_T56 [x, y, z] 0 = x := rfl
  generalize optT sI o1 ++ optT sJ o2 ++ optT sK o3 = f at *
  generalize optT sI p1 ++ optT sJ p2 ++ optT sK p3 = g at *
  refine Ev.then D (Ev.then E1 (Ev.then E2 ?_))
  simp only [bne_self_eq_false, Bool.false_eq_true, if_false, g0, if_true, r0]
  have L1 : ∀ (i : Int), x.f1 ≤ i → i ≤ x.f2 → Ev (fun q => laws_FnMeets.l0 q [x, y, z] b (i + 1) c f c' g) true → ∀ (d : Nat) (k : Int), k + d = x.f2 + 1 → x.f1 ≤ k → Ev (fun q => laws_FnMeets.l1 q [x, y, z] b i k c f c' g) true := by
    intro i i1 i2 hnext d
    have wi : wrap64 (i + 1) = i + 1 := w64 (by omega) (by omega)
    induction d with
    | zero =>
      intro k hk k1
      have cc : ¬ k ≤ x.f2 := by omega
      refine Ev.step (fun q => by rw [laws_FnMeets.l1]) ?_
      simp only [g0, r0, cc, if_true, if_false, wi]
      exact hnext
    | succ d ih =>
      intro k hk k1
      have cc : k ≤ x.f2 := by omega
      have wk : wrap64 (k + 1) = k + 1 := w64 (by omega) (by omega)
      have next := ih (k + 1) (by omega) (by omega)
      obtain ⟨m, Em, hm⟩ := hM i k i1 i2 k1 cc
      refine Ev.step (fun q => by rw [laws_FnMeets.l1]) ?_
      simp only [g0, r0, cc, if_true, wk]
      refine Ev.then Em ?_
      cases m with
      | false =>
        by_cases e : i = k
        · simp only [eq_true e, if_true, Bool.false_eq_true, if_false]
          exact next
        · simp only [e, if_false, Bool.false_eq_true]
          exact next
      | true =>
        have hmm := hm rfl
        have G' := G
        have R' := R
        rw [hG i k hmm] at G'
        rw [hR i k i1 i2 k1 cc hmm] at R'
        by_cases e : i = k
        · simp only [eq_true e, if_true]
          refine Ev.then G' ?_
          simp only [if_true]
          refine Ev.then R' ?_
          simp only [if_true]
          exact next
        · have hbt := hb i k i1 i2 k1 cc e hmm
          simp only [e, if_false, if_true, hbt]
          refine Ev.then G' ?_
          simp only [if_true]
          refine Ev.then R' ?_
          simp only [if_true]
          rw [hbt] at next
          exact next
  have L0 : ∀ (d : Nat) (i : Int), i + d = x.f2 + 1 → x.f1 ≤ i → Ev (fun q => laws_FnMeets.l0 q [x, y, z] b i c f c' g) true := by
    intro d
    induction d with
    | zero =>
      intro i hi i1
      have cc : ¬ i ≤ x.f2 := by omega
      refine Ev.step (fun q => by rw [laws_FnMeets.l0]) ?_
      simp only [g0, r0, cc, if_true, if_false]
      exact Ev.then BO (Ev.now _)
    | succ d ih =>
      intro i hi i1
      have cc : i ≤ x.f2 := by omega
      refine Ev.step (fun q => by rw [laws_FnMeets.l0]) ?_
      simp only [g0, r0, cc, if_true]
      exact L1 i i1 cc (ih (i + 1) (by omega) (by omega)) (x.f2 + 1 - x.f1).toNat x.f1 (by omega) (Int.le_refl _)
  exact L0 (x.f2 + 1 - x.f1).toNat x.f1 (by omega) (Int.le_refl _)

end Go.Proofs.Ytmomablfmhkppaa.Pure
