/- The pure statement of FnExactSubA: what the printed functions compute makes the law answer true. Conditions: those in the statement. -/
import Derived.Test.YtmomablfmhkppaaVFnExactSubA
import Derived.Test.YtmomablfmhkppaaPFnExactSubAx0
import Derived.Test.YtmomablfmhkppaaPFnExactSubAx1
import Derived.Test.YtmomablfmhkppaaPFnExactSubAx2
import Derived.Test.YtmomablfmhkppaaPFnExactSubAx3
import Derived.Test.YtmomablfmhkppaaPFnExactSubAx4
import Derived.Test.YtmomablfmhkppaaPFnExactSubAx5
import Derived.Test.YtmomablfmhkppaaPFnExactSubAx6
import Derived.Test.YtmomablfmhkppaaPFnExactSubAx7
import Derived.Test.YtmomablfmhkppaaPFnExactSubAx8a
import Derived.Test.YtmomablfmhkppaaPFnExactSubAx8
namespace Go.Proofs.Ytmomablfmhkppaa.Pure
open Go.RowKit Go.Proofs.Ytmomablfmhkppaa.PFnExactSubA Go.Proofs.YtmomablfmhkppaaW.PrintWords Go.Proofs.YtmomablfmhkppaaW.PrintLast Go.Proofs.YtmomablfmhkppaaW.PrintMore Go.Proofs.Ytmomablfmhkppaa.Lem
set_option linter.unusedVariables false
set_option linter.unusedSimpArgs false

theorem spec_l1In_eq (a b c : Int) : spec_l1In.f a b c = some (decide (b ≤ a) && decide (a ≤ c)) := by
  unfold spec_l1In.f
  by_cases h : a ≥ b
  · have h' : b ≤ a := h
    simp [h']
  · have h' : ¬ b ≤ a := h
    simp [h']
theorem impl_inRange_eq (a b c : Int) : impl_inRange.f a b c = some (decide (b ≤ a) && decide (a ≤ c)) := by
  unfold impl_inRange.f
  by_cases h : a ≥ b
  · have h' : b ≤ a := h
    simp [h']
  · have h' : ¬ b ≤ a := h
    simp [h']
theorem impl_isLetter_eq (a : Int) : impl_isLetter.f a = some (decide (97 ≤ a) && decide (a ≤ 122)) := by
  unfold impl_isLetter.f
  by_cases h : a ≥ 97
  · have h' : 97 ≤ a := h
    simp [h']
  · have h' : ¬ 97 ≤ a := h
    simp [h']
theorem spec_l2Small_eq (a : Int) (h0 : 0 ≤ a) (h1 : a ≤ 255) : spec_l2Small.f a = some (decide (97 ≤ a) && decide (a ≤ 122)) := by
  unfold spec_l2Small.f
  rw [w64 (by omega) (by omega), spec_l1In_eq]
  rfl
theorem spec_l2Has_ev (xs : List ByteArray) (s : ByteArray) (hn : xs.length ≤ maxLen) : Ev (fun k => spec_l2Has.f k xs s) (xs.any fun x => x.toList == s.toList) := by
  unfold spec_l2Has.f
  have key : ∀ d i, i + d = xs.length → Ev (fun k => spec_l2Has.l0 k xs s (i : Int)) ((xs.drop i).any fun x => x.toList == s.toList) := by
    intro d
    induction d with
    | zero =>
      intro i hi
      refine Ev.step (fun k => by rw [spec_l2Has.l0]) ?_
      have c : ¬ (i : Int) < (xs.length : Int) := by omega
      simp only [c, if_false]
      rw [List.drop_eq_nil_of_le (by omega)]
      exact Ev.now _
    | succ d ih =>
      intro i hi
      refine Ev.step (fun k => by rw [spec_l2Has.l0]) ?_
      have c : (i : Int) < (xs.length : Int) := by omega
      have c0 : (0 : Int) ≤ (i : Int) := by omega
      have hw : wrap64 ((i : Int) + 1) = ((i + 1 : Nat) : Int) := wi (by omega) hn
      have hd : xs.drop i = rdOf ByteArray.empty xs (i : Int) :: xs.drop (i + 1) := by
        rw [List.drop_eq_getElem_cons (by omega)]
        simp [rdOf, List.getElem?_eq_getElem (show i < xs.length by omega)]
      rw [hd, List.any_cons]
      simp only [c, c0, if_true, hw]
      by_cases e : (rdOf ByteArray.empty xs (i : Int)).toList = s.toList
      · simp only [e, if_true, beq_self_eq_true, Bool.true_or]
        exact Ev.now _
      · simp only [e, if_false]
        have e' : ((rdOf ByteArray.empty xs (i : Int)).toList == s.toList) = false := by simpa using e
        rw [e', Bool.false_or]
        exact ih (i + 1) (by omega)
  have := key xs.length 0 (by omega)
  simpa using this
theorem spec_l2Kept_ev (s : ByteArray) : Ev (fun k => spec_l2Kept.f k s) (keptS s) := by
  unfold spec_l2Kept.f
  refine Ev.then (spec_l2Has_ev _ s (by simp [maxLen])) ?_
  have : (List.any [(⟨#[97, 114, 114, 97, 121]⟩ : ByteArray), (⟨#[102, 111, 114]⟩ : ByteArray), (⟨#[116, 111]⟩ : ByteArray), (⟨#[112, 114, 105, 110, 116]⟩ : ByteArray), (⟨#[109, 105, 110]⟩ : ByteArray), (⟨#[109, 97, 120]⟩ : ByteArray)] fun x => x.toList == s.toList) = keptS s := by
    simp only [keptS, keptL, List.any_cons, List.any_nil, toList_data]
  rw [this]
  exact Ev.now _
theorem impl_isKept_eq (s : ByteArray) : impl_isKept.f s = some (keptS s) := by
  unfold impl_isKept.f keptS keptL
  have hb : ∀ l : List UInt8, decide (s.toList = l) = (l == s.toList) := fun l => by
    by_cases h : s.toList = l
    · rw [decide_eq_true h, ← h, beq_self_eq_true]
    · rw [decide_eq_false h, beq_eq_false_iff_ne.mpr (fun e => h e.symm)]
  simp only [if_or, hb, List.any_cons, List.any_nil]
theorem spec_NameOk_ev (s : ByteArray) (hn : s.size ≤ maxLen) : Ev (fun k => spec_NameOk.f k s) (nameS s) := by
  unfold spec_NameOk.f nameS
  refine Ev.run (g := fun k i (_ : Unit) => spec_NameOk.l0 k s i) _ _ ?_ ?_ ()
  · intro i u hi
    have c : (i : Int) < (s.size : Int) := by omega
    have c0 : (0 : Int) ≤ (i : Int) := by omega
    have hw : wrap64 ((i : Int) + 1) = ((i + 1 : Nat) : Int) := wi hi hn
    have hl : spec_l2Small.f (bt s (i : Int)) = some (letS s i) := spec_l2Small_eq _ (bt_range s i).1 (bt_range s i).2
    cases e : letS s i with
    | true =>
      simp only [if_true]
      intro r hr
      refine Ev.step (fun k => by rw [spec_NameOk.l0]) ?_
      simp only [c, c0, if_true, hl, e, Option.bind_some, hw]
      exact hr
    | false =>
      simp only [Bool.false_eq_true, if_false]
      refine Ev.step (fun k => by rw [spec_NameOk.l0]) ?_
      simp only [c, c0, if_true, hl, e, Option.bind_some, Bool.false_eq_true, if_false]
      exact Ev.now _
  · intro u
    refine Ev.step (fun k => by rw [spec_NameOk.l0]) ?_
    have c : ¬ (s.size : Int) < (s.size : Int) := by omega
    simp only [c, if_false, spec_l1In_eq, Option.bind_some]
    have e1 : (decide ((1 : Int) ≤ (s.size : Int)) && decide ((s.size : Int) ≤ 6)) = (decide (1 ≤ s.size) && decide (s.size ≤ 6)) := by
      rw [Bool.eq_iff_iff]
      simp
      omega
    rw [e1]
    cases e : (decide (1 ≤ s.size) && decide (s.size ≤ 6)) with
    | true =>
      simp only [if_true, Bool.true_and]
      exact Ev.then (spec_l2Kept_ev s) (Ev.now _)
    | false =>
      simp only [Bool.false_eq_true, if_false, Bool.false_and]
      exact Ev.now _
theorem impl_NameOk_ev (s : ByteArray) (hn : s.size ≤ maxLen) : Ev (fun k => impl_NameOk.f k s) (nameS s) := by
  unfold impl_NameOk.f nameS
  refine Ev.run (g := fun k i (_ : Unit) => impl_NameOk.l0 k s i) _ _ ?_ ?_ ()
  · intro i u hi
    have c : (i : Int) < (s.size : Int) := by omega
    have c0 : (0 : Int) ≤ (i : Int) := by omega
    have hw : wrap64 ((i : Int) + 1) = ((i + 1 : Nat) : Int) := wi hi hn
    have hl : impl_isLetter.f (bt s (i : Int)) = some (letS s i) := impl_isLetter_eq _
    cases e : letS s i with
    | true =>
      simp only [if_true]
      intro r hr
      refine Ev.step (fun k => by rw [impl_NameOk.l0]) ?_
      simp only [c, c0, if_true, hl, e, Option.bind_some, hw]
      exact hr
    | false =>
      simp only [Bool.false_eq_true, if_false]
      refine Ev.step (fun k => by rw [impl_NameOk.l0]) ?_
      simp only [c, c0, if_true, hl, e, Option.bind_some, Bool.false_eq_true, if_false]
      exact Ev.now _
  · intro u
    refine Ev.step (fun k => by rw [impl_NameOk.l0]) ?_
    have c : ¬ (s.size : Int) < (s.size : Int) := by omega
    simp only [c, if_false, impl_inRange_eq, Option.bind_some]
    have e1 : (decide ((1 : Int) ≤ (s.size : Int)) && decide ((s.size : Int) ≤ 6)) = (decide (1 ≤ s.size) && decide (s.size ≤ 6)) := by
      rw [Bool.eq_iff_iff]
      simp
      omega
    rw [e1]
    cases e : (decide (1 ≤ s.size) && decide (s.size ≤ 6)) with
    | true =>
      simp only [if_true, Bool.true_and, impl_isKept_eq, Option.bind_some]
      exact Ev.now _
    | false =>
      simp only [Bool.false_eq_true, if_false, Bool.false_and]
      exact Ev.now _

def cvTerm (x : S92) : S70 := ⟨x.f0, x.f1⟩
theorem szTerm_one (y : S92) (hs : y.f0.size ≤ maxLen) (a : Int) (h0 : 0 ≤ a) (h1 : a ≤ 1048576) : ∃ t, laws_szTerm.f y.f0 y.f1 a = some t ∧ (t < 0 ∨ 0 ≤ t ∧ t ≤ 1048576) := by
  unfold laws_szTerm.f
  simp only [maxLen] at hs
  rw [w64 (x := a - (y.f0.size : Int)) (by omega) (by omega)]
  by_cases c : a - (y.f0.size : Int) < 0
  · exact ⟨-1, by rw [if_pos c], .inl (by omega)⟩
  · exact ⟨_, by rw [if_neg c], .inr (by omega)⟩
theorem szTermS_ev (l : List S92) (hl : l.length ≤ maxLen) (hs : ∀ x ∈ l, x.f0.size ≤ maxLen) (a : Int) (h0 : 0 ≤ a) (h1 : a ≤ 1048576) :
    ∃ t, Ev (fun k => laws_szTermS.f k l a) t ∧ (t < 0 ∨ 0 ≤ t ∧ t ≤ 1048576 ∧ l.length ≤ 1048576) := by
  unfold laws_szTermS.f
  have hl' := hl
  simp only [maxLen] at hl'
  rw [w64 (x := a - (l.length : Int)) (by omega) (by omega)]
  by_cases c : a - (l.length : Int) < 0
  · simp only [c, if_true]
    exact ⟨-1, Ev.now _, .inl (by omega)⟩
  · simp only [c, if_false]
    have key : ∀ d i, i + d = l.length → ∀ x : Int, 0 ≤ x → x ≤ 1048576 → ∃ t, Ev (fun k => laws_szTermS.l0 k l x (i : Int)) t ∧ (t < 0 ∨ 0 ≤ t ∧ t ≤ 1048576) := by
      intro d
      induction d with
      | zero =>
        intro i hi x hx0 hx1
        refine ⟨x, Ev.step (fun k => by rw [laws_szTermS.l0]) ?_, .inr ⟨hx0, hx1⟩⟩
        have c : ¬ (i : Int) < (l.length : Int) := by omega
        simp only [c, if_false]
        exact Ev.now _
      | succ d ih =>
        intro i hi x hx0 hx1
        have c : (i : Int) < (l.length : Int) := by omega
        have c0 : (0 : Int) ≤ (i : Int) := by omega
        have hw : wrap64 ((i : Int) + 1) = ((i + 1 : Nat) : Int) := wi (n := l.length) (by omega) hl
        have hr : rd_T92 l (i : Int) ∈ l := getD_mem l _ (by omega)
        obtain ⟨t, ht, h2⟩ := szTerm_one (rd_T92 l (i : Int)) (hs _ hr) x hx0 hx1
        by_cases c2 : t < 0
        · refine ⟨-1, Ev.step (fun k => by rw [laws_szTermS.l0]) ?_, .inl (by omega)⟩
          simp only [c, c0, if_true, ht, Option.bind_some, c2]
          exact Ev.now _
        · obtain ⟨q, h3, h4⟩ := ih (i + 1) (by omega) t (by omega) (by omega)
          refine ⟨q, Ev.step (fun k => by rw [laws_szTermS.l0]) ?_, h4⟩
          simp only [c, c0, if_true, ht, Option.bind_some, c2, if_false, hw]
          exact h3
    obtain ⟨t, h2, h3⟩ := key l.length 0 (by omega) (a - (l.length : Int)) (by omega) (by omega)
    exact ⟨t, h2, h3.imp id fun h => ⟨h.1, h.2, by omega⟩⟩
theorem toTermS_ev (l : List S92) (hl : l.length ≤ 1048576) : Ev (fun k => laws_toTermS.f k l) (l.map cvTerm) := by
  unfold laws_toTermS.f
  have c1 : (0 : Int) ≤ (l.length : Int) := by omega
  have c2 : ((l.length : Int) : Int).toNat ≤ 11728124029610 := by omega
  simp only [c1, c2, if_true]
  have key : ∀ d i, i + d = l.length → Ev (fun k => laws_toTermS.l0 k l ((l.take i).map cvTerm ++ List.replicate d z70) (i : Int)) (l.map cvTerm) := by
    intro d
    induction d with
    | zero =>
      intro i hi
      refine Ev.step (fun k => by rw [laws_toTermS.l0]) ?_
      have c : ¬ (i : Int) < (l.length : Int) := by omega
      simp only [c, if_false]
      have : l.take i = l := List.take_of_length_le (by omega)
      rw [this]
      simpa using Ev.now (List.map cvTerm l)
    | succ d ih =>
      intro i hi
      refine Ev.step (fun k => by rw [laws_toTermS.l0]) ?_
      have c : (i : Int) < (l.length : Int) := by omega
      have c0 : (0 : Int) ≤ (i : Int) := by omega
      have hw : wrap64 ((i : Int) + 1) = ((i + 1 : Nat) : Int) := wi (n := l.length) (by omega) (by simp only [maxLen]; omega)
      have c3 : (i : Int) < ((((l.take i).map cvTerm ++ List.replicate (d + 1) z70).length : Nat) : Int) := by
        rw [List.length_append, List.length_map, List.length_take, List.length_replicate]
        omega
      simp only [c, c0, if_true, laws_toTerm.f, Option.bind_some, c3, hw]
      have e : (((l.take i).map cvTerm ++ List.replicate (d + 1) z70).set ((i : Int) : Int).toNat (cvTerm (rd_T92 l (i : Int)))) = (l.take (i + 1)).map cvTerm ++ List.replicate d z70 := by
        have hg : rd_T92 l (i : Int) = l[i]'(by omega) := by
          simp [rd_T92, List.getElem?_eq_getElem (show i < l.length by omega)]
        rw [hg, Int.toNat_natCast, List.take_add_one, List.getElem?_eq_getElem (show i < l.length by omega)]
        rw [List.set_append_right _ _ (by simp; omega)]
        have : i - ((l.take i).map cvTerm).length = 0 := by simp; omega
        rw [this, List.replicate_succ, List.set_cons_zero]
        simp only [Option.toList_some, List.map_append, List.map_cons, List.map_nil, List.append_assoc, List.cons_append, List.nil_append]
      have h2 := ih (i + 1) (by omega)
      rw [← e] at h2
      exact h2
  have h0 := key l.length 0 (by omega)
  simpa using h0
theorem eqTerm_one (x : S70) : laws_eqTerm.f x.f0 x.f1 x.f0 x.f1 = some true := by
  unfold laws_eqTerm.f
  simp
theorem eqTermS_ev (l : List S70) (hl : l.length ≤ maxLen) : Ev (fun k => laws_eqTermS.f k l l) true := by
  unfold laws_eqTermS.f
  simp only [if_true]
  have key : ∀ d i, i + d = l.length → Ev (fun k => laws_eqTermS.l0 k l l (i : Int)) true := by
    intro d
    induction d with
    | zero =>
      intro i hi
      refine Ev.step (fun k => by rw [laws_eqTermS.l0]) ?_
      have c : ¬ (i : Int) < (l.length : Int) := by omega
      simp only [c, if_false]
      exact Ev.now _
    | succ d ih =>
      intro i hi
      refine Ev.step (fun k => by rw [laws_eqTermS.l0]) ?_
      have c : (i : Int) < (l.length : Int) := by omega
      have c0 : (0 : Int) ≤ (i : Int) := by omega
      have hw : wrap64 ((i : Int) + 1) = ((i + 1 : Nat) : Int) := wi (n := l.length) (by omega) hl
      simp only [c, c0, if_true, eqTerm_one (rd_T70 l (i : Int)), Option.bind_some, hw]
      exact ih (i + 1) (by omega)
  exact key l.length 0 (by omega)
theorem szAff_ev (c : Int) (l : List S92) (hl : l.length ≤ maxLen) (hs : ∀ x ∈ l, x.f0.size ≤ maxLen) (a : Int) (h0 : 0 ≤ a) (h1 : a ≤ 1048576) :
    ∃ t, Ev (fun k => laws_szAff.f k c l a) t ∧ (t < 0 ∨ 0 ≤ t ∧ t ≤ 1048576 ∧ l.length ≤ 1048576) := by
  unfold laws_szAff.f
  obtain ⟨t, h2, h3⟩ := szTermS_ev l hl hs a h0 h1
  by_cases e : t < 0
  · refine ⟨-1, Ev.then h2 ?_, .inl (by omega)⟩
    simp only [e, if_true]
    exact Ev.now _
  · refine ⟨t, Ev.then h2 ?_, h3⟩
    simp only [e, if_false]
    exact Ev.now _
theorem toAff_ev (c : Int) (l : List S92) (hl : l.length ≤ 1048576) : Ev (fun k => laws_toAff.f k c l) (c, l.map cvTerm) := by
  unfold laws_toAff.f
  exact Ev.then (toTermS_ev l hl) (Ev.now _)
theorem eqAff_ev (c : Int) (l : List S70) (hl : l.length ≤ maxLen) : Ev (fun k => laws_eqAff.f k c l c l) true := by
  unfold laws_eqAff.f
  simp only [if_true]
  refine Ev.then (eqTermS_ev l hl) ?_
  simp only [if_true]
  exact Ev.now _
theorem spec_CoefOf_ev (c : Int) (l : List S70) (s : ByteArray) (hl : l.length ≤ maxLen) : Ev (fun k => spec_CoefOf.f k c l s) (coefL S70.f0 S70.f1 l s) := by
  unfold spec_CoefOf.f
  have key : ∀ d i, i + d = l.length → Ev (fun k => spec_CoefOf.l0 k s (i : Int) c l) (coefL S70.f0 S70.f1 (l.drop i) s) := by
    intro d
    induction d with
    | zero =>
      intro i hi
      refine Ev.step (fun k => by rw [spec_CoefOf.l0]) ?_
      have c : ¬ (i : Int) < (l.length : Int) := by omega
      simp only [c, if_false]
      rw [List.drop_eq_nil_of_le (by omega)]
      exact Ev.now _
    | succ d ih =>
      intro i hi
      refine Ev.step (fun k => by rw [spec_CoefOf.l0]) ?_
      have c : (i : Int) < (l.length : Int) := by omega
      have c0 : (0 : Int) ≤ (i : Int) := by omega
      have hw : wrap64 ((i : Int) + 1) = ((i + 1 : Nat) : Int) := wi (n := l.length) (by omega) hl
      have hd : l.drop i = rd_T70 l (i : Int) :: l.drop (i + 1) := drop_cons l _ (by omega)
      rw [hd]
      simp only [c, c0, if_true, hw, coefL]
      by_cases e : (rd_T70 l (i : Int)).f0.toList = s.toList
      · simp only [e, if_true]
        exact Ev.now _
      · simp only [e, if_false]
        exact ih (i + 1) (by omega)
  exact key l.length 0 (by omega)
theorem impl_CoefOf_ev (c : Int) (l : List S70) (s : ByteArray) (hl : l.length ≤ maxLen) : Ev (fun k => impl_CoefOf.f k c l s) (coefL S70.f0 S70.f1 l s) := by
  unfold impl_CoefOf.f
  have key : ∀ d i, i + d = l.length → Ev (fun k => impl_CoefOf.l0 k s l (l.length : Int) (i : Int)) (coefL S70.f0 S70.f1 (l.drop i) s) := by
    intro d
    induction d with
    | zero =>
      intro i hi
      refine Ev.step (fun k => by rw [impl_CoefOf.l0]) ?_
      have c : ¬ (i : Int) < (l.length : Int) := by omega
      simp only [c, if_false]
      rw [List.drop_eq_nil_of_le (by omega)]
      exact Ev.now _
    | succ d ih =>
      intro i hi
      refine Ev.step (fun k => by rw [impl_CoefOf.l0]) ?_
      have c : (i : Int) < (l.length : Int) := by omega
      have c0 : (0 : Int) ≤ (i : Int) := by omega
      have hw : wrap64 ((i : Int) + 1) = ((i + 1 : Nat) : Int) := wi (n := l.length) (by omega) hl
      have hd : l.drop i = rd_T70 l (i : Int) :: l.drop (i + 1) := drop_cons l _ (by omega)
      rw [hd]
      simp only [c, c0, if_true, hw, coefL]
      by_cases e : (rd_T70 l (i : Int)).f0.toList = s.toList
      · simp only [e, if_true]
        exact Ev.now _
      · simp only [e, if_false]
        exact ih (i + 1) (by omega)
  exact key l.length 0 (by omega)
theorem spec_l8Num_eq (n : Int) : spec_l8Num.f n = some (coefOk n) := by
  unfold spec_l8Num.f
  rw [spec_l1In_eq]
  rfl
theorem impl_isCoef_eq (n : Int) : impl_isCoef.f n = some (coefOk n) := by
  unfold impl_isCoef.f
  rw [impl_inRange_eq]
  rfl
def prevT (l : List S70) (i : Nat) : Option ByteArray := if i = 0 then none else some (rd_T70 l ((i - 1 : Nat) : Int)).f0
theorem prevT_succ (l : List S70) (i : Nat) : prevT l (i + 1) = some (rd_T70 l (i : Int)).f0 := by
  unfold prevT
  rw [if_neg (by omega)]
  rfl
theorem spec_AffOk_ev (c : Int) (l : List S70) (hl : l.length ≤ maxLen) (hs : ∀ x ∈ l, x.f0.size ≤ maxLen) : Ev (fun k => spec_AffOk.f k c l) (affOkS S70.f0 S70.f1 c l) := by
  unfold spec_AffOk.f
  have key : ∀ d i, i + d = l.length → Ev (fun k => spec_AffOk.l0 k (i : Int) c l) (affOkL S70.f0 S70.f1 (prevT l i) (l.drop i) && coefOk c) := by
    intro d
    induction d with
    | zero =>
      intro i hi
      refine Ev.step (fun k => by rw [spec_AffOk.l0]) ?_
      have c : ¬ (i : Int) < (l.length : Int) := by omega
      simp only [c, if_false]
      rw [List.drop_eq_nil_of_le (by omega)]
      simp only [spec_l8Num_eq, Option.bind_some, affOkL, Bool.true_and]
      exact Ev.now _
    | succ d ih =>
      intro i hi
      refine Ev.step (fun k => by rw [spec_AffOk.l0]) ?_
      have c : (i : Int) < (l.length : Int) := by omega
      have c0 : (0 : Int) ≤ (i : Int) := by omega
      have hw : wrap64 ((i : Int) + 1) = ((i + 1 : Nat) : Int) := wi (n := l.length) (by omega) hl
      have hd : l.drop i = rd_T70 l (i : Int) :: l.drop (i + 1) := drop_cons l _ (by omega)
      have hm : rd_T70 l (i : Int) ∈ l := getD_mem l _ (by omega)
      have ih' := ih (i + 1) (by omega)
      rw [prevT_succ] at ih'
      rw [hd]
      simp only [c, c0, if_true, hw, affOkL, spec_l8Num_eq, Option.bind_some]
      refine Ev.then (spec_NameOk_ev _ (hs _ hm)) ?_
      cases e1 : nameS (rd_T70 l (i : Int)).f0 with
      | false =>
        simp only [Bool.false_eq_true, if_false, Bool.false_and]
        exact Ev.now _
      | true =>
        by_cases e2 : (rd_T70 l (i : Int)).f1 = 0
        · simp only [e2, if_true, decide_true, Bool.not_true, Bool.false_and, Bool.and_false]
          exact Ev.now _
        · cases e3 : coefOk (rd_T70 l (i : Int)).f1 with
          | false =>
            simp only [e2, if_true, if_false, decide_false, Bool.not_false, Bool.and_false, Bool.false_and, Bool.false_eq_true]
            exact Ev.now _
          | true =>
            simp only [e2, if_true, if_false, decide_false, Bool.not_false, Bool.true_and]
            by_cases e4 : i = 0
            · subst e4
              have c4 : ¬ ((0 : Nat) : Int) > 0 := by omega
              simp only [c4, if_false, prevT, if_true, lessO, Bool.true_and]
              exact ih'
            · have c4 : (i : Int) > 0 := by omega
              have c5 : wrap64 ((i : Int) - 1) = ((i - 1 : Nat) : Int) := by
                simp only [maxLen] at hl
                rw [w64 (by omega) (by omega)]
                omega
              have c6 : (0 : Int) ≤ ((i - 1 : Nat) : Int) := by omega
              have c7 : ((i - 1 : Nat) : Int) < (l.length : Int) := by omega
              simp only [c4, c5, c6, c7, if_true, prevT, e4, if_false, lessO]
              cases e5 : Op.bytesLess (rd_T70 l ((i - 1 : Nat) : Int)).f0.toList (rd_T70 l (i : Int)).f0.toList with
              | false =>
                simp only [Bool.false_eq_true, if_false, Bool.false_and]
                exact Ev.now _
              | true =>
                simp only [if_true, Bool.true_and]
                exact ih'
  exact key l.length 0 (by omega)
theorem impl_AffOk_ev (c : Int) (l : List S70) (hl : l.length ≤ maxLen) (hs : ∀ x ∈ l, x.f0.size ≤ maxLen) : Ev (fun k => impl_AffOk.f k c l) (affOkS S70.f0 S70.f1 c l) := by
  unfold impl_AffOk.f
  have key : ∀ d i, i + d = l.length → Ev (fun k => impl_AffOk.l0 k l (l.length : Int) (i : Int) c l) (affOkL S70.f0 S70.f1 (prevT l i) (l.drop i) && coefOk c) := by
    intro d
    induction d with
    | zero =>
      intro i hi
      refine Ev.step (fun k => by rw [impl_AffOk.l0]) ?_
      have c : ¬ (i : Int) < (l.length : Int) := by omega
      simp only [c, if_false]
      rw [List.drop_eq_nil_of_le (by omega)]
      simp only [impl_isCoef_eq, Option.bind_some, affOkL, Bool.true_and]
      exact Ev.now _
    | succ d ih =>
      intro i hi
      refine Ev.step (fun k => by rw [impl_AffOk.l0]) ?_
      have c : (i : Int) < (l.length : Int) := by omega
      have c0 : (0 : Int) ≤ (i : Int) := by omega
      have hw : wrap64 ((i : Int) + 1) = ((i + 1 : Nat) : Int) := wi (n := l.length) (by omega) hl
      have hd : l.drop i = rd_T70 l (i : Int) :: l.drop (i + 1) := drop_cons l _ (by omega)
      have hm : rd_T70 l (i : Int) ∈ l := getD_mem l _ (by omega)
      have ih' := ih (i + 1) (by omega)
      rw [prevT_succ] at ih'
      rw [hd]
      simp only [c, c0, if_true, hw, affOkL, impl_isCoef_eq, Option.bind_some]
      refine Ev.then (impl_NameOk_ev _ (hs _ hm)) ?_
      cases e1 : nameS (rd_T70 l (i : Int)).f0 with
      | false =>
        simp only [Bool.false_eq_true, if_false, Bool.false_and]
        exact Ev.now _
      | true =>
        by_cases e2 : (rd_T70 l (i : Int)).f1 = 0
        · simp only [e2, if_true, decide_true, Bool.not_true, Bool.false_and, Bool.and_false]
          exact Ev.now _
        · cases e3 : coefOk (rd_T70 l (i : Int)).f1 with
          | false =>
            simp only [e2, if_true, if_false, decide_false, Bool.not_false, Bool.and_false, Bool.false_and, Bool.false_eq_true]
            exact Ev.now _
          | true =>
            simp only [e2, if_true, if_false, decide_false, Bool.not_false, Bool.true_and]
            by_cases e4 : i = 0
            · subst e4
              have c4 : ¬ ((0 : Nat) : Int) > 0 := by omega
              simp only [c4, if_false, prevT, if_true, lessO, Bool.true_and]
              exact ih'
            · have c4 : (i : Int) > 0 := by omega
              have c5 : wrap64 ((i : Int) - 1) = ((i - 1 : Nat) : Int) := by
                simp only [maxLen] at hl
                rw [w64 (by omega) (by omega)]
                omega
              have c6 : (0 : Int) ≤ ((i - 1 : Nat) : Int) := by omega
              have c7 : ((i - 1 : Nat) : Int) < (l.length : Int) := by omega
              simp only [c4, c5, c6, c7, if_true, prevT, e4, if_false, lessO]
              cases e5 : Op.bytesLess (rd_T70 l ((i - 1 : Nat) : Int)).f0.toList (rd_T70 l (i : Int)).f0.toList with
              | false =>
                simp only [Bool.false_eq_true, if_false, Bool.false_and]
                exact Ev.now _
              | true =>
                simp only [if_true, Bool.true_and]
                exact ih'
  exact key l.length 0 (by omega)
/-! ### sums whose names ascend -/
abbrev cof (l : List S70) (s : ByteArray) : Int := coefL S70.f0 S70.f1 l s
def Asc (l : List S70) : Prop := l.Pairwise (fun x y => x.f0.toList < y.f0.toList)
def Dist (l : List S70) : Prop := l.Pairwise (fun x y => x.f0.toList ≠ y.f0.toList)
theorem lt_ne {a b : List UInt8} (h : a < b) : a ≠ b := fun e => by
  subst e
  exact List.lt_irrefl a h
theorem lt_tri (a b : List UInt8) : a < b ∨ a = b ∨ b < a := by
  by_cases h1 : a < b
  · exact .inl h1
  · by_cases h2 : b < a
    · exact .inr (.inr h2)
    · exact .inr (.inl (List.le_antisymm (List.not_lt.1 h2) (List.not_lt.1 h1)))
theorem Asc.dist {l : List S70} (h : Asc l) : Dist l := h.imp lt_ne
theorem cof_none : ∀ {l : List S70} {s : ByteArray}, (∀ x ∈ l, x.f0.toList ≠ s.toList) → cof l s = 0
  | [], _, _ => rfl
  | x :: xs, s, h => by
    unfold cof coefL
    rw [if_neg (h x List.mem_cons_self)]
    exact cof_none (fun y hy => h y (List.mem_cons_of_mem _ hy))
theorem cof_mem : ∀ {l : List S70}, Dist l → ∀ {x : S70} {s : ByteArray}, x ∈ l → x.f0.toList = s.toList → cof l s = x.f1
  | [], _, x, _, hx, _ => by simp at hx
  | y :: ys, hd, x, s, hx, e => by
    unfold cof coefL
    rcases List.mem_cons.1 hx with rfl | hx
    · rw [if_pos e]
    · have := (List.pairwise_cons.1 hd).1 x hx
      rw [if_neg (fun h => this (h.trans e.symm))]
      exact cof_mem (List.pairwise_cons.1 hd).2 hx e
theorem cof_cases (l : List S70) (hd : Dist l) (s : ByteArray) : (∃ x ∈ l, x.f0.toList = s.toList ∧ cof l s = x.f1) ∨ ((∀ x ∈ l, x.f0.toList ≠ s.toList) ∧ cof l s = 0) := by
  by_cases h : ∃ x ∈ l, x.f0.toList = s.toList
  · obtain ⟨x, hx, e⟩ := h
    exact .inl ⟨x, hx, e, cof_mem hd hx e⟩
  · have h' : ∀ x ∈ l, x.f0.toList ≠ s.toList := fun x hx e => h ⟨x, hx, e⟩
    exact .inr ⟨h', cof_none h'⟩
theorem cof_congr (l : List S70) {s q : ByteArray} (h : s.toList = q.toList) : cof l s = cof l q := by
  induction l with
  | nil => rfl
  | cons x xs ih =>
    unfold cof coefL
    rw [h]
    by_cases e : x.f0.toList = q.toList
    · rw [if_pos e, if_pos e]
    · rw [if_neg e, if_neg e]
      exact ih
theorem dist_perm {l m : List S70} (h : l.Perm m) (hd : Dist l) : Dist m := (h.pairwise_iff (fun {a b} h e => h e.symm)).1 hd
theorem cof_perm {l m : List S70} (h : l.Perm m) (hd : Dist l) (s : ByteArray) : cof m s = cof l s := by
  rcases cof_cases l hd s with ⟨x, hx, e, hv⟩ | ⟨hn, hv⟩
  · rw [hv]
    exact cof_mem (dist_perm h hd) (h.mem_iff.1 hx) e
  · rw [hv]
    exact cof_none fun x hx => hn x (h.mem_iff.2 hx)
theorem bytes_inj {a b : ByteArray} (h : a.toList = b.toList) : a = b := by
  rw [toList_data, toList_data] at h
  obtain ⟨⟨a⟩⟩ := a
  obtain ⟨⟨b⟩⟩ := b
  simp at h
  rw [h]
theorem asc_ext : ∀ (l m : List S70), Asc l → Asc m → (∀ x ∈ l, x.f1 ≠ 0) → (∀ x ∈ m, x.f1 ≠ 0) → (∀ s, cof l s = cof m s) → l = m
  | [], [], _, _, _, _, _ => rfl
  | [], y :: ys, _, _, _, hm, h => by
    have := h y.f0
    unfold cof coefL at this
    rw [if_pos rfl] at this
    exact absurd this.symm (hm y List.mem_cons_self)
  | x :: xs, [], _, _, hl, _, h => by
    have := h x.f0
    unfold cof coefL at this
    rw [if_pos rfl] at this
    exact absurd this (hl x List.mem_cons_self)
  | x :: xs, y :: ys, ax, ay, hl, hm, h => by
    have ax' := List.pairwise_cons.1 ax
    have ay' := List.pairwise_cons.1 ay
    have cx : cof (x :: xs) x.f0 = x.f1 := cof_mem ax.dist List.mem_cons_self rfl
    have cy : cof (y :: ys) y.f0 = y.f1 := cof_mem ay.dist List.mem_cons_self rfl
    rcases lt_tri x.f0.toList y.f0.toList with hlt | heq | hgt
    · have : cof (y :: ys) x.f0 = 0 := cof_none fun z hz e => by
        rcases List.mem_cons.1 hz with rfl | hz
        · exact lt_ne hlt e.symm
        · exact lt_ne (List.lt_trans hlt (ay'.1 z hz)) e.symm
      rw [← h, cx] at this
      exact absurd this (hl x List.mem_cons_self)
    · have e1 : x.f1 = y.f1 := by
        rw [← cx, h, cof_congr _ heq, cy]
      have e0 : x.f0 = y.f0 := bytes_inj heq
      have exy : x = y := by
        obtain ⟨a, b⟩ := x
        obtain ⟨c, d⟩ := y
        simp at e0 e1
        rw [e0, e1]
      subst exy
      congr 1
      refine asc_ext xs ys ax'.2 ay'.2 (fun z hz => hl z (List.mem_cons_of_mem _ hz)) (fun z hz => hm z (List.mem_cons_of_mem _ hz)) fun s => ?_
      by_cases e : x.f0.toList = s.toList
      · rw [cof_none (fun z hz q => lt_ne (ax'.1 z hz) (e.trans q.symm)), cof_none (fun z hz q => lt_ne (ay'.1 z hz) (e.trans q.symm))]
      · have := h s
        unfold cof coefL at this
        rw [if_neg e, if_neg e] at this
        exact this
    · have : cof (x :: xs) y.f0 = 0 := cof_none fun z hz e => by
        rcases List.mem_cons.1 hz with rfl | hz
        · exact lt_ne hgt e.symm
        · exact lt_ne (List.lt_trans hgt (ax'.1 z hz)) e.symm
      rw [h, cy] at this
      exact absurd this (hm y List.mem_cons_self)
theorem less_eqL : ∀ (x y : List UInt8), Op.bytesLess x y = decide (x < y)
  | [], [] => by simp [Op.bytesLess]
  | _ :: _, [] => by simp [Op.bytesLess]
  | [], _ :: _ => by simp [Op.bytesLess]
  | a :: x, b :: y => by
    rw [Op.bytesLess, less_eqL x y]
    simp only [List.cons_lt_cons_iff]
    by_cases h1 : a < b <;> by_cases h2 : a = b <;> by_cases h3 : x < y <;> simp [h1, h2, h3]
theorem affOkL_asc : ∀ (l : List S70) (p : Option ByteArray), affOkL S70.f0 S70.f1 p l = true → Asc l ∧ ∀ q, p = some q → ∀ x ∈ l, q.toList < x.f0.toList
  | [], p, _ => ⟨List.Pairwise.nil, fun _ _ x hx => by simp at hx⟩
  | x :: xs, p, h => by
    simp only [affOkL, Bool.and_eq_true] at h
    obtain ⟨⟨_, h4⟩, h5⟩ := h
    obtain ⟨i1, i2⟩ := affOkL_asc xs _ h5
    refine ⟨List.pairwise_cons.2 ⟨i2 _ rfl, i1⟩, fun q hq y hy => ?_⟩
    subst hq
    simp only [lessO, less_eqL, decide_eq_true_eq] at h4
    rcases List.mem_cons.1 hy with rfl | hy
    · exact h4
    · exact List.lt_trans h4 (i2 _ rfl y hy)
theorem affOkL_of : ∀ (l : List S70) (p : Option ByteArray), Asc l → (∀ x ∈ l, nameS x.f0 = true ∧ x.f1 ≠ 0 ∧ coefOk x.f1 = true) → (∀ q, p = some q → ∀ x ∈ l, q.toList < x.f0.toList) → affOkL S70.f0 S70.f1 p l = true
  | [], _, _, _, _ => rfl
  | x :: xs, p, ha, hx, hp => by
    have ha' := List.pairwise_cons.1 ha
    obtain ⟨h1, h2, h3⟩ := hx x List.mem_cons_self
    unfold affOkL
    rw [h1, h3, affOkL_of xs _ ha'.2 (fun y hy => hx y (List.mem_cons_of_mem _ hy)) (fun q hq y hy => by
      injection hq with hq
      subst hq
      exact ha'.1 y hy)]
    have h4 : lessO p x.f0 = true := by
      cases p with
      | none => rfl
      | some q =>
        simp only [lessO, less_eqL, decide_eq_true_eq]
        exact hp q rfl x List.mem_cons_self
    rw [h4, decide_eq_false h2]
    rfl
/-! ### one sum, and so many times another one -/
def mixA (b : List S70) (t : Int) : List S70 → List S70
  | [] => []
  | x :: xs => if x.f1 + t * cof b x.f0 = 0 then mixA b t xs else ⟨x.f0, x.f1 + t * cof b x.f0⟩ :: mixA b t xs
def mixB (a : List S70) (t : Int) : List S70 → List S70
  | [] => []
  | y :: ys => if t * y.f1 = 0 then mixB a t ys else if cof a y.f0 = 0 then ⟨y.f0, t * y.f1⟩ :: mixB a t ys else mixB a t ys
def mixL (a b : List S70) (t : Int) : List S70 := mixA b t a ++ mixB a t b
theorem mixA_cons (b : List S70) (t : Int) (x : S70) (xs : List S70) : mixA b t (x :: xs) = if x.f1 + t * cof b x.f0 = 0 then mixA b t xs else ⟨x.f0, x.f1 + t * cof b x.f0⟩ :: mixA b t xs := by rw [mixA]
theorem mixB_cons (a : List S70) (t : Int) (y : S70) (ys : List S70) : mixB a t (y :: ys) = if t * y.f1 = 0 then mixB a t ys else if cof a y.f0 = 0 then ⟨y.f0, t * y.f1⟩ :: mixB a t ys else mixB a t ys := by rw [mixB]
theorem mixA_mem {b : List S70} {t : Int} : ∀ {l : List S70} {z : S70}, z ∈ mixA b t l ↔ ∃ x ∈ l, z = ⟨x.f0, x.f1 + t * cof b x.f0⟩ ∧ x.f1 + t * cof b x.f0 ≠ 0
  | [], z => by simp [mixA]
  | x :: xs, z => by
    unfold mixA
    by_cases c : x.f1 + t * cof b x.f0 = 0
    · rw [if_pos c, mixA_mem]
      constructor
      · rintro ⟨y, hy, h⟩
        exact ⟨y, List.mem_cons_of_mem _ hy, h⟩
      · rintro ⟨y, hy, h1, h2⟩
        rcases List.mem_cons.1 hy with rfl | hy
        · exact absurd c h2
        · exact ⟨y, hy, h1, h2⟩
    · rw [if_neg c, List.mem_cons, mixA_mem]
      constructor
      · rintro (rfl | ⟨y, hy, h⟩)
        · exact ⟨x, List.mem_cons_self, rfl, c⟩
        · exact ⟨y, List.mem_cons_of_mem _ hy, h⟩
      · rintro ⟨y, hy, h1, h2⟩
        rcases List.mem_cons.1 hy with rfl | hy
        · exact .inl h1
        · exact .inr ⟨y, hy, h1, h2⟩
theorem mixB_mem {a : List S70} {t : Int} : ∀ {l : List S70} {z : S70}, z ∈ mixB a t l ↔ ∃ y ∈ l, z = ⟨y.f0, t * y.f1⟩ ∧ t * y.f1 ≠ 0 ∧ cof a y.f0 = 0
  | [], z => by simp [mixB]
  | x :: xs, z => by
    unfold mixB
    have step : (∃ y ∈ xs, z = ⟨y.f0, t * y.f1⟩ ∧ t * y.f1 ≠ 0 ∧ cof a y.f0 = 0) → ∃ y ∈ x :: xs, z = ⟨y.f0, t * y.f1⟩ ∧ t * y.f1 ≠ 0 ∧ cof a y.f0 = 0 := fun ⟨y, hy, h⟩ => ⟨y, List.mem_cons_of_mem _ hy, h⟩
    by_cases c : t * x.f1 = 0
    · rw [if_pos c, mixB_mem]
      refine ⟨step, ?_⟩
      rintro ⟨y, hy, h1, h2, h3⟩
      rcases List.mem_cons.1 hy with rfl | hy
      · exact absurd c h2
      · exact ⟨y, hy, h1, h2, h3⟩
    · rw [if_neg c]
      by_cases d : cof a x.f0 = 0
      · rw [if_pos d, List.mem_cons, mixB_mem]
        constructor
        · rintro (rfl | h)
          · exact ⟨x, List.mem_cons_self, rfl, c, d⟩
          · exact step h
        · rintro ⟨y, hy, h1, h2, h3⟩
          rcases List.mem_cons.1 hy with rfl | hy
          · exact .inl h1
          · exact .inr ⟨y, hy, h1, h2, h3⟩
      · rw [if_neg d, mixB_mem]
        refine ⟨step, ?_⟩
        rintro ⟨y, hy, h1, h2, h3⟩
        rcases List.mem_cons.1 hy with rfl | hy
        · exact absurd h3 d
        · exact ⟨y, hy, h1, h2, h3⟩
theorem mixA_dist {b : List S70} {t : Int} : ∀ {l : List S70}, Dist l → Dist (mixA b t l)
  | [], _ => List.Pairwise.nil
  | x :: xs, h => by
    have h' := List.pairwise_cons.1 h
    unfold mixA
    split
    · exact mixA_dist h'.2
    · refine List.pairwise_cons.2 ⟨fun z hz => ?_, mixA_dist h'.2⟩
      obtain ⟨y, hy, rfl, _⟩ := mixA_mem.1 hz
      exact h'.1 y hy
theorem mixB_dist {a : List S70} {t : Int} : ∀ {l : List S70}, Dist l → Dist (mixB a t l)
  | [], _ => List.Pairwise.nil
  | x :: xs, h => by
    have h' := List.pairwise_cons.1 h
    unfold mixB
    split
    · exact mixB_dist h'.2
    · split
      · refine List.pairwise_cons.2 ⟨fun z hz => ?_, mixB_dist h'.2⟩
        obtain ⟨y, hy, rfl, _⟩ := mixB_mem.1 hz
        exact h'.1 y hy
      · exact mixB_dist h'.2
theorem mixL_dist {a b : List S70} {t : Int} (ha : Dist a) (hb : Dist b) (hna : ∀ x ∈ a, x.f1 ≠ 0) : Dist (mixL a b t) := by
  refine List.pairwise_append.2 ⟨mixA_dist ha, mixB_dist hb, fun z hz q hq e => ?_⟩
  obtain ⟨x, hx, rfl, _⟩ := mixA_mem.1 hz
  obtain ⟨y, hy, rfl, _, h0⟩ := mixB_mem.1 hq
  exact hna x hx ((cof_mem ha hx e).symm.trans h0)
theorem mixL_nz {a b : List S70} {t : Int} : ∀ z ∈ mixL a b t, z.f1 ≠ 0 := fun z hz => by
  rcases List.mem_append.1 hz with hz | hz
  · obtain ⟨x, _, rfl, h⟩ := mixA_mem.1 hz
    exact h
  · obtain ⟨y, _, rfl, h, _⟩ := mixB_mem.1 hz
    exact h
theorem mixL_cof {a b : List S70} {t : Int} (ha : Dist a) (hb : Dist b) (hna : ∀ x ∈ a, x.f1 ≠ 0) (s : ByteArray) : cof (mixL a b t) s = cof a s + t * cof b s := by
  have hd := mixL_dist (t := t) ha hb hna
  rcases cof_cases a ha s with ⟨x, hx, e, hv⟩ | ⟨hn, hv⟩
  · have ec : cof b x.f0 = cof b s := cof_congr b e
    rw [hv]
    by_cases c : x.f1 + t * cof b x.f0 = 0
    · rw [← ec, c]
      refine cof_none fun z hz => ?_
      rcases List.mem_append.1 hz with hz | hz
      · obtain ⟨y, hy, rfl, h⟩ := mixA_mem.1 hz
        intro q
        have e1 : cof a s = y.f1 := cof_mem ha hy q
        have e2 : cof b y.f0 = cof b s := cof_congr b q
        apply h
        show y.f1 + t * cof b y.f0 = 0
        rw [e2, ← e1, hv, ← ec]
        exact c
      · obtain ⟨y, hy, rfl, _, h0⟩ := mixB_mem.1 hz
        intro q
        have e1 : cof a y.f0 = cof a s := cof_congr a q
        rw [e1, hv] at h0
        exact hna x hx h0
    · have := cof_mem (s := s) hd (List.mem_append_left _ (mixA_mem.2 ⟨x, hx, rfl, c⟩)) e
      rw [this, ← ec]
  · rw [hv, Int.zero_add]
    rcases cof_cases b hb s with ⟨y, hy, e, hw⟩ | ⟨hn2, hw⟩
    · rw [hw]
      have e0 : cof a y.f0 = 0 := (cof_congr a e).trans hv
      by_cases c : t * y.f1 = 0
      · rw [c]
        refine cof_none fun z hz => ?_
        rcases List.mem_append.1 hz with hz | hz
        · obtain ⟨x, hx, rfl, _⟩ := mixA_mem.1 hz
          exact hn x hx
        · obtain ⟨q, hq, rfl, h1, _⟩ := mixB_mem.1 hz
          intro r
          have e1 : cof b s = q.f1 := cof_mem hb hq r
          rw [hw] at e1
          rw [e1] at c
          exact h1 c
      · exact cof_mem (s := s) hd (List.mem_append_right _ (mixB_mem.2 ⟨y, hy, rfl, c, e0⟩)) e
    · rw [hw, Int.mul_zero]
      refine cof_none fun z hz => ?_
      rcases List.mem_append.1 hz with hz | hz
      · obtain ⟨x, hx, rfl, _⟩ := mixA_mem.1 hz
        exact hn x hx
      · obtain ⟨q, hq, rfl, _⟩ := mixB_mem.1 hz
        exact hn2 q hq
theorem mixA_len {b : List S70} {t : Int} : ∀ (l : List S70), (mixA b t l).length ≤ l.length
  | [] => Nat.le_refl _
  | x :: xs => by
    have := mixA_len (b := b) (t := t) xs
    unfold mixA
    split <;> simp <;> omega
theorem mixB_len {a : List S70} {t : Int} : ∀ (l : List S70), (mixB a t l).length ≤ l.length
  | [] => Nat.le_refl _
  | x :: xs => by
    have := mixB_len (a := a) (t := t) xs
    unfold mixB
    split
    · simp; omega
    · split <;> simp <;> omega
theorem mixL_name {a b : List S70} {t : Int} {z : S70} (hz : z ∈ mixL a b t) : ∃ x, (x ∈ a ∨ x ∈ b) ∧ z.f0 = x.f0 := by
  rcases List.mem_append.1 hz with hz | hz
  · obtain ⟨x, hx, rfl, _⟩ := mixA_mem.1 hz
    exact ⟨x, .inl hx, rfl⟩
  · obtain ⟨y, hy, rfl, _⟩ := mixB_mem.1 hz
    exact ⟨y, .inr hy, rfl⟩
/-! ### in order -/
theorem sorted_spec (l : List S70) (hd : Dist l) : Asc (impl_Term_75.sorted l) ∧ l.Perm (impl_Term_75.sorted l) := by
  have h := Go.Sort.pdq_sorts (ltOf impl_Term_75.cf) impl_Term_75.swo l.toArray 0 l.toArray.size (Go.Lib.bitLen l.toArray.size) true true (Nat.zero_le _) (Nat.le_refl _) (Or.inl rfl)
  have hS : impl_Term_75.sorted l = (Go.Sort.pdq (ltOf impl_Term_75.cf) l.toArray 0 l.toArray.size (Go.Lib.bitLen l.toArray.size) true true).toList := rfl
  generalize Go.Sort.pdq (ltOf impl_Term_75.cf) l.toArray 0 l.toArray.size (Go.Lib.bitLen l.toArray.size) true true = d at h hS
  obtain ⟨⟨hs, _, hp⟩, ho⟩ := h
  have hp' : l.Perm (impl_Term_75.sorted l) := by
    rw [hS]
    have e1 : d.extract 0 l.toArray.size = d := by
      rw [← hs]
      simp
    have e2 : l.toArray.extract 0 l.toArray.size = l.toArray := by simp
    rw [e1, e2] at hp
    exact hp.symm
  refine ⟨?_, hp'⟩
  have hd' := dist_perm hp' hd
  rw [hS] at hd' ⊢
  refine List.pairwise_iff_getElem.2 fun i j hi hj hij => ?_
  have hne := List.pairwise_iff_getElem.1 hd' i j hi hj hij
  have hj' : j < d.size := by simpa using hj
  have hi' : i < d.size := by omega
  have := ho i j (Nat.zero_le _) hij (by rw [← hs]; exact hj')
  rw [getElem!_pos d j hj', getElem!_pos d i hi', impl_Term_75.lt_eq, decide_eq_false_iff_not] at this
  have ei : d.toList[i] = d[i] := by simp
  have ej : d.toList[j] = d[j] := by simp
  rw [ei, ej] at hne ⊢
  rcases lt_tri d[i].f0.toList d[j].f0.toList with h | h | h
  · exact h
  · exact absurd h hne
  · exact absurd h this
theorem sorted_mix {a b : List S70} {t : Int} (ha : Asc a) (hb : Asc b) (hna : ∀ x ∈ a, x.f1 ≠ 0) :
    Asc (impl_Term_75.sorted (mixL a b t)) ∧ (∀ x ∈ impl_Term_75.sorted (mixL a b t), x.f1 ≠ 0 ∧ x ∈ mixL a b t) ∧ (∀ s, cof (impl_Term_75.sorted (mixL a b t)) s = cof a s + t * cof b s) := by
  have hd := mixL_dist (t := t) ha.dist hb.dist hna
  obtain ⟨h1, h2⟩ := sorted_spec _ hd
  exact ⟨h1, fun x hx => ⟨mixL_nz x (h2.mem_iff.2 hx), h2.mem_iff.2 hx⟩, fun s => (cof_perm h2 hd s).trans (mixL_cof ha.dist hb.dist hna s)⟩
/-- What the program makes of two right sums. -/
def mixS (a0 : Int) (a : List S70) (b0 : Int) (b : List S70) (t : Int) : Int × List S70 × Bool :=
  if affOkS S70.f0 S70.f1 (a0 + t * b0) (impl_Term_75.sorted (mixL a b t)) = true then (a0 + t * b0, impl_Term_75.sorted (mixL a b t), true) else (0, [], false)
theorem mul_bd {t n : Int} (ht : t = 1 ∨ t = -1) (h1 : -100000 ≤ n) (h2 : n ≤ 100000) : -100000 ≤ t * n ∧ t * n ≤ 100000 := by
  rcases ht with rfl | rfl <;> omega
theorem cof_bd {l : List S70} (h : ∀ x ∈ l, -100000 ≤ x.f1 ∧ x.f1 ≤ 100000) (s : ByteArray) : -100000 ≤ cof l s ∧ cof l s ≤ 100000 := by
  induction l with
  | nil => exact ⟨by simp [cof, coefL], by simp [cof, coefL]⟩
  | cons x xs ih =>
    unfold cof coefL
    split
    · exact h x List.mem_cons_self
    · exact ih fun y hy => h y (List.mem_cons_of_mem _ hy)
theorem impl_mix_l1_ev (a0 : Int) (a : List S70) (t c : Int) (ht : t = 1 ∨ t = -1) (b : List S70) (la : a.length ≤ 1048579) (lb : b.length ≤ 1048579) (hb : ∀ x ∈ b, -100000 ≤ x.f1 ∧ x.f1 ≤ 100000)
    (R : Int × List S70 × Bool) (acc : List S70) (hacc : acc.length ≤ 1048579)
    (hfin : Ev (fun k => (impl_Term_75.f (acc ++ mixB a t b)).bind fun t124 => (impl_AffOk.f k c t124).bind fun t125 => (if t125 = true then (some (c, t124, true)) else (some (0, ([] : List S70), false)))) R) :
    Ev (fun k => impl_mix.l1 k t b (b.length : Int) 0 a0 a c acc) R := by
  have key : ∀ d i, i + d = b.length → ∀ ac : List S70, ac.length ≤ 1048579 + i → ac ++ mixB a t (b.drop i) = acc ++ mixB a t b → Ev (fun k => impl_mix.l1 k t b (b.length : Int) (i : Int) a0 a c ac) R := by
    intro d
    induction d with
    | zero =>
      intro i hi ac hac e
      have c1 : ¬ (i : Int) < (b.length : Int) := by omega
      refine Ev.step (fun k => by rw [impl_mix.l1]) ?_
      simp only [c1, if_false]
      have e' : ac = acc ++ mixB a t b := by
        rw [← e, List.drop_eq_nil_of_le (by omega)]
        simp [mixB]
      rw [e']
      exact hfin
    | succ d ih =>
      intro i hi ac hac e
      have c1 : (i : Int) < (b.length : Int) := by omega
      have c0 : (0 : Int) ≤ (i : Int) := by omega
      have hw : wrap64 ((i : Int) + 1) = ((i + 1 : Nat) : Int) := wi (n := b.length) (by omega) (by simp only [maxLen]; omega)
      have hm : rd_T70 b (i : Int) ∈ b := by
        unfold rd_T70
        rw [Int.toNat_natCast]
        exact getD_mem b _ (by omega)
      have hdr : b.drop i = rd_T70 b (i : Int) :: b.drop (i + 1) := by
        unfold rd_T70
        rw [Int.toNat_natCast]
        exact drop_cons b _ (by omega)
      have bd := hb _ hm
      have mb := mul_bd ht bd.1 bd.2
      have w1 : wrap64 (t * (rd_T70 b (i : Int)).f1) = t * (rd_T70 b (i : Int)).f1 := w64 (by omega) (by omega)
      rw [hdr, mixB_cons] at e
      refine Ev.step (fun k => by rw [impl_mix.l1]) ?_
      simp only [c1, c0, if_true, w1, hw]
      by_cases z : t * (rd_T70 b (i : Int)).f1 = 0
      · rw [if_pos z] at e
        simp only [z, if_true]
        exact ih (i + 1) (by omega) ac (Nat.le_succ_of_le hac) e
      · rw [if_neg z] at e
        simp only [z, if_false]
        refine Ev.then (impl_CoefOf_ev a0 a _ (by simp only [maxLen]; omega)) ?_
        by_cases z2 : cof a (rd_T70 b (i : Int)).f0 = 0
        · rw [if_pos z2] at e
          have c5 : ac.length < 5864062014805 := by omega
          simp only [show coefL S70.f0 S70.f1 a (rd_T70 b (i : Int)).f0 = 0 from z2, if_true, c5]
          exact ih (i + 1) (by omega) _ (by simp; omega) (by rw [← e]; simp)
        · rw [if_neg z2] at e
          simp only [show ¬ coefL S70.f0 S70.f1 a (rd_T70 b (i : Int)).f0 = 0 from z2, if_false]
          exact ih (i + 1) (by omega) ac (Nat.le_succ_of_le hac) e
  exact key b.length 0 (by omega) acc (by omega) (by simp)
theorem impl_mix_ev (a0 : Int) (a : List S70) (b0 : Int) (b : List S70) (t : Int) (ht : t = 1 ∨ t = -1) (la : a.length ≤ 1048579) (lb : b.length ≤ 1048579)
    (ha : ∀ x ∈ a, -100000 ≤ x.f1 ∧ x.f1 ≤ 100000) (hb : ∀ x ∈ b, -100000 ≤ x.f1 ∧ x.f1 ≤ 100000) (sa : ∀ x ∈ a, x.f0.size ≤ maxLen) (sb : ∀ x ∈ b, x.f0.size ≤ maxLen)
    (pa : -100000 ≤ a0 ∧ a0 ≤ 100000) (pb : -100000 ≤ b0 ∧ b0 ≤ 100000) (da : Asc a) (db : Asc b) (na : ∀ x ∈ a, x.f1 ≠ 0) : Ev (fun k => impl_mix.f k a0 a b0 b t) (mixS a0 a b0 b t) := by
  have m0 := mul_bd ht pb.1 pb.2
  have w0 : wrap64 (t * b0) = t * b0 := w64 (by omega) (by omega)
  have w1 : wrap64 (a0 + t * b0) = a0 + t * b0 := w64 (by omega) (by omega)
  have hlen : (mixL a b t).length ≤ 3000000 := by
    have l1 := mixA_len (b := b) (t := t) a
    have l2 := mixB_len (a := a) (t := t) b
    unfold mixL
    rw [List.length_append]
    omega
  have hperm := (sorted_spec _ (mixL_dist (t := t) da.dist db.dist na)).2
  have hfin : Ev (fun k => (impl_Term_75.f (mixL a b t)).bind fun t124 => (impl_AffOk.f k (a0 + t * b0) t124).bind fun t125 => (if t125 = true then (some (a0 + t * b0, t124, true)) else (some (0, ([] : List S70), false)))) (mixS a0 a b0 b t) := by
    have hl : (mixL a b t).length < 4611686018427387904 := by omega
    have hsl : (impl_Term_75.sorted (mixL a b t)).length ≤ maxLen := by
      rw [← hperm.length_eq]
      simp only [maxLen]
      omega
    have hss : ∀ x ∈ impl_Term_75.sorted (mixL a b t), x.f0.size ≤ maxLen := fun x hx => by
      obtain ⟨y, hy, e⟩ := mixL_name (hperm.mem_iff.2 hx)
      rw [e]
      exact hy.elim (sa y) (sb y)
    unfold impl_Term_75.f mixS
    simp only [hl, if_true, Option.bind_some]
    refine Ev.then (impl_AffOk_ev _ _ hsl hss) ?_
    cases affOkS S70.f0 S70.f1 (a0 + t * b0) (impl_Term_75.sorted (mixL a b t)) with
    | true =>
      simp only [if_true]
      exact Ev.now _
    | false =>
      simp only [Bool.false_eq_true, if_false]
      exact Ev.now _
  unfold impl_mix.f
  simp only [w0, w1]
  have key : ∀ d i, i + d = a.length → ∀ ac : List S70, ac.length ≤ i → ac ++ mixA b t (a.drop i) = mixA b t a → Ev (fun k => impl_mix.l0 k t a (a.length : Int) (i : Int) a0 a b0 b (a0 + t * b0) ac) (mixS a0 a b0 b t) := by
    intro d
    induction d with
    | zero =>
      intro i hi ac hac e
      have c1 : ¬ (i : Int) < (a.length : Int) := by omega
      refine Ev.step (fun k => by rw [impl_mix.l0]) ?_
      simp only [c1, if_false]
      have e' : ac = mixA b t a := by
        rw [← e, List.drop_eq_nil_of_le (by omega)]
        simp [mixA]
      rw [e']
      exact impl_mix_l1_ev a0 a t _ ht b la lb hb _ _ (by have := mixA_len (b := b) (t := t) a; omega) hfin
    | succ d ih =>
      intro i hi ac hac e
      have c5 : ac.length < 5864062014805 := by omega
      have c1 : (i : Int) < (a.length : Int) := by omega
      have c0 : (0 : Int) ≤ (i : Int) := by omega
      have hw : wrap64 ((i : Int) + 1) = ((i + 1 : Nat) : Int) := wi (n := a.length) (by omega) (by simp only [maxLen]; omega)
      have hm : rd_T70 a (i : Int) ∈ a := by
        unfold rd_T70
        rw [Int.toNat_natCast]
        exact getD_mem a _ (by omega)
      have hdr : a.drop i = rd_T70 a (i : Int) :: a.drop (i + 1) := by
        unfold rd_T70
        rw [Int.toNat_natCast]
        exact drop_cons a _ (by omega)
      have bd := ha _ hm
      have cb := cof_bd hb (rd_T70 a (i : Int)).f0
      have mb := mul_bd ht cb.1 cb.2
      have w2 : wrap64 (t * cof b (rd_T70 a (i : Int)).f0) = t * cof b (rd_T70 a (i : Int)).f0 := w64 (by omega) (by omega)
      have w3 : wrap64 ((rd_T70 a (i : Int)).f1 + t * cof b (rd_T70 a (i : Int)).f0) = (rd_T70 a (i : Int)).f1 + t * cof b (rd_T70 a (i : Int)).f0 := w64 (by omega) (by omega)
      rw [hdr, mixA_cons] at e
      refine Ev.step (fun k => by rw [impl_mix.l0]) ?_
      simp only [c1, c0, if_true, hw]
      refine Ev.then (impl_CoefOf_ev b0 b _ (by simp only [maxLen]; omega)) ?_
      simp only [show coefL S70.f0 S70.f1 b (rd_T70 a (i : Int)).f0 = cof b (rd_T70 a (i : Int)).f0 from rfl, w2, w3]
      by_cases z : (rd_T70 a (i : Int)).f1 + t * cof b (rd_T70 a (i : Int)).f0 = 0
      · rw [if_pos z] at e
        simp only [z, if_true]
        exact ih (i + 1) (by omega) ac (Nat.le_succ_of_le hac) e
      · rw [if_neg z] at e
        simp only [z, if_false, c5, if_true]
        exact ih (i + 1) (by omega) _ (by simp; omega) (by rw [← e]; simp)
  exact key a.length 0 (by omega) [] (by simp) (by simp)
/-! ### the reference's sum -/
def AscN (l : List ByteArray) : Prop := l.Pairwise (fun x y => x.toList < y.toList)
/-- A name put in its place among ascending names. -/
def putL (s : ByteArray) : Bool → List ByteArray → List ByteArray
  | false, [] => [s]
  | true, [] => []
  | true, y :: ys => if y.toList = s.toList then putL s true ys else y :: putL s true ys
  | false, y :: ys => if y.toList < s.toList then y :: putL s false ys else s :: if y.toList = s.toList then putL s true ys else y :: putL s true ys
theorem putL_mem (s : ByteArray) : ∀ (d : Bool) (l : List ByteArray) (z : ByteArray), z ∈ putL s d l → z ∈ l ∨ (d = false ∧ z = s)
  | false, [], z, h => by
    simp only [putL, List.mem_cons, List.not_mem_nil, or_false] at h
    exact .inr ⟨rfl, h⟩
  | true, [], z, h => by simp [putL] at h
  | true, y :: ys, z, h => by
    unfold putL at h
    split at h
    · exact (putL_mem s true ys z h).imp (List.mem_cons_of_mem _) id
    · rcases List.mem_cons.1 h with rfl | h
      · exact .inl List.mem_cons_self
      · exact (putL_mem s true ys z h).imp (List.mem_cons_of_mem _) id
  | false, y :: ys, z, h => by
    unfold putL at h
    split at h
    · rcases List.mem_cons.1 h with rfl | h
      · exact .inl List.mem_cons_self
      · exact (putL_mem s false ys z h).imp (List.mem_cons_of_mem _) id
    · rcases List.mem_cons.1 h with rfl | h
      · exact .inr ⟨rfl, rfl⟩
      · split at h
        · rcases putL_mem s true ys z h with h | ⟨h, _⟩
          · exact .inl (List.mem_cons_of_mem _ h)
          · cases h
        · rcases List.mem_cons.1 h with rfl | h
          · exact .inl List.mem_cons_self
          · rcases putL_mem s true ys z h with h | ⟨h, _⟩
            · exact .inl (List.mem_cons_of_mem _ h)
            · cases h
theorem putL_has (s : ByteArray) : ∀ (d : Bool) (l : List ByteArray), (∀ z ∈ l, z.toList ≠ s.toList → z ∈ putL s d l) ∧ (d = false → s ∈ putL s d l)
  | false, [] => by simp [putL]
  | true, [] => by simp
  | true, y :: ys => by
    have ih := (putL_has s true ys).1
    refine ⟨fun z hz hn => ?_, fun h => by cases h⟩
    unfold putL
    rcases List.mem_cons.1 hz with rfl | hz
    · rw [if_neg hn]
      exact List.mem_cons_self
    · split
      · exact ih z hz hn
      · exact List.mem_cons_of_mem _ (ih z hz hn)
  | false, y :: ys => by
    have i1 := (putL_has s true ys).1
    have i2 := putL_has s false ys
    unfold putL
    refine ⟨fun z hz hn => ?_, fun _ => ?_⟩
    · rcases List.mem_cons.1 hz with rfl | hz
      · split
        · exact List.mem_cons_self
        · exact List.mem_cons_of_mem _ List.mem_cons_self
      · split
        · exact List.mem_cons_of_mem _ (i2.1 z hz hn)
        · split
          · exact List.mem_cons_of_mem _ (i1 z hz hn)
          · exact List.mem_cons_of_mem _ (List.mem_cons_of_mem _ (i1 z hz hn))
    · split
      · exact List.mem_cons_of_mem _ (i2.2 rfl)
      · exact List.mem_cons_self
theorem putL_asc (s : ByteArray) : ∀ (d : Bool) (l : List ByteArray), AscN l → AscN (putL s d l)
  | false, [], _ => by simp [AscN, putL]
  | true, [], _ => by simp [AscN, putL]
  | true, y :: ys, h => by
    have h' := List.pairwise_cons.1 h
    have ih := putL_asc s true ys h'.2
    unfold putL
    split
    · exact ih
    · exact List.pairwise_cons.2 ⟨fun z hz => (putL_mem s true ys z hz).elim (h'.1 z) (fun q => by cases q.1), ih⟩
  | false, y :: ys, h => by
    have h' := List.pairwise_cons.1 h
    have i1 := putL_asc s true ys h'.2
    have i2 := putL_asc s false ys h'.2
    unfold putL
    split
    · rename_i c
      exact List.pairwise_cons.2 ⟨fun z hz => (putL_mem s false ys z hz).elim (h'.1 z) (fun q => by rw [q.2]; exact c), i2⟩
    · rename_i c
      split
      · rename_i e
        refine List.pairwise_cons.2 ⟨fun z hz => (putL_mem s true ys z hz).elim (fun q => ?_) (fun q => by cases q.1), i1⟩
        rw [← e]
        exact h'.1 z q
      · rename_i e
        have hlt : s.toList < y.toList := by
          rcases lt_tri s.toList y.toList with q | q | q
          · exact q
          · exact absurd q.symm e
          · exact absurd q c
        have hys : AscN (y :: putL s true ys) := List.pairwise_cons.2 ⟨fun z hz => (putL_mem s true ys z hz).elim (h'.1 z) (fun q => by cases q.1), i1⟩
        refine List.pairwise_cons.2 ⟨fun z hz => ?_, hys⟩
        rcases List.mem_cons.1 hz with rfl | hz
        · exact hlt
        · exact List.lt_trans hlt ((putL_mem s true ys z hz).elim (h'.1 z) (fun q => by cases q.1))
theorem putL_len (s : ByteArray) : ∀ (d : Bool) (l : List ByteArray), (putL s d l).length ≤ l.length + 1
  | false, [] => by simp [putL]
  | true, [] => by simp [putL]
  | true, y :: ys => by
    have := putL_len s true ys
    unfold putL
    split <;> simp <;> omega
  | false, y :: ys => by
    have i1 := putL_len s true ys
    have i2 := putL_len s false ys
    unfold putL
    split
    · simp; omega
    · split
      · simp; omega
      · simp
        have : (putL s true ys).length ≤ ys.length := by
          clear i1 i2
          induction ys with
          | nil => simp [putL]
          | cons z zs ih =>
            unfold putL
            split <;> simp <;> omega
        omega
theorem spec_l4Put_ev (l : List ByteArray) (s : ByteArray) (hl : l.length ≤ 2097158) : Ev (fun k => spec_l4Put.f k l s) (putL s false l) := by
  unfold spec_l4Put.f
  have key : ∀ d i, i + d = l.length → ∀ (acc : List ByteArray) (b : Bool), acc.length ≤ i + 1 → (b = false → acc.length ≤ i) → Ev (fun k => spec_l4Put.l0 k l s acc b (i : Int)) (acc ++ putL s b (l.drop i)) := by
    intro d
    induction d with
    | zero =>
      intro i hi acc b ha hb
      refine Ev.step (fun k => by rw [spec_l4Put.l0]) ?_
      have c1 : ¬ (i : Int) < (l.length : Int) := by omega
      have c2 : acc.length < 8796093022208 := by omega
      simp only [c1, c2, if_true, if_false]
      rw [List.drop_eq_nil_of_le (by omega)]
      cases b with
      | true =>
        simp only [if_true, putL, List.append_nil]
        exact Ev.now _
      | false =>
        simp only [Bool.false_eq_true, if_false, putL]
        exact Ev.now _
    | succ d ih =>
      intro i hi acc b ha hb
      have c0 : (0 : Int) ≤ (i : Int) := by omega
      have c1 : (i : Int) < (l.length : Int) := by omega
      have c2 : acc.length < 8796093022208 := by omega
      have c3 : acc.length + 1 < 8796093022208 := by omega
      have hw : wrap64 ((i : Int) + 1) = ((i + 1 : Nat) : Int) := wi (n := l.length) (by omega) (by simp only [maxLen]; omega)
      have hd : l.drop i = rdOf ByteArray.empty l (i : Int) :: l.drop (i + 1) := drop_cons l _ (by omega)
      rw [hd]
      refine Ev.step (fun k => by rw [spec_l4Put.l0]) ?_
      simp only [c0, c1, if_true]
      cases b with
      | true =>
        simp only [if_true]
        refine Ev.step (fun k => by rw [spec_l4Put.j1]) ?_
        simp only [Bool.false_eq_true, if_false, c0, c1, c2, if_true, hw, putL]
        by_cases e : (rdOf ByteArray.empty l (i : Int)).toList = s.toList
        · simp only [e, if_true]
          exact ih (i + 1) (by omega) acc true (by omega) (fun q => by cases q)
        · simp only [e, if_false]
          have := ih (i + 1) (by omega) (acc ++ [rdOf ByteArray.empty l (i : Int)]) true (by simp; omega) (fun q => by cases q)
          simpa only [List.append_assoc, List.cons_append, List.nil_append] using this
      | false =>
        simp only [Bool.false_eq_true, if_false, less_eqL]
        refine Ev.step (fun k => by rw [spec_l4Put.j1]) ?_
        by_cases lt : (rdOf ByteArray.empty l (i : Int)).toList < s.toList
        · have e : ¬ (rdOf ByteArray.empty l (i : Int)).toList = s.toList := lt_ne lt
          simp only [lt, e, decide_true, Bool.not_true, Bool.false_eq_true, if_false, c0, c1, c2, if_true, hw, putL]
          have := ih (i + 1) (by omega) (acc ++ [rdOf ByteArray.empty l (i : Int)]) false (by simp; omega) (fun _ => by have := hb rfl; simp; omega)
          simpa only [List.append_assoc, List.cons_append, List.nil_append] using this
        · have c4 : (acc ++ [s]).length < 8796093022208 := by simp; omega
          simp only [lt, decide_false, Bool.not_false, if_true, if_false, c0, c1, c2, c4, hw, putL, Option.bind_some]
          have hb' := hb rfl
          by_cases e : (rdOf ByteArray.empty l (i : Int)).toList = s.toList
          · simp only [e, if_true]
            have := ih (i + 1) (by omega) (acc ++ [s]) true (by simp; omega) (fun q => by cases q)
            simpa only [List.append_assoc, List.cons_append, List.nil_append] using this
          · simp only [e, if_false]
            have := ih (i + 1) (by omega) (acc ++ [s] ++ [rdOf ByteArray.empty l (i : Int)]) true (by simp; omega) (fun q => by cases q)
            simpa only [List.append_assoc, List.cons_append, List.nil_append] using this
  have := key l.length 0 (by omega) [] false (by simp) (fun _ => by simp)
  rwa [List.nil_append, List.drop_zero] at this
theorem putL_iff (s : ByteArray) (l : List ByteArray) (z : ByteArray) : z ∈ putL s false l ↔ z ∈ l ∨ z = s := by
  refine ⟨fun h => (putL_mem s false l z h).imp id (fun q => q.2), fun h => ?_⟩
  by_cases e : z.toList = s.toList
  · rw [bytes_inj e]
    exact (putL_has s false l).2 rfl
  · rcases h with h | h
    · exact (putL_has s false l).1 z h e
    · exact absurd (by rw [h]) e
def putAll : List S70 → List ByteArray → List ByteArray
  | [], ns => ns
  | x :: xs, ns => putAll xs (putL x.f0 false ns)
theorem putAll_iff : ∀ (l : List S70) (ns : List ByteArray) (z : ByteArray), z ∈ putAll l ns ↔ z ∈ ns ∨ ∃ x ∈ l, z = x.f0
  | [], ns, z => by simp [putAll]
  | x :: xs, ns, z => by
    unfold putAll
    rw [putAll_iff xs, putL_iff]
    constructor
    · rintro ((h | h) | ⟨y, hy, h⟩)
      · exact .inl h
      · exact .inr ⟨x, List.mem_cons_self, h⟩
      · exact .inr ⟨y, List.mem_cons_of_mem _ hy, h⟩
    · rintro (h | ⟨y, hy, h⟩)
      · exact .inl (.inl h)
      · rcases List.mem_cons.1 hy with rfl | hy
        · exact .inl (.inr h)
        · exact .inr ⟨y, hy, h⟩
theorem putAll_asc : ∀ (l : List S70) (ns : List ByteArray), AscN ns → AscN (putAll l ns)
  | [], _, h => h
  | x :: xs, ns, h => putAll_asc xs _ (putL_asc x.f0 false ns h)
theorem putAll_len : ∀ (l : List S70) (ns : List ByteArray), (putAll l ns).length ≤ ns.length + l.length
  | [], _ => by simp [putAll]
  | x :: xs, ns => by
    have h1 := putAll_len xs (putL x.f0 false ns)
    have h2 := putL_len x.f0 false ns
    unfold putAll
    simp only [List.length_cons]
    omega
theorem spec_l8Names_l1 (c : Int) (l : List S70) (ns : List ByteArray) (hl : l.length ≤ 1048579) (hn : ns.length ≤ 1048579) : Ev (fun k => spec_l8Names.l1 k ns 0 c l) (putAll l ns) := by
  have key : ∀ d i, i + d = l.length → ∀ ns : List ByteArray, ns.length ≤ 1048579 + i → Ev (fun k => spec_l8Names.l1 k ns (i : Int) c l) (putAll (l.drop i) ns) := by
    intro d
    induction d with
    | zero =>
      intro i hi ns hn
      refine Ev.step (fun k => by rw [spec_l8Names.l1]) ?_
      have c1 : ¬ (i : Int) < (l.length : Int) := by omega
      simp only [c1, if_false]
      rw [List.drop_eq_nil_of_le (by omega)]
      exact Ev.now _
    | succ d ih =>
      intro i hi ns hn
      refine Ev.step (fun k => by rw [spec_l8Names.l1]) ?_
      have c0 : (0 : Int) ≤ (i : Int) := by omega
      have c1 : (i : Int) < (l.length : Int) := by omega
      have hw : wrap64 ((i : Int) + 1) = ((i + 1 : Nat) : Int) := wi (n := l.length) (by omega) (by simp only [maxLen]; omega)
      have hd : l.drop i = rd_T70 l (i : Int) :: l.drop (i + 1) := drop_cons l _ (by omega)
      have hp := putL_len (rd_T70 l (i : Int)).f0 false ns
      rw [hd]
      simp only [c0, c1, if_true, hw]
      exact Ev.then (spec_l4Put_ev ns _ (by omega)) (ih (i + 1) (by omega) _ (by omega))
  exact key l.length 0 (by omega) ns (by omega)
theorem spec_l8Names_ev (c d : Int) (a b : List S70) (ha : a.length ≤ 1048579) (hb : b.length ≤ 1048579) : Ev (fun k => spec_l8Names.f k c a d b) (putAll b (putAll a [])) := by
  unfold spec_l8Names.f
  have key : ∀ n i, i + n = a.length → ∀ ns : List ByteArray, ns.length ≤ i → putAll (a.drop i) ns = putAll a [] → Ev (fun k => spec_l8Names.l0 k ns (i : Int) c a d b) (putAll b (putAll a [])) := by
    intro n
    induction n with
    | zero =>
      intro i hi ns hn e
      refine Ev.step (fun k => by rw [spec_l8Names.l0]) ?_
      have c1 : ¬ (i : Int) < (a.length : Int) := by omega
      simp only [c1, if_false]
      rw [List.drop_eq_nil_of_le (by omega)] at e
      rw [← e]
      exact spec_l8Names_l1 d b ns hb (by omega)
    | succ n ih =>
      intro i hi ns hn e
      refine Ev.step (fun k => by rw [spec_l8Names.l0]) ?_
      have c0 : (0 : Int) ≤ (i : Int) := by omega
      have c1 : (i : Int) < (a.length : Int) := by omega
      have hw : wrap64 ((i : Int) + 1) = ((i + 1 : Nat) : Int) := wi (n := a.length) (by omega) (by simp only [maxLen]; omega)
      have hd : a.drop i = rd_T70 a (i : Int) :: a.drop (i + 1) := drop_cons a _ (by omega)
      have hp := putL_len (rd_T70 a (i : Int)).f0 false ns
      rw [hd] at e
      simp only [c0, c1, if_true, hw]
      exact Ev.then (spec_l4Put_ev ns _ (by omega)) (ih (i + 1) (by omega) _ (by omega) e)
  exact key a.length 0 (by omega) [] (by simp) rfl
def sumN (v : ByteArray → Int) : List ByteArray → List S70
  | [] => []
  | n :: ns => if v n = 0 then sumN v ns else ⟨n, v n⟩ :: sumN v ns
theorem sumN_cons (v : ByteArray → Int) (n : ByteArray) (ns : List ByteArray) : sumN v (n :: ns) = if v n = 0 then sumN v ns else ⟨n, v n⟩ :: sumN v ns := by rw [sumN]
theorem sumN_mem {v : ByteArray → Int} : ∀ {ns : List ByteArray} {z : S70}, z ∈ sumN v ns ↔ ∃ n ∈ ns, z = ⟨n, v n⟩ ∧ v n ≠ 0
  | [], z => by simp [sumN]
  | n :: ns, z => by
    rw [sumN_cons]
    by_cases c : v n = 0
    · rw [if_pos c, sumN_mem]
      constructor
      · rintro ⟨y, hy, h⟩
        exact ⟨y, List.mem_cons_of_mem _ hy, h⟩
      · rintro ⟨y, hy, h1, h2⟩
        rcases List.mem_cons.1 hy with rfl | hy
        · exact absurd c h2
        · exact ⟨y, hy, h1, h2⟩
    · rw [if_neg c, List.mem_cons, sumN_mem]
      constructor
      · rintro (h | ⟨y, hy, h⟩)
        · exact ⟨n, List.mem_cons_self, h, c⟩
        · exact ⟨y, List.mem_cons_of_mem _ hy, h⟩
      · rintro ⟨y, hy, h1, h2⟩
        rcases List.mem_cons.1 hy with rfl | hy
        · exact .inl h1
        · exact .inr ⟨y, hy, h1, h2⟩
theorem sumN_asc {v : ByteArray → Int} : ∀ {ns : List ByteArray}, AscN ns → Asc (sumN v ns)
  | [], _ => List.Pairwise.nil
  | n :: ns, h => by
    have h' := List.pairwise_cons.1 h
    rw [sumN_cons]
    split
    · exact sumN_asc h'.2
    · refine List.pairwise_cons.2 ⟨fun z hz => ?_, sumN_asc h'.2⟩
      obtain ⟨y, hy, rfl, _⟩ := sumN_mem.1 hz
      exact h'.1 y hy
theorem sumN_len {v : ByteArray → Int} : ∀ (ns : List ByteArray), (sumN v ns).length ≤ ns.length
  | [] => by simp [sumN]
  | n :: ns => by
    have := sumN_len (v := v) ns
    rw [sumN_cons]
    split <;> simp <;> omega
theorem sumN_cof {v : ByteArray → Int} (hv : ∀ s q : ByteArray, s.toList = q.toList → v s = v q) {ns : List ByteArray} (ha : AscN ns) (h0 : ∀ s, (∀ n ∈ ns, n.toList ≠ s.toList) → v s = 0) (s : ByteArray) : cof (sumN v ns) s = v s := by
  have hA := sumN_asc (v := v) ha
  by_cases h : ∃ n ∈ ns, n.toList = s.toList
  · obtain ⟨n, hn, e⟩ := h
    by_cases c : v n = 0
    · rw [← hv n s e, c]
      refine cof_none fun z hz q => ?_
      obtain ⟨y, hy, rfl, h1⟩ := sumN_mem.1 hz
      exact h1 ((hv y n (q.trans e.symm)).trans c)
    · rw [← hv n s e]
      exact cof_mem (x := ⟨n, v n⟩) hA.dist (sumN_mem.2 ⟨n, hn, rfl, c⟩) e
  · have h' : ∀ n ∈ ns, n.toList ≠ s.toList := fun n hn e => h ⟨n, hn, e⟩
    rw [h0 s h']
    refine cof_none fun z hz => ?_
    obtain ⟨y, hy, rfl, _⟩ := sumN_mem.1 hz
    exact h' y hy
theorem sumN_eq {a b : List S70} {t : Int} (ha : Asc a) (hb : Asc b) (hna : ∀ x ∈ a, x.f1 ≠ 0) : sumN (fun s => cof a s + t * cof b s) (putAll b (putAll a [])) = impl_Term_75.sorted (mixL a b t) := by
  obtain ⟨h1, h2, h3⟩ := sorted_mix (t := t) ha hb hna
  have hasc : AscN (putAll b (putAll a [])) := putAll_asc b _ (putAll_asc a _ List.Pairwise.nil)
  refine asc_ext _ _ (sumN_asc hasc) h1 (fun x hx => ?_) (fun x hx => (h2 x hx).1) fun s => ?_
  · obtain ⟨n, _, rfl, h⟩ := sumN_mem.1 hx
    exact h
  · rw [h3]
    refine sumN_cof (fun s q e => ?_) hasc (fun s hs => ?_) s
    · show cof a s + t * cof b s = cof a q + t * cof b q
      rw [cof_congr a e, cof_congr b e]
    · show cof a s + t * cof b s = 0
      rw [cof_none (l := a) fun x hx => hs x.f0 ((putAll_iff b _ _).2 (.inl ((putAll_iff a _ _).2 (.inr ⟨x, hx, rfl⟩)))), cof_none (l := b) fun x hx => hs x.f0 ((putAll_iff b _ _).2 (.inr ⟨x, hx, rfl⟩))]
      omega
/-- What both make of two sums. -/
def addS (a0 : Int) (a : List S70) (b0 : Int) (b : List S70) (t : Int) : Int × List S70 × Bool :=
  if affOkS S70.f0 S70.f1 a0 a = true then if affOkS S70.f0 S70.f1 b0 b = true then mixS a0 a b0 b t else (0, [], false) else (0, [], false)
theorem affOkS_mem {c : Int} {l : List S70} (h : affOkS S70.f0 S70.f1 c l = true) : Asc l ∧ (∀ x ∈ l, nameS x.f0 = true ∧ x.f1 ≠ 0 ∧ -100000 ≤ x.f1 ∧ x.f1 ≤ 100000) ∧ -100000 ≤ c ∧ c ≤ 100000 := by
  unfold affOkS at h
  have h' := (Bool.and_eq_true ..) ▸ h
  refine ⟨(affOkL_asc l none h'.1).1, affOkL_mem _ _ l none h'.1, ?_⟩
  have := h'.2
  simp only [coefOk, Bool.and_eq_true, decide_eq_true_eq] at this
  exact this
theorem spec_l8Sum_l0 (a0 : Int) (a : List S70) (b0 : Int) (b : List S70) (t c : Int) (ht : t = 1 ∨ t = -1) (la : a.length ≤ 1048579) (lb : b.length ≤ 1048579) (ha : ∀ x ∈ a, -100000 ≤ x.f1 ∧ x.f1 ≤ 100000) (hb : ∀ x ∈ b, -100000 ≤ x.f1 ∧ x.f1 ≤ 100000)
    (ns : List ByteArray) (hn : ns.length ≤ 2097158) (R : Int × List S70 × Bool)
    (hfin : Ev (fun k => (spec_AffOk.f k c (sumN (fun s => cof a s + t * cof b s) ns)).bind fun t125 => (if t125 = true then (some (c, sumN (fun s => cof a s + t * cof b s) ns, true)) else (some (0, ([] : List S70), false)))) R) :
    Ev (fun k => spec_l8Sum.l0 k t ns 0 a0 a b0 b c []) R := by
  have key : ∀ d i, i + d = ns.length → ∀ ac : List S70, ac.length ≤ i → ac ++ sumN (fun s => cof a s + t * cof b s) (ns.drop i) = sumN (fun s => cof a s + t * cof b s) ns → Ev (fun k => spec_l8Sum.l0 k t ns (i : Int) a0 a b0 b c ac) R := by
    intro d
    induction d with
    | zero =>
      intro i hi ac hac e
      have c1 : ¬ (i : Int) < (ns.length : Int) := by omega
      refine Ev.step (fun k => by rw [spec_l8Sum.l0]) ?_
      simp only [c1, if_false]
      have e' : ac = sumN (fun s => cof a s + t * cof b s) ns := by
        rw [← e, List.drop_eq_nil_of_le (by omega)]
        simp [sumN]
      rw [e']
      exact hfin
    | succ d ih =>
      intro i hi ac hac e
      have c1 : (i : Int) < (ns.length : Int) := by omega
      have c0 : (0 : Int) ≤ (i : Int) := by omega
      have c5 : ac.length < 5864062014805 := by omega
      have hw : wrap64 ((i : Int) + 1) = ((i + 1 : Nat) : Int) := wi (n := ns.length) (by omega) (by simp only [maxLen]; omega)
      have hdr : ns.drop i = rdOf ByteArray.empty ns (i : Int) :: ns.drop (i + 1) := drop_cons ns _ (by omega)
      have ca := cof_bd ha (rdOf ByteArray.empty ns (i : Int))
      have cb := cof_bd hb (rdOf ByteArray.empty ns (i : Int))
      have mb := mul_bd ht cb.1 cb.2
      have w2 : wrap64 (t * cof b (rdOf ByteArray.empty ns (i : Int))) = t * cof b (rdOf ByteArray.empty ns (i : Int)) := w64 (by omega) (by omega)
      have w3 : wrap64 (cof a (rdOf ByteArray.empty ns (i : Int)) + t * cof b (rdOf ByteArray.empty ns (i : Int))) = cof a (rdOf ByteArray.empty ns (i : Int)) + t * cof b (rdOf ByteArray.empty ns (i : Int)) := w64 (by omega) (by omega)
      rw [hdr, sumN_cons] at e
      refine Ev.step (fun k => by rw [spec_l8Sum.l0]) ?_
      simp only [c1, c0, if_true, hw]
      refine Ev.then (spec_CoefOf_ev a0 a _ (by simp only [maxLen]; omega)) (Ev.then (spec_CoefOf_ev b0 b _ (by simp only [maxLen]; omega)) ?_)
      simp only [show ∀ l s, coefL S70.f0 S70.f1 l s = cof l s from fun _ _ => rfl, w2, w3]
      by_cases z : cof a (rdOf ByteArray.empty ns (i : Int)) + t * cof b (rdOf ByteArray.empty ns (i : Int)) = 0
      · rw [if_pos z] at e
        simp only [z, if_true]
        exact ih (i + 1) (by omega) ac (Nat.le_succ_of_le hac) e
      · rw [if_neg z] at e
        simp only [z, if_false, c5, if_true]
        exact ih (i + 1) (by omega) _ (by simp; omega) (by rw [← e]; simp)
  exact key ns.length 0 (by omega) [] (by simp) (by simp)
theorem spec_l8Sum_ev (a0 : Int) (a : List S70) (b0 : Int) (b : List S70) (t : Int) (ht : t = 1 ∨ t = -1) (la : a.length ≤ 1048579) (lb : b.length ≤ 1048579) (sa : ∀ x ∈ a, x.f0.size ≤ maxLen) (sb : ∀ x ∈ b, x.f0.size ≤ maxLen) :
    Ev (fun k => spec_l8Sum.f k a0 a b0 b t) (addS a0 a b0 b t) := by
  unfold spec_l8Sum.f addS
  have Ea := spec_AffOk_ev a0 a (by simp only [maxLen]; omega) sa
  have Eb := spec_AffOk_ev b0 b (by simp only [maxLen]; omega) sb
  cases oa : affOkS S70.f0 S70.f1 a0 a with
  | false =>
    rw [oa] at Ea
    refine Ev.then Ea ?_
    simp only [Bool.false_eq_true, if_false]
    refine Ev.step (fun k => by rw [spec_l8Sum.j0]) ?_
    simp only [if_true]
    exact Ev.now _
  | true =>
    rw [oa] at Ea
    refine Ev.then Ea ?_
    simp only [if_true]
    cases ob : affOkS S70.f0 S70.f1 b0 b with
    | false =>
      rw [ob] at Eb
      refine Ev.then Eb ?_
      refine Ev.step (fun k => by rw [spec_l8Sum.j0]) ?_
      simp only [Bool.not_false, if_true, Bool.false_eq_true, if_false]
      exact Ev.now _
    | true =>
      rw [ob] at Eb
      refine Ev.then Eb ?_
      refine Ev.step (fun k => by rw [spec_l8Sum.j0]) ?_
      simp only [Bool.not_true, if_true, Bool.false_eq_true, if_false]
      obtain ⟨aa, ma, pa⟩ := affOkS_mem oa
      obtain ⟨ab, mb, pb⟩ := affOkS_mem ob
      have m0 := mul_bd ht pb.1 pb.2
      have w0 : wrap64 (t * b0) = t * b0 := w64 (by omega) (by omega)
      have w1 : wrap64 (a0 + t * b0) = a0 + t * b0 := w64 (by omega) (by omega)
      simp only [w0, w1]
      refine Ev.then (spec_l8Names_ev a0 b0 a b la lb) ?_
      have nl : (putAll b (putAll a [])).length ≤ 2097158 := by
        have h1 := putAll_len b (putAll a [])
        have h2 := putAll_len a []
        simp only [List.length_nil] at h2
        omega
      have eq := sumN_eq (t := t) aa ab (fun x hx => (ma x hx).2.1)
      have hperm := (sorted_spec _ (mixL_dist (t := t) aa.dist ab.dist fun x hx => (ma x hx).2.1)).2
      have hlen : (mixL a b t).length ≤ maxLen := by
        have l1 := mixA_len (b := b) (t := t) a
        have l2 := mixB_len (a := a) (t := t) b
        simp only [mixL, maxLen, List.length_append]
        omega
      have hsl : (impl_Term_75.sorted (mixL a b t)).length ≤ maxLen := by
        rw [← hperm.length_eq]
        exact hlen
      have hss : ∀ x ∈ impl_Term_75.sorted (mixL a b t), x.f0.size ≤ maxLen := fun x hx => by
        obtain ⟨y, hy, e⟩ := mixL_name (hperm.mem_iff.2 hx)
        rw [e]
        exact hy.elim (sa y) (sb y)
      refine spec_l8Sum_l0 a0 a b0 b t (a0 + t * b0) ht la lb (fun x hx => (ma x hx).2.2) (fun x hx => (mb x hx).2.2) _ nl _ ?_
      rw [eq]
      unfold mixS
      refine Ev.then (spec_AffOk_ev _ _ hsl hss) ?_
      cases affOkS S70.f0 S70.f1 (a0 + t * b0) (impl_Term_75.sorted (mixL a b t)) with
      | true =>
        simp only [if_true]
        exact Ev.now _
      | false =>
        simp only [Bool.false_eq_true, if_false]
        exact Ev.now _
theorem spec_SubA_ev (a0 : Int) (a : List S70) (b0 : Int) (b : List S70) (la : a.length ≤ 1048579) (lb : b.length ≤ 1048579) (sa : ∀ x ∈ a, x.f0.size ≤ maxLen) (sb : ∀ x ∈ b, x.f0.size ≤ maxLen) : Ev (fun k => spec_SubA.f k a0 a b0 b) (addS a0 a b0 b (-1)) := by
  unfold spec_SubA.f
  exact Ev.then (spec_l8Sum_ev a0 a b0 b (-1) (.inr rfl) la lb sa sb) (Ev.now _)
theorem impl_SubA_ev (a0 : Int) (a : List S70) (b0 : Int) (b : List S70) (la : a.length ≤ 1048579) (lb : b.length ≤ 1048579) (sa : ∀ x ∈ a, x.f0.size ≤ maxLen) (sb : ∀ x ∈ b, x.f0.size ≤ maxLen) : Ev (fun k => impl_SubA.f k a0 a b0 b) (addS a0 a b0 b (-1)) := by
  unfold impl_SubA.f addS
  have Ea := impl_AffOk_ev a0 a (by simp only [maxLen]; omega) sa
  have Eb := impl_AffOk_ev b0 b (by simp only [maxLen]; omega) sb
  refine Ev.then Ea ?_
  cases oa : affOkS S70.f0 S70.f1 a0 a with
  | false =>
    simp only [Bool.false_eq_true, if_false]
    exact Ev.now _
  | true =>
    simp only [if_true]
    refine Ev.then Eb ?_
    cases ob : affOkS S70.f0 S70.f1 b0 b with
    | false =>
      simp only [Bool.false_eq_true, if_false]
      exact Ev.now _
    | true =>
      simp only [if_true]
      obtain ⟨aa, ma, pa⟩ := affOkS_mem oa
      obtain ⟨ab, mb, pb⟩ := affOkS_mem ob
      exact Ev.then (impl_mix_ev a0 a b0 b (-1) (.inr rfl) la lb (fun x hx => (ma x hx).2.2) (fun x hx => (mb x hx).2.2) sa sb pa pb aa ab (fun x hx => (ma x hx).2.1)) (Ev.now _)
/-! ### marks -/
theorem laws_markText_ev (n : Int) (h0 : 0 ≤ n) (h1 : n < 1152921504606846976) : ∃ s, Ev (fun k => laws_markText.f k n) s := by
  unfold laws_markText.f
  by_cases c : n ≤ 0
  · simp only [c, if_true]
    exact ⟨_, Ev.now _⟩
  · simp only [c, if_false]
    have key : ∀ (j : Nat) (n : Int) (acc : ByteArray), 0 ≤ n → n < (2 : Int) ^ j → n < 9223372036854775808 → acc.size + j ≤ 100 → ∃ s, Ev (fun k => laws_markText.l0 k n acc) s := by
      intro j
      induction j with
      | zero =>
        intro n acc h0 h1 hn hs
        have c : ¬ n > 0 := by simp at h1; omega
        have c2 : 1 + acc.size ≤ 9223372036854775807 := by omega
        refine ⟨(⟨#[109]⟩ : ByteArray) ++ acc, Ev.step (fun k => by rw [laws_markText.l0]) ?_⟩
        simp only [c, c2, if_true, if_false]
        exact Ev.now _
      | succ j ih =>
        intro n acc h0 h1 hn hs
        by_cases c : n > 0
        · have hd : Int.tdiv n 10 = n / 10 := Int.tdiv_eq_ediv_of_nonneg h0
          have hj : (2 : Int) ^ (j + 1) = 2 * 2 ^ j := by rw [Int.pow_succ, Int.mul_comm]
          rw [hj] at h1
          have sz : ∀ x : Int, (strOfNums [x]).size = 1 := fun x => by simp [strOfNums, ByteArray.size]
          obtain ⟨s, hs'⟩ := ih (n / 10) (strOfNums [wrap64 (48 + Int.tmod n 10) % 256] ++ acc) (by omega) (by omega) (by omega) (by rw [ByteArray.size_append, sz]; omega)
          have hw : wrap64 (n / 10) = n / 10 := w64 (by omega) (by omega)
          have c2 : (strOfNums [wrap64 (48 + Int.tmod n 10) % 256]).size + acc.size ≤ 9223372036854775807 := by rw [sz]; omega
          refine ⟨s, Ev.step (fun k => by rw [laws_markText.l0]) ?_⟩
          simp only [c, if_true, Option.bind_some, c2, hd, hw]
          exact hs'
        · have c2 : 1 + acc.size ≤ 9223372036854775807 := by omega
          refine ⟨(⟨#[109]⟩ : ByteArray) ++ acc, Ev.step (fun k => by rw [laws_markText.l0]) ?_⟩
          simp only [c, c2, if_true, if_false]
          exact Ev.now _
    exact key 60 n _ h0 (by simpa using h1) (by omega) (by decide)
theorem rd_set_same (l : List S70) (i : Nat) (x : S70) (h : i < l.length) : rd_T70 (l.set ((i : Int).toNat) x) (i : Int) = x := by
  unfold rd_T70
  rw [Int.toNat_natCast, List.getD_eq_getElem?_getD, List.getElem?_set_self (by omega)]
  rfl
theorem laws_marks_ev (l : List S70) (n0 : Int) (hn : 0 ≤ n0) (hn2 : n0 ≤ 1099511627776) (hl : l.length ≤ 1099511627776) :
    ∃ l', Ev (fun k => laws_markTermS.f k l n0) (n0 + 2 * l.length, l') ∧ Ev (fun k => laws_heldTermS.f k l' n0) (n0 + 2 * l.length) := by
  unfold laws_markTermS.f laws_heldTermS.f
  have key : ∀ d i, i + d = l.length → ∀ cur : List S70, cur.length = l.length → ∃ c', Ev (fun k => laws_markTermS.l0 k cur (n0 + 2 * (i : Int)) (i : Int)) (n0 + 2 * l.length, c') ∧ c'.length = l.length ∧ (∀ j : Nat, j < i → rd_T70 c' (j : Int) = rd_T70 cur (j : Int)) ∧ Ev (fun k => laws_heldTermS.l0 k c' (n0 + 2 * (i : Int)) (i : Int)) (n0 + 2 * l.length) := by
    intro d
    induction d with
    | zero =>
      intro i hi cur hc
      have c1 : ¬ (i : Int) < (cur.length : Int) := by omega
      have e : n0 + 2 * (i : Int) = n0 + 2 * l.length := by omega
      rw [e]
      refine ⟨cur, Ev.step (fun k => by rw [laws_markTermS.l0]) ?_, hc, fun _ _ => rfl, Ev.step (fun k => by rw [laws_heldTermS.l0]) ?_⟩
      · simp only [c1, if_false]
        exact Ev.now _
      · simp only [c1, if_false]
        exact Ev.now _
    | succ d ih =>
      intro i hi cur hc
      have c0 : (0 : Int) ≤ (i : Int) := by omega
      have c1 : (i : Int) < (cur.length : Int) := by omega
      have w1 : wrap64 (n0 + 2 * (i : Int) + 1) = n0 + 2 * (i : Int) + 1 := w64 (by omega) (by omega)
      have w2 : wrap64 (n0 + 2 * (i : Int) + 1 + 1) = n0 + 2 * ((i + 1 : Nat) : Int) := by rw [w64 (by omega) (by omega)]; omega
      have w3 : wrap64 ((i : Int) + 1) = ((i + 1 : Nat) : Int) := by rw [w64 (by omega) (by omega)]; omega
      obtain ⟨s, hs⟩ := laws_markText_ev (n0 + 2 * (i : Int)) (by omega) (by omega)
      have hi' : i < cur.length := by omega
      have r1 : rd_T70 (cur.set ((i : Int).toNat) ⟨s, (rd_T70 cur (i : Int)).f1⟩) (i : Int) = ⟨s, (rd_T70 cur (i : Int)).f1⟩ := rd_set_same cur i _ hi'
      obtain ⟨c', E1, l1, same, E2⟩ := ih (i + 1) (by omega) ((cur.set ((i : Int).toNat) ⟨s, (rd_T70 cur (i : Int)).f1⟩).set ((i : Int).toNat) ⟨s, n0 + 2 * (i : Int) + 1⟩) (by simp; omega)
      have r2 : rd_T70 c' (i : Int) = ⟨s, n0 + 2 * (i : Int) + 1⟩ := by
        rw [same i (by omega)]
        exact rd_set_same _ i _ (by simp; omega)
      refine ⟨c', Ev.step (fun k => by rw [laws_markTermS.l0]) ?_, l1, fun j hj => ?_, Ev.step (fun k => by rw [laws_heldTermS.l0]) ?_⟩
      · simp only [c1, if_true]
        refine Ev.then hs ?_
        simp only [c0, if_true, Option.bind_some, r1, w1, w2, w3]
        exact E1
      · rw [same j (by omega)]
        unfold rd_T70
        rw [Int.toNat_natCast, Int.toNat_natCast, List.getD_eq_getElem?_getD, List.getD_eq_getElem?_getD, List.getElem?_set_ne (by omega), List.getElem?_set_ne (by omega), List.getD_eq_getElem?_getD]
      · have c2 : (i : Int) < (c'.length : Int) := by omega
        simp only [c0, c2, if_true]
        refine Ev.then hs ?_
        simp only [r2, if_true, w1, w2, w3]
        exact E2
  obtain ⟨c', E1, _, _, E2⟩ := key l.length 0 (by omega) l rfl
  have e : n0 + 2 * ((0 : Nat) : Int) = n0 := by omega
  rw [e] at E1 E2
  exact ⟨c', E1, E2⟩
theorem laws_marks_aff (c : Int) (l : List S70) (n0 : Int) (hn : 0 ≤ n0) (hn2 : n0 ≤ 1099511627776) (hl : l.length ≤ 1099511627776) :
    ∃ l', Ev (fun k => laws_markAff.f k c l n0) (n0 + 2 * l.length, l') ∧ Ev (fun k => laws_heldAff.f k c l' n0) (n0 + 2 * l.length) := by
  obtain ⟨l', E1, E2⟩ := laws_marks_ev l n0 hn hn2 hl
  have g : ¬ n0 + 2 * (l.length : Int) < 0 := by omega
  refine ⟨l', ?_, ?_⟩
  · unfold laws_markAff.f
    exact Ev.then E1 (Ev.now _)
  · unfold laws_heldAff.f
    refine Ev.then E2 ?_
    simp only [g, if_false]
    exact Ev.now _
theorem addS_len (c : Int) (a : List S70) (d : Int) (b : List S70) (t : Int) : (addS c a d b t).2.1.length ≤ a.length + b.length := by
  unfold addS
  by_cases oa : affOkS S70.f0 S70.f1 c a = true
  · by_cases ob : affOkS S70.f0 S70.f1 d b = true
    · obtain ⟨aa, ma, pa⟩ := affOkS_mem oa
      obtain ⟨ab, mb, pb⟩ := affOkS_mem ob
      have hperm := (sorted_spec _ (mixL_dist (t := t) aa.dist ab.dist fun x hx => (ma x hx).2.1)).2
      have l1 := mixA_len (b := b) (t := t) a
      have l2 := mixB_len (a := a) (t := t) b
      rw [if_pos oa, if_pos ob]
      unfold mixS
      split
      · show (impl_Term_75.sorted (mixL a b t)).length ≤ _
        rw [← hperm.length_eq]
        unfold mixL
        rw [List.length_append]
        omega
      · simp
    · rw [if_pos oa, if_neg ob]
      simp
  · rw [if_neg oa]
    simp
theorem FnExactSubA (a0 : Int) (l : List S92) (a1 : Int) (l2 : List S92) (_ : (Lit.int .i64 a0).wf = true) (hl : l.length ≤ maxLen) (hx : ∀ y ∈ l, y.f0.size ≤ maxLen ∧ (Lit.int .i64 y.f1).wf = true) (_ : (Lit.int .i64 a1).wf = true) (hl2 : l2.length ≤ maxLen) (hx2 : ∀ y ∈ l2, y.f0.size ≤ maxLen ∧ (Lit.int .i64 y.f1).wf = true) :
    ∃ k, laws_FnExactSubA.f k a0 l a1 l2 = some true := by
  have hs : ∀ x ∈ l, x.f0.size ≤ maxLen := fun x h => (hx x h).1
  have hs2 : ∀ x ∈ l2, x.f0.size ≤ maxLen := fun x h => (hx2 x h).1
  apply Ev.rounds
  unfold laws_FnExactSubA.f
  obtain ⟨t, E1, h1⟩ := szAff_ev a0 l hl hs 1048576 (by omega) (by omega)
  refine Ev.then E1 ?_
  by_cases e : t < 0
  · simp only [e, if_true]
    exact Ev.now _
  simp only [e, if_false]
  obtain ⟨t2, E2, h2⟩ := szAff_ev a1 l2 hl2 hs2 t (by omega) (by omega)
  refine Ev.then E2 ?_
  by_cases e2 : t2 < 0
  · simp only [e2, if_true]
    exact Ev.now _
  simp only [e2, if_false]
  have L1 : l.length ≤ 1048576 := by omega
  have L2 : l2.length ≤ 1048576 := by omega
  have ta := toAff_ev a0 l L1
  have tb := toAff_ev a1 l2 L2
  have M1 : (l.map cvTerm).length ≤ 1048579 := by simp; omega
  have M2 : (l2.map cvTerm).length ≤ 1048579 := by simp; omega
  have S1 : ∀ x ∈ l.map cvTerm, x.f0.size ≤ maxLen := fun x hx => by
    obtain ⟨y, hy, rfl⟩ := List.mem_map.1 hx
    exact hs y hy
  have S2 : ∀ x ∈ l2.map cvTerm, x.f0.size ≤ maxLen := fun x hx => by
    obtain ⟨y, hy, rfl⟩ := List.mem_map.1 hx
    exact hs2 y hy
  generalize l.map cvTerm = a at *
  generalize l2.map cvTerm = b at *
  have Es := spec_SubA_ev a0 a a1 b M1 M2 S1 S2
  have Ei := impl_SubA_ev a0 a a1 b M1 M2 S1 S2
  have hlen := addS_len a0 a a1 b (-1)
  generalize addS a0 a a1 b (-1) = r at *
  obtain ⟨c, s, f⟩ := r
  have hlen' : s.length ≤ 2097158 := by
    have : s.length ≤ a.length + b.length := hlen
    omega
  have Q1 := eqAff_ev c s (by simp only [maxLen]; omega)
  have Q2 := eqAff_ev a0 a (by simp only [maxLen]; omega)
  have Q3 := eqAff_ev a1 b (by simp only [maxLen]; omega)
  obtain ⟨x1, K1, _⟩ := laws_marks_aff a0 a 1 (by omega) (by omega) (by omega)
  obtain ⟨x2, K2, _⟩ := laws_marks_aff a1 b (1 + 2 * a.length) (by omega) (by omega) (by omega)
  obtain ⟨x3, K3, H3⟩ := laws_marks_aff c s 1 (by omega) (by omega) (by omega)
  have n1 : ¬ (1 + 2 * (a.length : Int) + 2 * b.length) < 0 := by omega
  have n2 : ¬ (1 + 2 * (s.length : Int)) < 0 := by omega
  refine Ev.then ta (Ev.then tb (Ev.then Es (Ev.then ta (Ev.then tb (Ev.then Ei (Ev.then Q1 ?_))))))
  simp only [if_true, bne_self_eq_false]
  refine Ev.step (fun k => by rw [laws_FnExactSubA.j0]) ?_
  simp only [Bool.false_eq_true, if_false]
  refine Ev.then ta (Ev.then Q2 ?_)
  simp only [if_true]
  refine Ev.then tb (Ev.then Q3 ?_)
  simp only [if_true]
  refine Ev.then K1 (Ev.then K2 ?_)
  simp only [n1, if_false]
  refine Ev.then Q1 ?_
  simp only [if_true, bne_self_eq_false]
  refine Ev.step (fun k => by rw [laws_FnExactSubA.j1]) ?_
  simp only [Bool.false_eq_true, if_false]
  refine Ev.then K3 (Ev.then H3 ?_)
  simp only [n2, if_true, if_false]
  refine Ev.then ta (Ev.then tb (Ev.then Ei (Ev.then Q1 ?_)))
  simp only [if_true, bne_self_eq_false]
  refine Ev.step (fun k => by rw [laws_FnExactSubA.j2]) ?_
  simp only [Bool.false_eq_true, if_false]
  refine Ev.then H3 ?_
  simp only [n2, if_true, if_false]
  exact Ev.now _

end Go.Proofs.Ytmomablfmhkppaa.Pure
