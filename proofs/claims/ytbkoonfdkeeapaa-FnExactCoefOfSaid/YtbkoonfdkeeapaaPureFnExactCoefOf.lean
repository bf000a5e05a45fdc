/- The pure statement of FnExactCoefOf: what the printed functions compute makes the law answer true. Conditions: those in the statement. -/
import Derived.Test.YtbkoonfdkeeapaaLem
import Derived.Test.YtbkoonfdkeeapaaPFnExactCoefOfx0
import Derived.Test.YtbkoonfdkeeapaaPFnExactCoefOfx1
import Derived.Test.YtbkoonfdkeeapaaPFnExactCoefOfx2
namespace Go.Proofs.Ytbkoonfdkeeapaa.Pure
open Go.RowKit Go.Proofs.Ytbkoonfdkeeapaa.PFnExactCoefOf Go.Proofs.YtbkoonfdkeeapaaW.PrintWords Go.Proofs.YtbkoonfdkeeapaaW.PrintLast Go.Proofs.YtbkoonfdkeeapaaW.PrintMore Go.Proofs.Ytbkoonfdkeeapaa.Lem
set_option linter.unusedVariables false
set_option linter.unusedSimpArgs false

def cvTerm (x : S83) : S62 := ⟨x.f0, x.f1⟩
theorem szTerm_one (y : S83) (hs : y.f0.size ≤ maxLen) (a : Int) (h0 : 0 ≤ a) (h1 : a ≤ 1048576) : ∃ t, laws_szTerm.f y.f0 y.f1 a = some t ∧ (t < 0 ∨ 0 ≤ t ∧ t ≤ 1048576) := by
  unfold laws_szTerm.f
  simp only [maxLen] at hs
  rw [w64 (x := a - (y.f0.size : Int)) (by omega) (by omega)]
  by_cases c : a - (y.f0.size : Int) < 0
  · exact ⟨-1, by rw [if_pos c], .inl (by omega)⟩
  · exact ⟨_, by rw [if_neg c], .inr (by omega)⟩
theorem szTermS_ev (l : List S83) (hl : l.length ≤ maxLen) (hs : ∀ x ∈ l, x.f0.size ≤ maxLen) (a : Int) (h0 : 0 ≤ a) (h1 : a ≤ 1048576) :
    ∃ t, Ev (fun k => laws_szTermS.f k l a) t ∧ (t < 0 ∨ 0 ≤ t ∧ t ≤ 1048576 ∧ l.length ≤ 1048576) := by
  unfold laws_szTermS.f
  have hl' := hl
  simp only [maxLen] at hl'
  rw [w64 (x := a - (l.length : Int)) (by omega) (by omega)]
  by_cases c : a - (l.length : Int) < 0
  · simp only [c, if_true]
    exact ⟨-1, Ev.now _, .inl (by omega)⟩
  · simp only [c, if_false]
    have key : ∀ d i, i + d = l.length → ∀ x : Int, 0 ≤ x → x ≤ 1048576 → ∃ t, Ev (fun k => laws_szTermS.l0 k l x (i : Int)) t ∧ (t < 0 ∨ 0 ≤ t ∧ t ≤ 1048576) := by
      intro d
      induction d with
      | zero =>
        intro i hi x hx0 hx1
        refine ⟨x, Ev.step (fun k => by rw [laws_szTermS.l0]) ?_, .inr ⟨hx0, hx1⟩⟩
        have c : ¬ (i : Int) < (l.length : Int) := by omega
        simp only [c, if_false]
        exact Ev.now _
      | succ d ih =>
        intro i hi x hx0 hx1
        have c : (i : Int) < (l.length : Int) := by omega
        have c0 : (0 : Int) ≤ (i : Int) := by omega
        have hw : wrap64 ((i : Int) + 1) = ((i + 1 : Nat) : Int) := wi (n := l.length) (by omega) hl
        have hr : rd_T83 l (i : Int) ∈ l := getD_mem l _ (by omega)
        obtain ⟨t, ht, h2⟩ := szTerm_one (rd_T83 l (i : Int)) (hs _ hr) x hx0 hx1
        by_cases c2 : t < 0
        · refine ⟨-1, Ev.step (fun k => by rw [laws_szTermS.l0]) ?_, .inl (by omega)⟩
          simp only [c, c0, if_true, ht, Option.bind_some, c2]
          exact Ev.now _
        · obtain ⟨q, h3, h4⟩ := ih (i + 1) (by omega) t (by omega) (by omega)
          refine ⟨q, Ev.step (fun k => by rw [laws_szTermS.l0]) ?_, h4⟩
          simp only [c, c0, if_true, ht, Option.bind_some, c2, if_false, hw]
          exact h3
    obtain ⟨t, h2, h3⟩ := key l.length 0 (by omega) (a - (l.length : Int)) (by omega) (by omega)
    exact ⟨t, h2, h3.imp id fun h => ⟨h.1, h.2, by omega⟩⟩
theorem toTermS_ev (l : List S83) (hl : l.length ≤ 1048576) : Ev (fun k => laws_toTermS.f k l) (l.map cvTerm) := by
  unfold laws_toTermS.f
  have c1 : (0 : Int) ≤ (l.length : Int) := by omega
  have c2 : ((l.length : Int) : Int).toNat ≤ 11728124029610 := by omega
  simp only [c1, c2, if_true]
  have key : ∀ d i, i + d = l.length → Ev (fun k => laws_toTermS.l0 k l ((l.take i).map cvTerm ++ List.replicate d z62) (i : Int)) (l.map cvTerm) := by
    intro d
    induction d with
    | zero =>
      intro i hi
      refine Ev.step (fun k => by rw [laws_toTermS.l0]) ?_
      have c : ¬ (i : Int) < (l.length : Int) := by omega
      simp only [c, if_false]
      have : l.take i = l := List.take_of_length_le (by omega)
      rw [this]
      simpa using Ev.now (List.map cvTerm l)
    | succ d ih =>
      intro i hi
      refine Ev.step (fun k => by rw [laws_toTermS.l0]) ?_
      have c : (i : Int) < (l.length : Int) := by omega
      have c0 : (0 : Int) ≤ (i : Int) := by omega
      have hw : wrap64 ((i : Int) + 1) = ((i + 1 : Nat) : Int) := wi (n := l.length) (by omega) (by simp only [maxLen]; omega)
      have c3 : (i : Int) < ((((l.take i).map cvTerm ++ List.replicate (d + 1) z62).length : Nat) : Int) := by
        rw [List.length_append, List.length_map, List.length_take, List.length_replicate]
        omega
      simp only [c, c0, if_true, laws_toTerm.f, Option.bind_some, c3, hw]
      have e : (((l.take i).map cvTerm ++ List.replicate (d + 1) z62).set ((i : Int) : Int).toNat (cvTerm (rd_T83 l (i : Int)))) = (l.take (i + 1)).map cvTerm ++ List.replicate d z62 := by
        have hg : rd_T83 l (i : Int) = l[i]'(by omega) := by
          simp [rd_T83, List.getElem?_eq_getElem (show i < l.length by omega)]
        rw [hg, Int.toNat_natCast, List.take_add_one, List.getElem?_eq_getElem (show i < l.length by omega)]
        rw [List.set_append_right _ _ (by simp; omega)]
        have : i - ((l.take i).map cvTerm).length = 0 := by simp; omega
        rw [this, List.replicate_succ, List.set_cons_zero]
        simp only [Option.toList_some, List.map_append, List.map_cons, List.map_nil, List.append_assoc, List.cons_append, List.nil_append]
      have h2 := ih (i + 1) (by omega)
      rw [← e] at h2
      exact h2
  have h0 := key l.length 0 (by omega)
  simpa using h0
theorem eqTerm_one (x : S62) : laws_eqTerm.f x.f0 x.f1 x.f0 x.f1 = some true := by
  unfold laws_eqTerm.f
  simp
theorem eqTermS_ev (l : List S62) (hl : l.length ≤ maxLen) : Ev (fun k => laws_eqTermS.f k l l) true := by
  unfold laws_eqTermS.f
  simp only [if_true]
  have key : ∀ d i, i + d = l.length → Ev (fun k => laws_eqTermS.l0 k l l (i : Int)) true := by
    intro d
    induction d with
    | zero =>
      intro i hi
      refine Ev.step (fun k => by rw [laws_eqTermS.l0]) ?_
      have c : ¬ (i : Int) < (l.length : Int) := by omega
      simp only [c, if_false]
      exact Ev.now _
    | succ d ih =>
      intro i hi
      refine Ev.step (fun k => by rw [laws_eqTermS.l0]) ?_
      have c : (i : Int) < (l.length : Int) := by omega
      have c0 : (0 : Int) ≤ (i : Int) := by omega
      have hw : wrap64 ((i : Int) + 1) = ((i + 1 : Nat) : Int) := wi (n := l.length) (by omega) hl
      simp only [c, c0, if_true, eqTerm_one (rd_T62 l (i : Int)), Option.bind_some, hw]
      exact ih (i + 1) (by omega)
  exact key l.length 0 (by omega)
theorem szAff_ev (c : Int) (l : List S83) (hl : l.length ≤ maxLen) (hs : ∀ x ∈ l, x.f0.size ≤ maxLen) (a : Int) (h0 : 0 ≤ a) (h1 : a ≤ 1048576) :
    ∃ t, Ev (fun k => laws_szAff.f k c l a) t ∧ (t < 0 ∨ 0 ≤ t ∧ t ≤ 1048576 ∧ l.length ≤ 1048576) := by
  unfold laws_szAff.f
  obtain ⟨t, h2, h3⟩ := szTermS_ev l hl hs a h0 h1
  by_cases e : t < 0
  · refine ⟨-1, Ev.then h2 ?_, .inl (by omega)⟩
    simp only [e, if_true]
    exact Ev.now _
  · refine ⟨t, Ev.then h2 ?_, h3⟩
    simp only [e, if_false]
    exact Ev.now _
theorem toAff_ev (c : Int) (l : List S83) (hl : l.length ≤ 1048576) : Ev (fun k => laws_toAff.f k c l) (c, l.map cvTerm) := by
  unfold laws_toAff.f
  exact Ev.then (toTermS_ev l hl) (Ev.now _)
theorem eqAff_ev (c : Int) (l : List S62) (hl : l.length ≤ maxLen) : Ev (fun k => laws_eqAff.f k c l c l) true := by
  unfold laws_eqAff.f
  simp only [if_true]
  refine Ev.then (eqTermS_ev l hl) ?_
  simp only [if_true]
  exact Ev.now _
theorem spec_CoefOf_ev (c : Int) (l : List S62) (s : ByteArray) (hl : l.length ≤ maxLen) : Ev (fun k => spec_CoefOf.f k c l s) (coefL S62.f0 S62.f1 l s) := by
  unfold spec_CoefOf.f
  have key : ∀ d i, i + d = l.length → Ev (fun k => spec_CoefOf.l0 k s (i : Int) c l) (coefL S62.f0 S62.f1 (l.drop i) s) := by
    intro d
    induction d with
    | zero =>
      intro i hi
      refine Ev.step (fun k => by rw [spec_CoefOf.l0]) ?_
      have c : ¬ (i : Int) < (l.length : Int) := by omega
      simp only [c, if_false]
      rw [List.drop_eq_nil_of_le (by omega)]
      exact Ev.now _
    | succ d ih =>
      intro i hi
      refine Ev.step (fun k => by rw [spec_CoefOf.l0]) ?_
      have c : (i : Int) < (l.length : Int) := by omega
      have c0 : (0 : Int) ≤ (i : Int) := by omega
      have hw : wrap64 ((i : Int) + 1) = ((i + 1 : Nat) : Int) := wi (n := l.length) (by omega) hl
      have hd : l.drop i = rd_T62 l (i : Int) :: l.drop (i + 1) := drop_cons l _ (by omega)
      rw [hd]
      simp only [c, c0, if_true, hw, coefL]
      by_cases e : (rd_T62 l (i : Int)).f0.toList = s.toList
      · simp only [e, if_true]
        exact Ev.now _
      · simp only [e, if_false]
        exact ih (i + 1) (by omega)
  exact key l.length 0 (by omega)
theorem impl_CoefOf_ev (c : Int) (l : List S62) (s : ByteArray) (hl : l.length ≤ maxLen) : Ev (fun k => impl_CoefOf.f k c l s) (coefL S62.f0 S62.f1 l s) := by
  unfold impl_CoefOf.f
  have key : ∀ d i, i + d = l.length → Ev (fun k => impl_CoefOf.l0 k s l (l.length : Int) (i : Int)) (coefL S62.f0 S62.f1 (l.drop i) s) := by
    intro d
    induction d with
    | zero =>
      intro i hi
      refine Ev.step (fun k => by rw [impl_CoefOf.l0]) ?_
      have c : ¬ (i : Int) < (l.length : Int) := by omega
      simp only [c, if_false]
      rw [List.drop_eq_nil_of_le (by omega)]
      exact Ev.now _
    | succ d ih =>
      intro i hi
      refine Ev.step (fun k => by rw [impl_CoefOf.l0]) ?_
      have c : (i : Int) < (l.length : Int) := by omega
      have c0 : (0 : Int) ≤ (i : Int) := by omega
      have hw : wrap64 ((i : Int) + 1) = ((i + 1 : Nat) : Int) := wi (n := l.length) (by omega) hl
      have hd : l.drop i = rd_T62 l (i : Int) :: l.drop (i + 1) := drop_cons l _ (by omega)
      rw [hd]
      simp only [c, c0, if_true, hw, coefL]
      by_cases e : (rd_T62 l (i : Int)).f0.toList = s.toList
      · simp only [e, if_true]
        exact Ev.now _
      · simp only [e, if_false]
        exact ih (i + 1) (by omega)
  exact key l.length 0 (by omega)
theorem FnExactCoefOf (a0 : Int) (l : List S83) (s : ByteArray) (_ : (Lit.int .i64 a0).wf = true) (hl : l.length ≤ maxLen) (hx : ∀ y ∈ l, y.f0.size ≤ maxLen ∧ (Lit.int .i64 y.f1).wf = true) (_ : s.size ≤ maxLen) :
    ∃ k, laws_FnExactCoefOf.f k a0 l s = some true := by
  have hs : ∀ x ∈ l, x.f0.size ≤ maxLen := fun x h => (hx x h).1
  apply Ev.rounds
  unfold laws_FnExactCoefOf.f
  by_cases c : (s.size : Int) > 1048576
  · simp only [c, if_true]
    exact Ev.now _
  · simp only [c, if_false]
    obtain ⟨t, h1, h2⟩ := szAff_ev a0 l hl hs 1048576 (by omega) (by omega)
    refine Ev.then h1 ?_
    by_cases e : t < 0
    · simp only [e, if_true]
      exact Ev.now _
    · simp only [e, if_false]
      have h3 : l.length ≤ 1048576 := by omega
      have h4 : (l.map cvTerm).length ≤ maxLen := by simp [maxLen]; omega
      have ta := toAff_ev a0 l h3
      refine Ev.then ta (Ev.then (spec_CoefOf_ev _ _ _ h4) (Ev.then ta (Ev.then (impl_CoefOf_ev _ _ _ h4) ?_)))
      simp only [if_true]
      refine Ev.then ta (Ev.then (eqAff_ev _ _ h4) ?_)
      simp only [if_true]
      exact Ev.now _

end Go.Proofs.Ytbkoonfdkeeapaa.Pure
