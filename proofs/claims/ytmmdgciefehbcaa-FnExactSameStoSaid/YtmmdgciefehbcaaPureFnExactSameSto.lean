/- The pure statement of FnExactSameSto: what the printed functions compute makes the law answer true. Conditions: those in the statement. -/
import Derived.Test.YtmmdgciefehbcaaLem
import Derived.Test.YtmmdgciefehbcaaPFnExactSameStox0
import Derived.Test.YtmmdgciefehbcaaPFnExactSameStox1
import Derived.Test.YtmmdgciefehbcaaPFnExactSameStox2
import Derived.Test.YtmmdgciefehbcaaPFnExactSameStox3
import Derived.Test.YtmmdgciefehbcaaPFnExactSameStox4
import Derived.Test.YtmmdgciefehbcaaPFnExactSameStox5
namespace Go.Proofs.Ytmmdgciefehbcaa.Pure
open Go.RowKit Go.Proofs.Ytmmdgciefehbcaa.PFnExactSameSto Go.Proofs.YtmmdgciefehbcaaW.PrintWords Go.Proofs.YtmmdgciefehbcaaW.PrintLast Go.Proofs.YtmmdgciefehbcaaW.PrintMore Go.Proofs.Ytmmdgciefehbcaa.Lem
set_option linter.unusedVariables false
set_option linter.unusedSimpArgs false

theorem szIntS_eq (l : List Int) (hl : l.length ≤ maxLen) (a : Int) (h0 : 0 ≤ a) (h1 : a ≤ 1048576) : ∃ t, laws_szIntS.f l a = some t ∧ (t < 0 ∨ 0 ≤ t ∧ t ≤ 1048576 ∧ l.length ≤ 1048576) := by
  simp only [maxLen] at hl
  unfold laws_szIntS.f
  rw [w64 (by omega) (by omega)]
  by_cases c : a - (l.length : Int) < 0
  · rw [if_pos c]
    exact ⟨-1, rfl, .inl (by omega)⟩
  · rw [if_neg c]
    exact ⟨_, rfl, .inr ⟨by omega, by omega, by omega⟩⟩
theorem szIntSS_ev (l : List (List Int)) (hl : l.length ≤ maxLen) (hy : ∀ y ∈ l, y.length ≤ maxLen) (a : Int) (h0 : 0 ≤ a) (h1 : a ≤ 1048576) :
    ∃ t, Ev (fun k => laws_szIntSS.f k l a) t ∧ (t < 0 ∨ 0 ≤ t ∧ t ≤ 1048576 ∧ l.length ≤ 1048576 ∧ ∀ y ∈ l, y.length ≤ 1048576) := by
  have key : ∀ d i, i + d = l.length → ∀ b : Int, 0 ≤ b → b ≤ 1048576 → ∃ t, Ev (fun k => laws_szIntSS.l0 k l b (i : Int)) t ∧ (t < 0 ∨ 0 ≤ t ∧ t ≤ 1048576 ∧ ∀ y ∈ l.drop i, y.length ≤ 1048576) := by
    intro d
    induction d with
    | zero =>
      intro i hi b hb0 hb1
      refine ⟨b, Ev.step (fun k => by rw [laws_szIntSS.l0]) ?_, .inr ⟨hb0, hb1, by rw [List.drop_eq_nil_of_le (by omega)]; simp⟩⟩
      have c : ¬ (i : Int) < (l.length : Int) := by omega
      simp only [c, if_false]
      exact Ev.now _
    | succ d ihd =>
      intro i hi b hb0 hb1
      have c : (i : Int) < (l.length : Int) := by omega
      have c0 : (0 : Int) ≤ (i : Int) := by omega
      have hw : wrap64 ((i : Int) + 1) = ((i + 1 : Nat) : Int) := wi (n := l.length) (by omega) hl
      have hd : l.drop i = rd_L1 l (i : Int) :: l.drop (i + 1) := by
        unfold rd_L1
        rw [Int.toNat_natCast]
        exact drop_cons l _ (by omega)
      have hm : rd_L1 l (i : Int) ∈ l := by
        unfold rd_L1
        rw [Int.toNat_natCast]
        exact getD_mem l _ (by omega)
      obtain ⟨t, ht, h2⟩ := szIntS_eq _ (hy _ hm) b hb0 hb1
      by_cases c2 : t < 0
      · refine ⟨-1, Ev.step (fun k => by rw [laws_szIntSS.l0]) ?_, .inl (by omega)⟩
        simp only [c, c0, if_true, ht, Option.bind_some, c2]
        exact Ev.now _
      · have h2' := h2.resolve_left c2
        obtain ⟨q, h3, h4⟩ := ihd (i + 1) (by omega) t h2'.1 h2'.2.1
        refine ⟨q, Ev.step (fun k => by rw [laws_szIntSS.l0]) ?_, h4.imp id fun h => ⟨h.1, h.2.1, ?_⟩⟩
        · simp only [c, c0, if_true, ht, Option.bind_some, c2, if_false, hw]
          exact h3
        · rw [hd]
          intro y hy
          rcases List.mem_cons.1 hy with rfl | hy
          · exact h2'.2.2
          · exact h.2.2 y hy
  have hl' := hl
  simp only [maxLen] at hl'
  unfold laws_szIntSS.f
  have w1 : wrap64 (a - (l.length : Int)) = a - (l.length : Int) := w64 (by omega) (by omega)
  by_cases c : a - (l.length : Int) < 0
  · refine ⟨-1, ?_, .inl (by omega)⟩
    simp only [w1, c, if_true]
    exact Ev.now _
  · obtain ⟨t, h3, h4⟩ := key l.length 0 (by omega) _ (show 0 ≤ a - (l.length : Int) by omega) (by omega)
    refine ⟨t, ?_, h4.imp id fun h => ⟨h.1, h.2.1, by omega, by simpa using h.2.2⟩⟩
    simp only [w1, c, if_false]
    exact h3
theorem toIntS_ev (l : List Int) (h : l.length ≤ 1048576) : Ev (fun k => laws_toIntS.f k l) l := by
  unfold laws_toIntS.f
  have c1 : (0 : Int) ≤ (l.length : Int) := by omega
  have c2 : l.length ≤ 35184372088832 := by omega
  simp only [c1, Int.toNat_natCast, c2, if_true]
  refine Ev.fill (g := fun k xs i => laws_toIntS.l0 k l xs i) l rfl 0 ?_ ?_
  · intro i xs hi hxs r hr
    have c : (i : Int) < (l.length : Int) := by omega
    have c0 : (0 : Int) ≤ (i : Int) := by omega
    have c3 : (i : Int) < (xs.length : Int) := by omega
    have hw : wrap64 ((i : Int) + 1) = ((i + 1 : Nat) : Int) := wi (n := l.length) hi (by simp only [maxLen]; omega)
    refine Ev.step (fun k => by rw [laws_toIntS.l0]) ?_
    simp only [c, c0, c3, if_true, hw, Int.toNat_natCast]
    exact hr
  · intro xs hxs
    refine Ev.step (fun k => by rw [laws_toIntS.l0]) ?_
    have c : ¬ (l.length : Int) < (l.length : Int) := by omega
    simp only [c, if_false]
    exact Ev.now _
theorem toIntSS_ev (l : List (List Int)) (h : l.length ≤ 1048576) (hy : ∀ y ∈ l, y.length ≤ 1048576) : Ev (fun k => laws_toIntSS.f k l) l := by
  unfold laws_toIntSS.f
  have c1 : (0 : Int) ≤ (l.length : Int) := by omega
  have c2 : l.length ≤ 11728124029610 := by omega
  simp only [c1, Int.toNat_natCast, c2, if_true]
  refine Ev.fill (g := fun k xs i => laws_toIntSS.l0 k l xs i) l rfl [] ?_ ?_
  · intro i xs hi hxs r hr
    have c : (i : Int) < (l.length : Int) := by omega
    have c0 : (0 : Int) ≤ (i : Int) := by omega
    have c3 : (i : Int) < (xs.length : Int) := by omega
    have hw : wrap64 ((i : Int) + 1) = ((i + 1 : Nat) : Int) := wi (n := l.length) hi (by simp only [maxLen]; omega)
    have e : rd_L1 l (i : Int) = l.getD i [] := by
      unfold rd_L1
      rw [Int.toNat_natCast]
    refine Ev.step (fun k => by rw [laws_toIntSS.l0]) ?_
    simp only [c, c0, c3, if_true, hw, Int.toNat_natCast]
    refine Ev.then (toIntS_ev _ (by rw [e]; exact hy _ (getD_mem l _ hi))) ?_
    rw [e]
    exact hr
  · intro xs hxs
    refine Ev.step (fun k => by rw [laws_toIntSS.l0]) ?_
    have c : ¬ (l.length : Int) < (l.length : Int) := by omega
    simp only [c, if_false]
    exact Ev.now _
def sameI (l m : List Int) : Bool := if (l.length : Int) = (m.length : Int) then (List.range l.length).all (fun i => decide (rd l (i : Int) = rd m (i : Int))) else false
theorem spec_sameI_ev (l m : List Int) (hl : l.length ≤ maxLen) : Ev (fun k => spec_l7SameInts.f k l m) (sameI l m) := by
  unfold spec_l7SameInts.f sameI
  by_cases e : (l.length : Int) = (m.length : Int)
  · simp only [eq_true e, if_true]
    refine Ev.all (g := fun k i => spec_l7SameInts.l0 k l m i) _ ?_ ?_ ?_
    · intro i hi hp r hr
      have c : (i : Int) < (l.length : Int) := by omega
      have c0 : (0 : Int) ≤ (i : Int) := by omega
      have c3 : (i : Int) < (m.length : Int) := by omega
      have hw : wrap64 ((i : Int) + 1) = ((i + 1 : Nat) : Int) := wi (n := l.length) hi hl
      refine Ev.step (fun k => by rw [spec_l7SameInts.l0]) ?_
      simp only [c, c0, c3, if_true, hw, eq_true (of_decide_eq_true hp)]
      exact hr
    · intro i hi hp
      have c : (i : Int) < (l.length : Int) := by omega
      have c0 : (0 : Int) ≤ (i : Int) := by omega
      have c3 : (i : Int) < (m.length : Int) := by omega
      refine Ev.step (fun k => by rw [spec_l7SameInts.l0]) ?_
      simp only [c, c0, c3, if_true, eq_false (of_decide_eq_false hp), if_false]
      exact Ev.now _
    · refine Ev.step (fun k => by rw [spec_l7SameInts.l0]) ?_
      have c : ¬ (l.length : Int) < (l.length : Int) := by omega
      simp only [c, if_false]
      exact Ev.now _
  · simp only [eq_false e, if_false]
    exact Ev.now _
theorem impl_sameI_ev (l m : List Int) (hl : l.length ≤ maxLen) : Ev (fun k => slices_Equal_int_int.f k l m) (sameI l m) := by
  unfold slices_Equal_int_int.f sameI
  by_cases e : (l.length : Int) = (m.length : Int)
  · simp only [eq_true e, if_true]
    refine Ev.all (g := fun k i => slices_Equal_int_int.l0 k l m (l.length : Int) i) _ ?_ ?_ ?_
    · intro i hi hp r hr
      have c : (i : Int) < (l.length : Int) := by omega
      have c0 : (0 : Int) ≤ (i : Int) := by omega
      have c3 : (i : Int) < (m.length : Int) := by omega
      have hw : wrap64 ((i : Int) + 1) = ((i + 1 : Nat) : Int) := wi (n := l.length) hi hl
      refine Ev.step (fun k => by rw [slices_Equal_int_int.l0]) ?_
      simp only [c, c0, c3, if_true, hw, eq_true (of_decide_eq_true hp)]
      exact hr
    · intro i hi hp
      have c : (i : Int) < (l.length : Int) := by omega
      have c0 : (0 : Int) ≤ (i : Int) := by omega
      have c3 : (i : Int) < (m.length : Int) := by omega
      refine Ev.step (fun k => by rw [slices_Equal_int_int.l0]) ?_
      simp only [c, c0, c3, if_true, eq_false (of_decide_eq_false hp), if_false]
      exact Ev.now _
    · refine Ev.step (fun k => by rw [slices_Equal_int_int.l0]) ?_
      have c : ¬ (l.length : Int) < (l.length : Int) := by omega
      simp only [c, if_false]
      exact Ev.now _
  · simp only [eq_false e, if_false]
    exact Ev.now _
theorem eqIntS_ev (l : List Int) (hl : l.length ≤ maxLen) : Ev (fun k => laws_eqIntS.f k l l) true := by
  unfold laws_eqIntS.f
  simp only [if_true]
  refine Ev.allT (g := fun k i => laws_eqIntS.l0 k l l i) (n := l.length) ?_ ?_
  · intro i hi r hr
    have c : (i : Int) < (l.length : Int) := by omega
    have c0 : (0 : Int) ≤ (i : Int) := by omega
    have hw : wrap64 ((i : Int) + 1) = ((i + 1 : Nat) : Int) := wi (n := l.length) hi hl
    refine Ev.step (fun k => by rw [laws_eqIntS.l0]) ?_
    simp only [c, c0, if_true, hw]
    exact hr
  · refine Ev.step (fun k => by rw [laws_eqIntS.l0]) ?_
    have c : ¬ (l.length : Int) < (l.length : Int) := by omega
    simp only [c, if_false]
    exact Ev.now _
theorem eqIntSS_ev (l : List (List Int)) (hl : l.length ≤ maxLen) (hy : ∀ y ∈ l, y.length ≤ maxLen) : Ev (fun k => laws_eqIntSS.f k l l) true := by
  unfold laws_eqIntSS.f
  simp only [if_true]
  refine Ev.allT (g := fun k i => laws_eqIntSS.l0 k l l i) (n := l.length) ?_ ?_
  · intro i hi r hr
    have c : (i : Int) < (l.length : Int) := by omega
    have c0 : (0 : Int) ≤ (i : Int) := by omega
    have hw : wrap64 ((i : Int) + 1) = ((i + 1 : Nat) : Int) := wi (n := l.length) hi hl
    have hm : rd_L1 l (i : Int) ∈ l := by
      unfold rd_L1
      rw [Int.toNat_natCast]
      exact getD_mem l _ hi
    refine Ev.step (fun k => by rw [laws_eqIntSS.l0]) ?_
    simp only [c, c0, if_true, hw]
    refine Ev.then (eqIntS_ev _ (hy _ hm)) ?_
    simp only [if_true]
    exact hr
  · refine Ev.step (fun k => by rw [laws_eqIntSS.l0]) ?_
    have c : ¬ (l.length : Int) < (l.length : Int) := by omega
    simp only [c, if_false]
    exact Ev.now _
def sameII (l m : List (List Int)) : Bool := (List.range l.length).all (fun i => sameI (rd_L1 l (i : Int)) (rd_L1 m (i : Int)))
theorem rdL_mem {l : List (List Int)} {i : Nat} (hi : i < l.length) : rd_L1 l (i : Int) ∈ l := by
  unfold rd_L1
  rw [Int.toNat_natCast]
  exact getD_mem l _ hi
def sameSto (a : List (List Int)) (b c : List Int) (d : Int) (a' : List (List Int)) (b' c' : List Int) (d' : Int) : Bool :=
  if (a.length : Int) = (a'.length : Int) then (sameI b b' && sameI c c' && decide (d = d') && sameII a a') else false
theorem spec_SameSto_ev (a : List (List Int)) (b c : List Int) (d : Int) (a' : List (List Int)) (b' c' : List Int) (d' : Int) (ha : a.length ≤ maxLen) (hy : ∀ y ∈ a, y.length ≤ maxLen) (hb : b.length ≤ maxLen) (hc : c.length ≤ maxLen) :
    Ev (fun k => spec_SameSto.f k a b c d a' b' c' d') (sameSto a b c d a' b' c' d') := by
  have bad : Ev (fun k => spec_SameSto.j0 k true a b c d a' b' c' d') false := by
    refine Ev.step (fun k => by rw [spec_SameSto.j0]) ?_
    simp only [if_true]
    exact Ev.now _
  unfold spec_SameSto.f sameSto
  by_cases e : (a.length : Int) = (a'.length : Int)
  · simp only [eq_true e, if_true]
    refine Ev.then (spec_sameI_ev b b' hb) ?_
    cases sameI b b' with
    | false =>
      simp only [Bool.false_eq_true, if_false, Bool.false_and]
      exact bad
    | true =>
      simp only [if_true, Bool.true_and]
      refine Ev.then (spec_sameI_ev c c' hc) ?_
      cases sameI c c' with
      | false =>
        simp only [Bool.false_eq_true, if_false, Bool.false_and]
        exact bad
      | true =>
        simp only [if_true, Bool.true_and]
        by_cases e2 : d = d'
        · have e2b : (d != d') = false := bne_eq_false_iff_eq.mpr e2
          simp only [e2b, eq_true e2, decide_true, Bool.true_and]
          refine Ev.step (fun k => by rw [spec_SameSto.j0]) ?_
          simp only [Bool.false_eq_true, if_false]
          refine Ev.all (g := fun k i => spec_SameSto.l0 k i a b c d a' b' c' d') _ ?_ ?_ ?_
          · intro i hi hp r hr
            have c0 : (i : Int) < (a.length : Int) := by omega
            have c1 : (0 : Int) ≤ (i : Int) := by omega
            have c3 : (i : Int) < (a'.length : Int) := by omega
            have hw : wrap64 ((i : Int) + 1) = ((i + 1 : Nat) : Int) := wi (n := a.length) hi ha
            refine Ev.step (fun k => by rw [spec_SameSto.l0]) ?_
            simp only [c0, c1, c3, if_true, hw]
            refine Ev.then (spec_sameI_ev _ _ (hy _ (rdL_mem hi))) ?_
            simp only [hp, if_true]
            exact hr
          · intro i hi hp
            have c0 : (i : Int) < (a.length : Int) := by omega
            have c1 : (0 : Int) ≤ (i : Int) := by omega
            have c3 : (i : Int) < (a'.length : Int) := by omega
            refine Ev.step (fun k => by rw [spec_SameSto.l0]) ?_
            simp only [c0, c1, c3, if_true]
            refine Ev.then (spec_sameI_ev _ _ (hy _ (rdL_mem hi))) ?_
            simp only [hp, Bool.false_eq_true, if_false]
            exact Ev.now _
          · refine Ev.step (fun k => by rw [spec_SameSto.l0]) ?_
            have c : ¬ (a.length : Int) < (a.length : Int) := by omega
            simp only [c, if_false]
            exact Ev.now _
        · have e2b : (d != d') = true := bne_iff_ne.mpr e2
          simp only [e2b, eq_false e2, decide_false, Bool.false_and]
          exact bad
  · simp only [eq_false e, if_false]
    exact bad
theorem impl_SameSto_ev (a : List (List Int)) (b c : List Int) (d : Int) (a' : List (List Int)) (b' c' : List Int) (d' : Int) (ha : a.length ≤ maxLen) (hy : ∀ y ∈ a, y.length ≤ maxLen) (hb : b.length ≤ maxLen) (hc : c.length ≤ maxLen) :
    Ev (fun k => impl_SameSto.f k a b c d a' b' c' d') (sameSto a b c d a' b' c' d') := by
  have main : Ev (fun k => slices_EqualFunc_int_int_int_int.f k a a') (if (a.length : Int) = (a'.length : Int) then sameII a a' else false) := by
    unfold slices_EqualFunc_int_int_int_int.f
    by_cases e : (a.length : Int) = (a'.length : Int)
    · simp only [eq_true e, if_true]
      refine Ev.all (g := fun k i => slices_EqualFunc_int_int_int_int.l0 k a' a (a.length : Int) i) _ ?_ ?_ ?_
      · intro i hi hp r hr
        have c0 : (i : Int) < (a.length : Int) := by omega
        have c1 : (0 : Int) ≤ (i : Int) := by omega
        have c3 : (i : Int) < (a'.length : Int) := by omega
        have hw : wrap64 ((i : Int) + 1) = ((i + 1 : Nat) : Int) := wi (n := a.length) hi ha
        refine Ev.step (fun k => by rw [slices_EqualFunc_int_int_int_int.l0]) ?_
        simp only [c0, c1, c3, if_true, hw]
        refine Ev.then (impl_sameI_ev _ _ (hy _ (rdL_mem hi))) ?_
        simp only [hp, if_true]
        exact hr
      · intro i hi hp
        have c0 : (i : Int) < (a.length : Int) := by omega
        have c1 : (0 : Int) ≤ (i : Int) := by omega
        have c3 : (i : Int) < (a'.length : Int) := by omega
        refine Ev.step (fun k => by rw [slices_EqualFunc_int_int_int_int.l0]) ?_
        simp only [c0, c1, c3, if_true]
        refine Ev.then (impl_sameI_ev _ _ (hy _ (rdL_mem hi))) ?_
        simp only [hp, Bool.false_eq_true, if_false]
        exact Ev.now _
      · refine Ev.step (fun k => by rw [slices_EqualFunc_int_int_int_int.l0]) ?_
        have c : ¬ (a.length : Int) < (a.length : Int) := by omega
        simp only [c, if_false]
        exact Ev.now _
    · simp only [eq_false e, if_false]
      exact Ev.now _
  unfold impl_SameSto.f sameSto
  by_cases e2 : d = d'
  · simp only [eq_true e2, if_true, decide_true, Bool.and_true]
    refine Ev.then (impl_sameI_ev b b' hb) ?_
    cases sameI b b' with
    | false =>
      simp only [Bool.false_eq_true, if_false, Bool.false_and, ite_self]
      exact Ev.now _
    | true =>
      simp only [if_true, Bool.true_and]
      refine Ev.then (impl_sameI_ev c c' hc) ?_
      cases sameI c c' with
      | false =>
        simp only [Bool.false_eq_true, if_false, Bool.false_and, ite_self]
        exact Ev.now _
      | true =>
        simp only [if_true, Bool.true_and]
        exact Ev.then main (Ev.now _)
  · simp only [eq_false e2, if_false, decide_false, Bool.and_false, Bool.false_and, ite_self]
    exact Ev.now _
theorem szSto_ev (a : List (List Int)) (b c : List Int) (d : Int) (ha : a.length ≤ maxLen) (hy : ∀ y ∈ a, y.length ≤ maxLen) (hb : b.length ≤ maxLen) (hc : c.length ≤ maxLen) (q : Int) (h0 : 0 ≤ q) (h1 : q ≤ 1048576) :
    ∃ t, Ev (fun k => laws_szSto.f k a b c d q) t ∧ (t < 0 ∨ 0 ≤ t ∧ t ≤ 1048576 ∧ a.length ≤ 1048576 ∧ (∀ y ∈ a, y.length ≤ 1048576) ∧ b.length ≤ 1048576 ∧ c.length ≤ 1048576) := by
  unfold laws_szSto.f
  obtain ⟨t, h2, h3⟩ := szIntSS_ev a ha hy q h0 h1
  by_cases c1 : t < 0
  · refine ⟨-1, Ev.then h2 ?_, .inl (by omega)⟩
    simp only [c1, if_true]
    exact Ev.now _
  have h3' := h3.resolve_left c1
  obtain ⟨t2, h4, h5⟩ := szIntS_eq b hb t h3'.1 h3'.2.1
  by_cases c2 : t2 < 0
  · refine ⟨-1, Ev.then h2 ?_, .inl (by omega)⟩
    simp only [c1, if_false, h4, Option.bind_some, c2, if_true]
    exact Ev.now _
  have h5' := h5.resolve_left c2
  obtain ⟨t3, h6, h7⟩ := szIntS_eq c hc t2 h5'.1 h5'.2.1
  by_cases c3 : t3 < 0
  · refine ⟨-1, Ev.then h2 ?_, .inl (by omega)⟩
    simp only [c1, if_false, h4, Option.bind_some, c2, h6, c3, if_true]
    exact Ev.now _
  have h7' := h7.resolve_left c3
  refine ⟨t3, Ev.then h2 ?_, .inr ⟨h7'.1, h7'.2.1, h3'.2.2.1, h3'.2.2.2, h5'.2.2, h7'.2.2⟩⟩
  simp only [c1, if_false, h4, Option.bind_some, c2, h6, c3]
  exact Ev.now _
theorem toSto_ev (a : List (List Int)) (b c : List Int) (d : Int) (ha : a.length ≤ 1048576) (hy : ∀ y ∈ a, y.length ≤ 1048576) (hb : b.length ≤ 1048576) (hc : c.length ≤ 1048576) : Ev (fun k => laws_toSto.f k a b c d) (a, b, c, d) := by
  unfold laws_toSto.f
  exact Ev.then (toIntSS_ev a ha hy) (Ev.then (toIntS_ev b hb) (Ev.then (toIntS_ev c hc) (Ev.now _)))
theorem eqSto_ev (a : List (List Int)) (b c : List Int) (d : Int) (ha : a.length ≤ maxLen) (hy : ∀ y ∈ a, y.length ≤ maxLen) (hb : b.length ≤ maxLen) (hc : c.length ≤ maxLen) : Ev (fun k => laws_eqSto.f k a b c d a b c d) true := by
  unfold laws_eqSto.f
  refine Ev.then (eqIntSS_ev a ha hy) ?_
  simp only [if_true]
  refine Ev.then (eqIntS_ev b hb) ?_
  simp only [if_true]
  refine Ev.then (eqIntS_ev c hc) ?_
  simp only [if_true]
  exact Ev.now _
theorem FnExactSameSto (a : List (List Int)) (b c : List Int) (d : Int) (a' : List (List Int)) (b' c' : List Int) (d' : Int)
    (ha : a.length ≤ maxLen) (hy : ∀ y ∈ a, y.length ≤ maxLen ∧ ∀ z ∈ y, (Lit.int .i64 z).wf = true) (hb : b.length ≤ maxLen) (_ : ∀ z ∈ b, (Lit.int .i64 z).wf = true) (hc : c.length ≤ maxLen) (_ : ∀ z ∈ c, (Lit.int .i64 z).wf = true) (_ : (Lit.int .i64 d).wf = true)
    (ha' : a'.length ≤ maxLen) (hy' : ∀ y ∈ a', y.length ≤ maxLen ∧ ∀ z ∈ y, (Lit.int .i64 z).wf = true) (hb' : b'.length ≤ maxLen) (_ : ∀ z ∈ b', (Lit.int .i64 z).wf = true) (hc' : c'.length ≤ maxLen) (_ : ∀ z ∈ c', (Lit.int .i64 z).wf = true) (_ : (Lit.int .i64 d').wf = true) :
    ∃ k, laws_FnExactSameSto.f k a b c d a' b' c' d' = some true := by
  have y1 : ∀ y ∈ a, y.length ≤ maxLen := fun y h => (hy y h).1
  have y2 : ∀ y ∈ a', y.length ≤ maxLen := fun y h => (hy' y h).1
  apply Ev.rounds
  unfold laws_FnExactSameSto.f
  obtain ⟨t, h1, h2⟩ := szSto_ev a b c d ha y1 hb hc 1048576 (by omega) (by omega)
  refine Ev.then h1 ?_
  by_cases e : t < 0
  · simp only [e, if_true]
    exact Ev.now _
  simp only [e, if_false]
  obtain ⟨p0, p1, p2, p3, p4, p5⟩ := h2.resolve_left e
  obtain ⟨q, h3, h4⟩ := szSto_ev a' b' c' d' ha' y2 hb' hc' t p0 p1
  refine Ev.then h3 ?_
  by_cases e2 : q < 0
  · simp only [e2, if_true]
    exact Ev.now _
  simp only [e2, if_false]
  obtain ⟨_, _, q2, q3, q4, q5⟩ := h4.resolve_left e2
  have ta := toSto_ev a b c d p2 p3 p4 p5
  have tb := toSto_ev a' b' c' d' q2 q3 q4 q5
  refine Ev.then ta (Ev.then tb (Ev.then (spec_SameSto_ev a b c d a' b' c' d' ha y1 hb hc) (Ev.then ta (Ev.then tb (Ev.then (impl_SameSto_ev a b c d a' b' c' d' ha y1 hb hc) ?_)))))
  simp only [bne_self_eq_false, Bool.false_eq_true, if_false]
  refine Ev.then ta (Ev.then (eqSto_ev a b c d ha y1 hb hc) ?_)
  simp only [if_true]
  refine Ev.then tb (Ev.then (eqSto_ev a' b' c' d' ha' y2 hb' hc') ?_)
  simp only [if_true]
  exact Ev.now _

end Go.Proofs.Ytmmdgciefehbcaa.Pure
