/- The pure statement of FnExactSameExp: what the printed functions compute makes the law answer true. Conditions: those in the statement. -/
import Derived.Test.YtmmdgciefehbcaaLem
import Derived.Test.YtmmdgciefehbcaaPFnExactSameExpx0
import Derived.Test.YtmmdgciefehbcaaPFnExactSameExpx1
import Derived.Test.YtmmdgciefehbcaaPFnExactSameExpx2
import Derived.Test.YtmmdgciefehbcaaPFnExactSameExpx3
import Derived.Test.YtmmdgciefehbcaaPFnExactSameExpx4
import Derived.Test.YtmmdgciefehbcaaPFnExactSameExpx5
namespace Go.Proofs.Ytmmdgciefehbcaa.Pure
open Go.RowKit Go.Proofs.Ytmmdgciefehbcaa.PFnExactSameExp Go.Proofs.YtmmdgciefehbcaaW.PrintWords Go.Proofs.YtmmdgciefehbcaaW.PrintLast Go.Proofs.YtmmdgciefehbcaaW.PrintMore Go.Proofs.Ytmmdgciefehbcaa.Lem
set_option linter.unusedVariables false
set_option linter.unusedSimpArgs false

/-! ### trees of sums -/
inductive GoodE : S24 → Prop
  | mk (x : S24) (h2 : x.f2.size ≤ maxLen) (h3 : x.f3.length ≤ maxLen) (hy : ∀ y ∈ x.f3, GoodE y) : GoodE x
inductive SzE : S24 → Prop
  | mk (x : S24) (h2 : x.f2.size ≤ maxLen) (h3 : x.f3.length ≤ 1048576) (hy : ∀ y ∈ x.f3, SzE y) : SzE x
mutual
def cvExp : S24 → S29
  | ⟨a, b, c, l⟩ => ⟨a, b, c, cvExpS l⟩
def cvExpS : List S24 → List S29
  | [] => []
  | x :: xs => cvExp x :: cvExpS xs
end
theorem cvExpS_map (l : List S24) : cvExpS l = l.map cvExp := by
  induction l with
  | nil => rfl
  | cons x xs ih => rw [cvExpS, ih, List.map_cons]
theorem cvExp_f (x : S24) : cvExp x = ⟨x.f0, x.f1, x.f2, x.f3.map cvExp⟩ := by
  obtain ⟨a, b, c, l⟩ := x
  rw [cvExp, cvExpS_map]
theorem szExp_ev {x : S24} (h : GoodE x) : ∀ a : Int, 0 ≤ a → a ≤ 1048576 → ∃ t, Ev (fun k => laws_szExp.f k x.f0 x.f1 x.f2 x.f3 a) t ∧ (t < 0 ∨ 0 ≤ t ∧ t ≤ 1048576 ∧ SzE x) := by
  induction h with
  | mk x h2 h3 hy ih =>
    intro a a0 a1
    have h2' := h2
    have h3' := h3
    simp only [maxLen] at h2' h3'
    have w1 : wrap64 (a - (x.f2.size : Int)) = a - (x.f2.size : Int) := w64 (by omega) (by omega)
    by_cases c : a - (x.f2.size : Int) < 0
    · refine ⟨-1, Ev.step (fun k => by rw [laws_szExp.f]) ?_, .inl (by omega)⟩
      simp only [w1, c, if_true]
      exact Ev.now _
    have key : ∀ d i, i + d = x.f3.length → ∀ b : Int, 0 ≤ b → b ≤ 1048576 → ∃ t, Ev (fun k => laws_szExpS.l0 k x.f3 b (i : Int)) t ∧ (t < 0 ∨ 0 ≤ t ∧ t ≤ 1048576 ∧ ∀ y ∈ x.f3.drop i, SzE y) := by
      intro d
      induction d with
      | zero =>
        intro i hi b hb0 hb1
        refine ⟨b, Ev.step (fun k => by rw [laws_szExpS.l0]) ?_, .inr ⟨hb0, hb1, by rw [List.drop_eq_nil_of_le (by omega)]; simp⟩⟩
        have c : ¬ (i : Int) < (x.f3.length : Int) := by omega
        simp only [c, if_false]
        exact Ev.now _
      | succ d ihd =>
        intro i hi b hb0 hb1
        have c : (i : Int) < (x.f3.length : Int) := by omega
        have c0 : (0 : Int) ≤ (i : Int) := by omega
        have hw : wrap64 ((i : Int) + 1) = ((i + 1 : Nat) : Int) := wi (n := x.f3.length) (by omega) h3
        have hd : x.f3.drop i = rd_T24 x.f3 (i : Int) :: x.f3.drop (i + 1) := drop_cons x.f3 _ (by omega)
        have hm : rd_T24 x.f3 (i : Int) ∈ x.f3 := getD_mem x.f3 _ (by omega)
        obtain ⟨t, ht, h2⟩ := ih _ hm b hb0 hb1
        by_cases c2 : t < 0
        · refine ⟨-1, Ev.step (fun k => by rw [laws_szExpS.l0]) ?_, .inl (by omega)⟩
          simp only [c, c0, if_true]
          refine Ev.then ht ?_
          simp only [c2, if_true]
          exact Ev.now _
        · have h2' := h2.resolve_left c2
          obtain ⟨q, h3, h4⟩ := ihd (i + 1) (by omega) t h2'.1 h2'.2.1
          refine ⟨q, Ev.step (fun k => by rw [laws_szExpS.l0]) ?_, h4.imp id fun h => ⟨h.1, h.2.1, ?_⟩⟩
          · simp only [c, c0, if_true]
            refine Ev.then ht ?_
            simp only [c2, if_false, hw]
            exact h3
          · rw [hd]
            intro y hy
            rcases List.mem_cons.1 hy with rfl | hy
            · exact h2'.2.2
            · exact h.2.2 y hy
    have w2 : wrap64 (a - (x.f2.size : Int) - (x.f3.length : Int)) = a - (x.f2.size : Int) - (x.f3.length : Int) := w64 (by omega) (by omega)
    by_cases c3 : a - (x.f2.size : Int) - (x.f3.length : Int) < 0
    · refine ⟨-1, Ev.step (fun k => by rw [laws_szExp.f]) ?_, .inl (by omega)⟩
      simp only [w1, c, if_false]
      refine Ev.then (Ev.step (fun k => by rw [laws_szExpS.f]) (r := (-1 : Int)) ?_) ?_
      · simp only [w2, c3, if_true]
        exact Ev.now _
      · simp only [show ((-1 : Int) < 0) by omega, if_true]
        exact Ev.now _
    · obtain ⟨t, h4, h5⟩ := key x.f3.length 0 (by omega) (a - (x.f2.size : Int) - (x.f3.length : Int)) (by omega) (by omega)
      have e1 : Ev (fun k => laws_szExpS.f k x.f3 (a - (x.f2.size : Int))) t := by
        refine Ev.step (fun k => by rw [laws_szExpS.f]) ?_
        simp only [w2, c3, if_false]
        exact h4
      by_cases c4 : t < 0
      · refine ⟨-1, Ev.step (fun k => by rw [laws_szExp.f]) ?_, .inl (by omega)⟩
        simp only [w1, c, if_false]
        refine Ev.then e1 ?_
        simp only [c4, if_true]
        exact Ev.now _
      · have h5' := h5.resolve_left c4
        refine ⟨t, Ev.step (fun k => by rw [laws_szExp.f]) ?_, .inr ⟨h5'.1, h5'.2.1, SzE.mk x h2 (by omega) (by simpa using h5'.2.2)⟩⟩
        simp only [w1, c, if_false]
        refine Ev.then e1 ?_
        simp only [c4, if_false]
        exact Ev.now _
theorem toExp_ev {x : S24} (h : SzE x) : Ev (fun k => laws_toExp.f k x.f0 x.f1 x.f2 x.f3) (x.f0, x.f1, x.f2, x.f3.map cvExp) := by
  induction h with
  | mk x h2 hl hy ih =>
    refine Ev.step (fun k => by rw [laws_toExp.f]) ?_
    refine Ev.then (Ev.step (fun k => by rw [laws_toExpS.f]) (r := x.f3.map cvExp) ?_) (Ev.now _)
    generalize x.f3 = l at *
    have c1 : (0 : Int) ≤ (l.length : Int) := by omega
    have c2 : ((l.length : Int) : Int).toNat ≤ 5026338869833 := by omega
    simp only [c1, c2, if_true]
    have key : ∀ d i, i + d = l.length → Ev (fun k => laws_toExpS.l0 k l ((l.take i).map cvExp ++ List.replicate d z29) (i : Int)) (l.map cvExp) := by
      intro d
      induction d with
      | zero =>
        intro i hi
        refine Ev.step (fun k => by rw [laws_toExpS.l0]) ?_
        have c : ¬ (i : Int) < (l.length : Int) := by omega
        simp only [c, if_false]
        have : l.take i = l := List.take_of_length_le (by omega)
        rw [this]
        simpa using Ev.now (List.map cvExp l)
      | succ d ihd =>
        intro i hi
        refine Ev.step (fun k => by rw [laws_toExpS.l0]) ?_
        have c : (i : Int) < (l.length : Int) := by omega
        have c0 : (0 : Int) ≤ (i : Int) := by omega
        have hw : wrap64 ((i : Int) + 1) = ((i + 1 : Nat) : Int) := wi (n := l.length) (by omega) (by simp only [maxLen]; omega)
        have hm : rd_T24 l (i : Int) ∈ l := getD_mem l _ (by omega)
        have c3 : (i : Int) < ((((l.take i).map cvExp ++ List.replicate (d + 1) z29).length : Nat) : Int) := by
          rw [List.length_append, List.length_map, List.length_take, List.length_replicate]
          omega
        simp only [c, c0, if_true, c3, hw]
        refine Ev.then (ih _ hm) ?_
        have e : (((l.take i).map cvExp ++ List.replicate (d + 1) z29).set ((i : Int) : Int).toNat (cvExp (rd_T24 l (i : Int)))) = (l.take (i + 1)).map cvExp ++ List.replicate d z29 := by
          have hg : rd_T24 l (i : Int) = l[i]'(by omega) := by
            simp [rd_T24, List.getElem?_eq_getElem (show i < l.length by omega)]
          rw [hg, Int.toNat_natCast, List.take_add_one, List.getElem?_eq_getElem (show i < l.length by omega)]
          rw [List.set_append_right _ _ (by simp; omega)]
          have : i - ((l.take i).map cvExp).length = 0 := by simp; omega
          rw [this, List.replicate_succ, List.set_cons_zero]
          simp only [Option.toList_some, List.map_append, List.map_cons, List.map_nil, List.append_assoc, List.cons_append, List.nil_append]
        have h2 := ihd (i + 1) (by omega)
        rw [← e, cvExp_f] at h2
        exact h2
    have h0 := key l.length 0 (by omega)
    simpa using h0
theorem eqExp_ev {x : S24} (h : SzE x) : Ev (fun k => laws_eqExp.f k (cvExp x).f0 (cvExp x).f1 (cvExp x).f2 (cvExp x).f3 (cvExp x).f0 (cvExp x).f1 (cvExp x).f2 (cvExp x).f3) true := by
  induction h with
  | mk x h2 hl hy ih =>
    refine Ev.step (fun k => by rw [laws_eqExp.f]) ?_
    simp only [if_true]
    rw [cvExp_f]
    refine Ev.then (Ev.step (fun k => by rw [laws_eqExpS.f]) (r := true) ?_) (by simp only [if_true]; exact Ev.now _)
    simp only [if_true]
    generalize x.f3 = l at *
    have key : ∀ d i, i + d = l.length → Ev (fun k => laws_eqExpS.l0 k (l.map cvExp) (l.map cvExp) (i : Int)) true := by
      intro d
      induction d with
      | zero =>
        intro i hi
        refine Ev.step (fun k => by rw [laws_eqExpS.l0]) ?_
        have c : ¬ (i : Int) < ((l.map cvExp).length : Int) := by rw [List.length_map]; omega
        simp only [c, if_false]
        exact Ev.now _
      | succ d ihd =>
        intro i hi
        refine Ev.step (fun k => by rw [laws_eqExpS.l0]) ?_
        have c : (i : Int) < ((l.map cvExp).length : Int) := by rw [List.length_map]; omega
        have c0 : (0 : Int) ≤ (i : Int) := by omega
        have hw : wrap64 ((i : Int) + 1) = ((i + 1 : Nat) : Int) := wi (n := l.length) (by omega) (by simp only [maxLen]; omega)
        have hm : rd_T24 l (i : Int) ∈ l := getD_mem l _ (by omega)
        have hr : rd_T29 (l.map cvExp) (i : Int) = cvExp (rd_T24 l (i : Int)) := by
          unfold rd_T29 rd_T24
          simp [List.getElem?_eq_getElem (show i < l.length by omega)]
        simp only [c, c0, if_true, hw, hr]
        refine Ev.then (ih _ hm) ?_
        simp only [if_true]
        exact ihd (i + 1) (by omega)
    exact key l.length 0 (by omega)
/-- What may be met in a tree that was made of a sized one. -/
inductive OkE : S29 → Prop
  | mk (x : S29) (h2 : x.f2.size ≤ maxLen) (hl : x.f3.length ≤ maxLen) (hy : ∀ y ∈ x.f3, OkE y) : OkE x
theorem OkE.of {x : S24} (h : SzE x) : OkE (cvExp x) := by
  induction h with
  | mk x h2 hl hy ih =>
    rw [cvExp_f]
    refine OkE.mk _ h2 (by simp only [List.length_map, maxLen]; omega) fun y hy => ?_
    obtain ⟨z, hz, rfl⟩ := List.mem_map.1 hy
    exact ih z hz
theorem rdE_mem {l : List S29} {i : Nat} (hi : i < l.length) : rd_T29 l (i : Int) ∈ l := by
  unfold rd_T29
  rw [Int.toNat_natCast]
  exact getD_mem l _ hi
theorem sameExp_ev {x : S29} (hx : OkE x) : ∀ y : S29, ∃ b, Ev (fun k => spec_SameExp.f k x.f0 x.f1 x.f2 x.f3 y.f0 y.f1 y.f2 y.f3) b ∧ Ev (fun k => impl_SameExp.f k x.f0 x.f1 x.f2 x.f3 y.f0 y.f1 y.f2 y.f3) b := by
  induction hx with
  | mk x h2 hl hy ih =>
    intro y
    have bad : Ev (fun k => spec_SameExp.j0 k true x.f0 x.f1 x.f2 x.f3 y.f0 y.f1 y.f2 y.f3) false := by
      refine Ev.step (fun k => by rw [spec_SameExp.j0]) ?_
      simp only [if_true]
      exact Ev.now _
    by_cases e0 : x.f0 = y.f0
    · by_cases e1 : x.f1 = y.f1
      · by_cases e2 : x.f2.toList = y.f2.toList
        · by_cases e3 : (x.f3.length : Int) = (y.f3.length : Int)
          · have key : ∀ d i, i + d = x.f3.length → ∃ b, Ev (fun k => spec_SameExp.l0 k (i : Int) x.f0 x.f1 x.f2 x.f3 y.f0 y.f1 y.f2 y.f3) b ∧ Ev (fun k => impl_Exp.l0 k y.f3 x.f3 (x.f3.length : Int) (i : Int)) b := by
              intro d
              induction d with
              | zero =>
                intro i hi
                have c : ¬ (i : Int) < (x.f3.length : Int) := by omega
                refine ⟨true, Ev.step (fun k => by rw [spec_SameExp.l0]) ?_, Ev.step (fun k => by rw [impl_Exp.l0]) ?_⟩
                · simp only [c, if_false]
                  exact Ev.now _
                · simp only [c, if_false]
                  exact Ev.now _
              | succ d ihd =>
                intro i hi
                have c : (i : Int) < (x.f3.length : Int) := by omega
                have c0 : (0 : Int) ≤ (i : Int) := by omega
                have c1 : (i : Int) < (y.f3.length : Int) := by omega
                have hwi : wrap64 ((i : Int) + 1) = ((i + 1 : Nat) : Int) := wi (n := x.f3.length) (by omega) hl
                have hm : rd_T29 x.f3 (i : Int) ∈ x.f3 := rdE_mem (by omega)
                obtain ⟨b, h3, h4⟩ := ih _ hm (rd_T29 y.f3 (i : Int))
                cases b with
                | false =>
                  refine ⟨false, Ev.step (fun k => by rw [spec_SameExp.l0]) ?_, Ev.step (fun k => by rw [impl_Exp.l0]) ?_⟩
                  · simp only [c, c0, c1, if_true]
                    refine Ev.then h3 ?_
                    simp only [Bool.false_eq_true, if_false]
                    exact Ev.now _
                  · simp only [c, c0, c1, if_true]
                    refine Ev.then h4 ?_
                    simp only [Bool.false_eq_true, if_false]
                    exact Ev.now _
                | true =>
                  obtain ⟨b, h5, h6⟩ := ihd (i + 1) (by omega)
                  refine ⟨b, Ev.step (fun k => by rw [spec_SameExp.l0]) ?_, Ev.step (fun k => by rw [impl_Exp.l0]) ?_⟩
                  · simp only [c, c0, c1, if_true]
                    refine Ev.then h3 ?_
                    simp only [if_true, hwi]
                    exact h5
                  · simp only [c, c0, c1, if_true]
                    refine Ev.then h4 ?_
                    simp only [if_true, hwi]
                    exact h6
            obtain ⟨b, h3, h4⟩ := key x.f3.length 0 (by omega)
            have e3b : ((x.f3.length : Int) != (y.f3.length : Int)) = false := bne_eq_false_iff_eq.mpr e3
            refine ⟨b, Ev.step (fun k => by rw [spec_SameExp.f]) ?_, Ev.step (fun k => by rw [impl_SameExp.f]) ?_⟩
            · simp only [eq_true e0, eq_true e1, eq_true e2, if_true]
              refine Ev.step (fun k => by rw [spec_SameExp.j0]) ?_
              simp only [e3b, Bool.false_eq_true, if_false]
              exact h3
            · simp only [eq_true e0, eq_true e1, eq_true e2, if_true]
              refine Ev.then (Ev.step (fun k => by rw [impl_Exp.f]) (r := b) ?_) (Ev.now _)
              simp only [eq_true e3, if_true, if_false]
              exact h4
          · have e3b : ((x.f3.length : Int) != (y.f3.length : Int)) = true := bne_iff_ne.mpr e3
            refine ⟨false, Ev.step (fun k => by rw [spec_SameExp.f]) ?_, Ev.step (fun k => by rw [impl_SameExp.f]) ?_⟩
            · simp only [e3b, eq_true e0, eq_true e1, eq_true e2, if_true, if_false]
              exact bad
            · simp only [eq_true e0, eq_true e1, eq_true e2, if_true]
              refine Ev.then (Ev.step (fun k => by rw [impl_Exp.f]) (r := false) ?_) (Ev.now _)
              simp only [eq_false e3, if_true, if_false]
              exact Ev.now _
        · refine ⟨false, Ev.step (fun k => by rw [spec_SameExp.f]) ?_, Ev.step (fun k => by rw [impl_SameExp.f]) ?_⟩
          · simp only [eq_true e0, eq_true e1, eq_false e2, if_true, if_false]
            exact bad
          · simp only [eq_true e0, eq_true e1, eq_false e2, if_true, if_false]
            exact Ev.now _
      · refine ⟨false, Ev.step (fun k => by rw [spec_SameExp.f]) ?_, Ev.step (fun k => by rw [impl_SameExp.f]) ?_⟩
        · simp only [eq_true e0, eq_false e1, if_true, if_false]
          exact bad
        · simp only [eq_true e0, eq_false e1, if_true, if_false]
          exact Ev.now _
    · refine ⟨false, Ev.step (fun k => by rw [spec_SameExp.f]) ?_, Ev.step (fun k => by rw [impl_SameExp.f]) ?_⟩
      · simp only [eq_false e0, if_true, if_false]
        exact bad
      · simp only [eq_false e0, if_true, if_false]
        exact Ev.now _
theorem FnExactSameExp (x y : S24) (hx : GoodE x) (hy : GoodE y) : ∃ k, laws_FnExactSameExp.f k x.f0 x.f1 x.f2 x.f3 y.f0 y.f1 y.f2 y.f3 = some true := by
  apply Ev.rounds
  unfold laws_FnExactSameExp.f
  obtain ⟨t, h1, h2⟩ := szExp_ev hx 1048576 (by omega) (by omega)
  refine Ev.then h1 ?_
  by_cases e : t < 0
  · simp only [e, if_true]
    exact Ev.now _
  · simp only [e, if_false]
    have h2' := h2.resolve_left e
    obtain ⟨q, h3, h4⟩ := szExp_ev hy t h2'.1 h2'.2.1
    refine Ev.then h3 ?_
    by_cases e2 : q < 0
    · simp only [e2, if_true]
      exact Ev.now _
    · simp only [e2, if_false]
      have hs := h2'.2.2
      have hs2 := (h4.resolve_left e2).2.2
      have ta := toExp_ev hs
      have tb := toExp_ev hs2
      have ea := eqExp_ev hs
      have eb := eqExp_ev hs2
      obtain ⟨b, s1, s2⟩ := sameExp_ev (OkE.of hs) (cvExp y)
      rw [cvExp_f, cvExp_f] at s1 s2
      rw [cvExp_f] at ea eb
      refine Ev.then ta (Ev.then tb (Ev.then s1 (Ev.then ta (Ev.then tb (Ev.then s2 ?_)))))
      simp only [bne_self_eq_false, Bool.false_eq_true, if_false]
      refine Ev.then ta (Ev.then ea ?_)
      simp only [if_true]
      refine Ev.then tb (Ev.then eb ?_)
      simp only [if_true]
      exact Ev.now _

end Go.Proofs.Ytmmdgciefehbcaa.Pure
