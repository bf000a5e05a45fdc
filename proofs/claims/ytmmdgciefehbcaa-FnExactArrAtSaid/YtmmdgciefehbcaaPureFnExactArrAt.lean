/- The pure statement of FnExactArrAt: what the printed functions compute makes the law answer true. Conditions: those in the statement. -/
import Derived.Test.YtmmdgciefehbcaaLem
import Derived.Test.YtmmdgciefehbcaaPFnExactArrAtx0
import Derived.Test.YtmmdgciefehbcaaPFnExactArrAtx1
import Derived.Test.YtmmdgciefehbcaaPFnExactArrAtx2
import Derived.Test.YtmmdgciefehbcaaPFnExactArrAtx3
import Derived.Test.YtmmdgciefehbcaaPFnExactArrAtx4
import Derived.Test.YtmmdgciefehbcaaPFnExactArrAtx5
namespace Go.Proofs.Ytmmdgciefehbcaa.Pure
open Go.RowKit Go.Proofs.Ytmmdgciefehbcaa.PFnExactArrAt Go.Proofs.YtmmdgciefehbcaaW.PrintWords Go.Proofs.YtmmdgciefehbcaaW.PrintLast Go.Proofs.YtmmdgciefehbcaaW.PrintMore Go.Proofs.Ytmmdgciefehbcaa.Lem
set_option linter.unusedVariables false
set_option linter.unusedSimpArgs false

def cvArr (x : S117) : S98 := ⟨x.f0, x.f1⟩
theorem szArr_one (y : S117) (hs : y.f0.size ≤ maxLen) (a : Int) (h0 : 0 ≤ a) (h1 : a ≤ 1048576) : ∃ t, laws_szArr.f y.f0 y.f1 a = some t ∧ (t < 0 ∨ 0 ≤ t ∧ t ≤ 1048576) := by
  unfold laws_szArr.f
  simp only [maxLen] at hs
  rw [w64 (x := a - (y.f0.size : Int)) (by omega) (by omega)]
  by_cases c : a - (y.f0.size : Int) < 0
  · exact ⟨-1, by rw [if_pos c], .inl (by omega)⟩
  · exact ⟨_, by rw [if_neg c], .inr (by omega)⟩
theorem szArrS_ev (l : List S117) (hl : l.length ≤ maxLen) (hs : ∀ x ∈ l, x.f0.size ≤ maxLen) (a : Int) (h0 : 0 ≤ a) (h1 : a ≤ 1048576) :
    ∃ t, Ev (fun k => laws_szArrS.f k l a) t ∧ (t < 0 ∨ 0 ≤ t ∧ t ≤ 1048576 ∧ l.length ≤ 1048576) := by
  unfold laws_szArrS.f
  have hl' := hl
  simp only [maxLen] at hl'
  rw [w64 (x := a - (l.length : Int)) (by omega) (by omega)]
  by_cases c : a - (l.length : Int) < 0
  · simp only [c, if_true]
    exact ⟨-1, Ev.now _, .inl (by omega)⟩
  · simp only [c, if_false]
    have key : ∀ d i, i + d = l.length → ∀ x : Int, 0 ≤ x → x ≤ 1048576 → ∃ t, Ev (fun k => laws_szArrS.l0 k l x (i : Int)) t ∧ (t < 0 ∨ 0 ≤ t ∧ t ≤ 1048576) := by
      intro d
      induction d with
      | zero =>
        intro i hi x hx0 hx1
        refine ⟨x, Ev.step (fun k => by rw [laws_szArrS.l0]) ?_, .inr ⟨hx0, hx1⟩⟩
        have c : ¬ (i : Int) < (l.length : Int) := by omega
        simp only [c, if_false]
        exact Ev.now _
      | succ d ih =>
        intro i hi x hx0 hx1
        have c : (i : Int) < (l.length : Int) := by omega
        have c0 : (0 : Int) ≤ (i : Int) := by omega
        have hw : wrap64 ((i : Int) + 1) = ((i + 1 : Nat) : Int) := wi (n := l.length) (by omega) hl
        have hr : rd_T117 l (i : Int) ∈ l := getD_mem l _ (by omega)
        obtain ⟨t, ht, h2⟩ := szArr_one (rd_T117 l (i : Int)) (hs _ hr) x hx0 hx1
        by_cases c2 : t < 0
        · refine ⟨-1, Ev.step (fun k => by rw [laws_szArrS.l0]) ?_, .inl (by omega)⟩
          simp only [c, c0, if_true, ht, Option.bind_some, c2]
          exact Ev.now _
        · obtain ⟨q, h3, h4⟩ := ih (i + 1) (by omega) t (by omega) (by omega)
          refine ⟨q, Ev.step (fun k => by rw [laws_szArrS.l0]) ?_, h4⟩
          simp only [c, c0, if_true, ht, Option.bind_some, c2, if_false, hw]
          exact h3
    obtain ⟨t, h2, h3⟩ := key l.length 0 (by omega) (a - (l.length : Int)) (by omega) (by omega)
    exact ⟨t, h2, h3.imp id fun h => ⟨h.1, h.2, by omega⟩⟩
theorem toArrS_ev (l : List S117) (hl : l.length ≤ 1048576) : Ev (fun k => laws_toArrS.f k l) (l.map cvArr) := by
  unfold laws_toArrS.f
  have c1 : (0 : Int) ≤ (l.length : Int) := by omega
  have c2 : ((l.length : Int) : Int).toNat ≤ 11728124029610 := by omega
  simp only [c1, c2, if_true]
  have key : ∀ d i, i + d = l.length → Ev (fun k => laws_toArrS.l0 k l ((l.take i).map cvArr ++ List.replicate d z98) (i : Int)) (l.map cvArr) := by
    intro d
    induction d with
    | zero =>
      intro i hi
      refine Ev.step (fun k => by rw [laws_toArrS.l0]) ?_
      have c : ¬ (i : Int) < (l.length : Int) := by omega
      simp only [c, if_false]
      have : l.take i = l := List.take_of_length_le (by omega)
      rw [this]
      simpa using Ev.now (List.map cvArr l)
    | succ d ih =>
      intro i hi
      refine Ev.step (fun k => by rw [laws_toArrS.l0]) ?_
      have c : (i : Int) < (l.length : Int) := by omega
      have c0 : (0 : Int) ≤ (i : Int) := by omega
      have hw : wrap64 ((i : Int) + 1) = ((i + 1 : Nat) : Int) := wi (n := l.length) (by omega) (by simp only [maxLen]; omega)
      have c3 : (i : Int) < ((((l.take i).map cvArr ++ List.replicate (d + 1) z98).length : Nat) : Int) := by
        rw [List.length_append, List.length_map, List.length_take, List.length_replicate]
        omega
      simp only [c, c0, if_true, laws_toArr.f, Option.bind_some, c3, hw]
      have e : (((l.take i).map cvArr ++ List.replicate (d + 1) z98).set ((i : Int) : Int).toNat (cvArr (rd_T117 l (i : Int)))) = (l.take (i + 1)).map cvArr ++ List.replicate d z98 := by
        have hg : rd_T117 l (i : Int) = l[i]'(by omega) := by
          simp [rd_T117, List.getElem?_eq_getElem (show i < l.length by omega)]
        rw [hg, Int.toNat_natCast, List.take_add_one, List.getElem?_eq_getElem (show i < l.length by omega)]
        rw [List.set_append_right _ _ (by simp; omega)]
        have : i - ((l.take i).map cvArr).length = 0 := by simp; omega
        rw [this, List.replicate_succ, List.set_cons_zero]
        simp only [Option.toList_some, List.map_append, List.map_cons, List.map_nil, List.append_assoc, List.cons_append, List.nil_append]
      have h2 := ih (i + 1) (by omega)
      rw [← e] at h2
      exact h2
  have h0 := key l.length 0 (by omega)
  simpa using h0
theorem eqArr_one (x : S98) : laws_eqArr.f x.f0 x.f1 x.f0 x.f1 = some true := by
  unfold laws_eqArr.f
  simp
theorem eqArrS_ev (l : List S98) (hl : l.length ≤ maxLen) : Ev (fun k => laws_eqArrS.f k l l) true := by
  unfold laws_eqArrS.f
  simp only [if_true]
  have key : ∀ d i, i + d = l.length → Ev (fun k => laws_eqArrS.l0 k l l (i : Int)) true := by
    intro d
    induction d with
    | zero =>
      intro i hi
      refine Ev.step (fun k => by rw [laws_eqArrS.l0]) ?_
      have c : ¬ (i : Int) < (l.length : Int) := by omega
      simp only [c, if_false]
      exact Ev.now _
    | succ d ih =>
      intro i hi
      refine Ev.step (fun k => by rw [laws_eqArrS.l0]) ?_
      have c : (i : Int) < (l.length : Int) := by omega
      have c0 : (0 : Int) ≤ (i : Int) := by omega
      have hw : wrap64 ((i : Int) + 1) = ((i + 1 : Nat) : Int) := wi (n := l.length) (by omega) hl
      simp only [c, c0, if_true, eqArr_one (rd_T98 l (i : Int)), Option.bind_some, hw]
      exact ih (i + 1) (by omega)
  exact key l.length 0 (by omega)
/-! ### trees of sums -/
inductive GoodE : S24 → Prop
  | mk (x : S24) (h2 : x.f2.size ≤ maxLen) (h3 : x.f3.length ≤ maxLen) (hy : ∀ y ∈ x.f3, GoodE y) : GoodE x
inductive SzE : S24 → Prop
  | mk (x : S24) (h2 : x.f2.size ≤ maxLen) (h3 : x.f3.length ≤ 1048576) (hy : ∀ y ∈ x.f3, SzE y) : SzE x
mutual
def cvExp : S24 → S29
  | ⟨a, b, c, l⟩ => ⟨a, b, c, cvExpS l⟩
def cvExpS : List S24 → List S29
  | [] => []
  | x :: xs => cvExp x :: cvExpS xs
end
theorem cvExpS_map (l : List S24) : cvExpS l = l.map cvExp := by
  induction l with
  | nil => rfl
  | cons x xs ih => rw [cvExpS, ih, List.map_cons]
theorem cvExp_f (x : S24) : cvExp x = ⟨x.f0, x.f1, x.f2, x.f3.map cvExp⟩ := by
  obtain ⟨a, b, c, l⟩ := x
  rw [cvExp, cvExpS_map]
theorem szExp_ev {x : S24} (h : GoodE x) : ∀ a : Int, 0 ≤ a → a ≤ 1048576 → ∃ t, Ev (fun k => laws_szExp.f k x.f0 x.f1 x.f2 x.f3 a) t ∧ (t < 0 ∨ 0 ≤ t ∧ t ≤ 1048576 ∧ SzE x) := by
  induction h with
  | mk x h2 h3 hy ih =>
    intro a a0 a1
    have h2' := h2
    have h3' := h3
    simp only [maxLen] at h2' h3'
    have w1 : wrap64 (a - (x.f2.size : Int)) = a - (x.f2.size : Int) := w64 (by omega) (by omega)
    by_cases c : a - (x.f2.size : Int) < 0
    · refine ⟨-1, Ev.step (fun k => by rw [laws_szExp.f]) ?_, .inl (by omega)⟩
      simp only [w1, c, if_true]
      exact Ev.now _
    have key : ∀ d i, i + d = x.f3.length → ∀ b : Int, 0 ≤ b → b ≤ 1048576 → ∃ t, Ev (fun k => laws_szExpS.l0 k x.f3 b (i : Int)) t ∧ (t < 0 ∨ 0 ≤ t ∧ t ≤ 1048576 ∧ ∀ y ∈ x.f3.drop i, SzE y) := by
      intro d
      induction d with
      | zero =>
        intro i hi b hb0 hb1
        refine ⟨b, Ev.step (fun k => by rw [laws_szExpS.l0]) ?_, .inr ⟨hb0, hb1, by rw [List.drop_eq_nil_of_le (by omega)]; simp⟩⟩
        have c : ¬ (i : Int) < (x.f3.length : Int) := by omega
        simp only [c, if_false]
        exact Ev.now _
      | succ d ihd =>
        intro i hi b hb0 hb1
        have c : (i : Int) < (x.f3.length : Int) := by omega
        have c0 : (0 : Int) ≤ (i : Int) := by omega
        have hw : wrap64 ((i : Int) + 1) = ((i + 1 : Nat) : Int) := wi (n := x.f3.length) (by omega) h3
        have hd : x.f3.drop i = rd_T24 x.f3 (i : Int) :: x.f3.drop (i + 1) := drop_cons x.f3 _ (by omega)
        have hm : rd_T24 x.f3 (i : Int) ∈ x.f3 := getD_mem x.f3 _ (by omega)
        obtain ⟨t, ht, h2⟩ := ih _ hm b hb0 hb1
        by_cases c2 : t < 0
        · refine ⟨-1, Ev.step (fun k => by rw [laws_szExpS.l0]) ?_, .inl (by omega)⟩
          simp only [c, c0, if_true]
          refine Ev.then ht ?_
          simp only [c2, if_true]
          exact Ev.now _
        · have h2' := h2.resolve_left c2
          obtain ⟨q, h3, h4⟩ := ihd (i + 1) (by omega) t h2'.1 h2'.2.1
          refine ⟨q, Ev.step (fun k => by rw [laws_szExpS.l0]) ?_, h4.imp id fun h => ⟨h.1, h.2.1, ?_⟩⟩
          · simp only [c, c0, if_true]
            refine Ev.then ht ?_
            simp only [c2, if_false, hw]
            exact h3
          · rw [hd]
            intro y hy
            rcases List.mem_cons.1 hy with rfl | hy
            · exact h2'.2.2
            · exact h.2.2 y hy
    have w2 : wrap64 (a - (x.f2.size : Int) - (x.f3.length : Int)) = a - (x.f2.size : Int) - (x.f3.length : Int) := w64 (by omega) (by omega)
    by_cases c3 : a - (x.f2.size : Int) - (x.f3.length : Int) < 0
    · refine ⟨-1, Ev.step (fun k => by rw [laws_szExp.f]) ?_, .inl (by omega)⟩
      simp only [w1, c, if_false]
      refine Ev.then (Ev.step (fun k => by rw [laws_szExpS.f]) (r := (-1 : Int)) ?_) ?_
      · simp only [w2, c3, if_true]
        exact Ev.now _
      · simp only [show ((-1 : Int) < 0) by omega, if_true]
        exact Ev.now _
    · obtain ⟨t, h4, h5⟩ := key x.f3.length 0 (by omega) (a - (x.f2.size : Int) - (x.f3.length : Int)) (by omega) (by omega)
      have e1 : Ev (fun k => laws_szExpS.f k x.f3 (a - (x.f2.size : Int))) t := by
        refine Ev.step (fun k => by rw [laws_szExpS.f]) ?_
        simp only [w2, c3, if_false]
        exact h4
      by_cases c4 : t < 0
      · refine ⟨-1, Ev.step (fun k => by rw [laws_szExp.f]) ?_, .inl (by omega)⟩
        simp only [w1, c, if_false]
        refine Ev.then e1 ?_
        simp only [c4, if_true]
        exact Ev.now _
      · have h5' := h5.resolve_left c4
        refine ⟨t, Ev.step (fun k => by rw [laws_szExp.f]) ?_, .inr ⟨h5'.1, h5'.2.1, SzE.mk x h2 (by omega) (by simpa using h5'.2.2)⟩⟩
        simp only [w1, c, if_false]
        refine Ev.then e1 ?_
        simp only [c4, if_false]
        exact Ev.now _
theorem toExp_ev {x : S24} (h : SzE x) : Ev (fun k => laws_toExp.f k x.f0 x.f1 x.f2 x.f3) (x.f0, x.f1, x.f2, x.f3.map cvExp) := by
  induction h with
  | mk x h2 hl hy ih =>
    refine Ev.step (fun k => by rw [laws_toExp.f]) ?_
    refine Ev.then (Ev.step (fun k => by rw [laws_toExpS.f]) (r := x.f3.map cvExp) ?_) (Ev.now _)
    generalize x.f3 = l at *
    have c1 : (0 : Int) ≤ (l.length : Int) := by omega
    have c2 : ((l.length : Int) : Int).toNat ≤ 5026338869833 := by omega
    simp only [c1, c2, if_true]
    have key : ∀ d i, i + d = l.length → Ev (fun k => laws_toExpS.l0 k l ((l.take i).map cvExp ++ List.replicate d z29) (i : Int)) (l.map cvExp) := by
      intro d
      induction d with
      | zero =>
        intro i hi
        refine Ev.step (fun k => by rw [laws_toExpS.l0]) ?_
        have c : ¬ (i : Int) < (l.length : Int) := by omega
        simp only [c, if_false]
        have : l.take i = l := List.take_of_length_le (by omega)
        rw [this]
        simpa using Ev.now (List.map cvExp l)
      | succ d ihd =>
        intro i hi
        refine Ev.step (fun k => by rw [laws_toExpS.l0]) ?_
        have c : (i : Int) < (l.length : Int) := by omega
        have c0 : (0 : Int) ≤ (i : Int) := by omega
        have hw : wrap64 ((i : Int) + 1) = ((i + 1 : Nat) : Int) := wi (n := l.length) (by omega) (by simp only [maxLen]; omega)
        have hm : rd_T24 l (i : Int) ∈ l := getD_mem l _ (by omega)
        have c3 : (i : Int) < ((((l.take i).map cvExp ++ List.replicate (d + 1) z29).length : Nat) : Int) := by
          rw [List.length_append, List.length_map, List.length_take, List.length_replicate]
          omega
        simp only [c, c0, if_true, c3, hw]
        refine Ev.then (ih _ hm) ?_
        have e : (((l.take i).map cvExp ++ List.replicate (d + 1) z29).set ((i : Int) : Int).toNat (cvExp (rd_T24 l (i : Int)))) = (l.take (i + 1)).map cvExp ++ List.replicate d z29 := by
          have hg : rd_T24 l (i : Int) = l[i]'(by omega) := by
            simp [rd_T24, List.getElem?_eq_getElem (show i < l.length by omega)]
          rw [hg, Int.toNat_natCast, List.take_add_one, List.getElem?_eq_getElem (show i < l.length by omega)]
          rw [List.set_append_right _ _ (by simp; omega)]
          have : i - ((l.take i).map cvExp).length = 0 := by simp; omega
          rw [this, List.replicate_succ, List.set_cons_zero]
          simp only [Option.toList_some, List.map_append, List.map_cons, List.map_nil, List.append_assoc, List.cons_append, List.nil_append]
        have h2 := ihd (i + 1) (by omega)
        rw [← e, cvExp_f] at h2
        exact h2
    have h0 := key l.length 0 (by omega)
    simpa using h0
theorem eqExp_ev {x : S24} (h : SzE x) : Ev (fun k => laws_eqExp.f k (cvExp x).f0 (cvExp x).f1 (cvExp x).f2 (cvExp x).f3 (cvExp x).f0 (cvExp x).f1 (cvExp x).f2 (cvExp x).f3) true := by
  induction h with
  | mk x h2 hl hy ih =>
    refine Ev.step (fun k => by rw [laws_eqExp.f]) ?_
    simp only [if_true]
    rw [cvExp_f]
    refine Ev.then (Ev.step (fun k => by rw [laws_eqExpS.f]) (r := true) ?_) (by simp only [if_true]; exact Ev.now _)
    simp only [if_true]
    generalize x.f3 = l at *
    have key : ∀ d i, i + d = l.length → Ev (fun k => laws_eqExpS.l0 k (l.map cvExp) (l.map cvExp) (i : Int)) true := by
      intro d
      induction d with
      | zero =>
        intro i hi
        refine Ev.step (fun k => by rw [laws_eqExpS.l0]) ?_
        have c : ¬ (i : Int) < ((l.map cvExp).length : Int) := by rw [List.length_map]; omega
        simp only [c, if_false]
        exact Ev.now _
      | succ d ihd =>
        intro i hi
        refine Ev.step (fun k => by rw [laws_eqExpS.l0]) ?_
        have c : (i : Int) < ((l.map cvExp).length : Int) := by rw [List.length_map]; omega
        have c0 : (0 : Int) ≤ (i : Int) := by omega
        have hw : wrap64 ((i : Int) + 1) = ((i + 1 : Nat) : Int) := wi (n := l.length) (by omega) (by simp only [maxLen]; omega)
        have hm : rd_T24 l (i : Int) ∈ l := getD_mem l _ (by omega)
        have hr : rd_T29 (l.map cvExp) (i : Int) = cvExp (rd_T24 l (i : Int)) := by
          unfold rd_T29 rd_T24
          simp [List.getElem?_eq_getElem (show i < l.length by omega)]
        simp only [c, c0, if_true, hw, hr]
        refine Ev.then (ih _ hm) ?_
        simp only [if_true]
        exact ihd (i + 1) (by omega)
    exact key l.length 0 (by omega)
/-- What may be met in a tree that was made of a sized one. -/
inductive OkE : S29 → Prop
  | mk (x : S29) (h2 : x.f2.size ≤ maxLen) (hl : x.f3.length ≤ maxLen) (hy : ∀ y ∈ x.f3, OkE y) : OkE x
theorem OkE.of {x : S24} (h : SzE x) : OkE (cvExp x) := by
  induction h with
  | mk x h2 hl hy ih =>
    rw [cvExp_f]
    refine OkE.mk _ h2 (by simp only [List.length_map, maxLen]; omega) fun y hy => ?_
    obtain ⟨z, hz, rfl⟩ := List.mem_map.1 hy
    exact ih z hz
theorem rdE_mem {l : List S29} {i : Nat} (hi : i < l.length) : rd_T29 l (i : Int) ∈ l := by
  unfold rd_T29
  rw [Int.toNat_natCast]
  exact getD_mem l _ hi
/-! ### trees of statements -/
inductive GoodS : S45 → Prop
  | mk (x : S45) (h1 : x.f1.size ≤ maxLen) (e2 : GoodE x.f2) (e3 : GoodE x.f3) (e4 : GoodE x.f4) (e5 : GoodE x.f5) (hl : x.f6.length ≤ maxLen) (hy : ∀ y ∈ x.f6, GoodS y) : GoodS x
inductive SzS : S45 → Prop
  | mk (x : S45) (h1 : x.f1.size ≤ maxLen) (e2 : SzE x.f2) (e3 : SzE x.f3) (e4 : SzE x.f4) (e5 : SzE x.f5) (hl : x.f6.length ≤ 1048576) (hy : ∀ y ∈ x.f6, SzS y) : SzS x
mutual
def cvStmt : S45 → S50
  | ⟨a, b, c, d, e, f, l⟩ => ⟨a, b, cvExp c, cvExp d, cvExp e, cvExp f, cvStmtS l⟩
def cvStmtS : List S45 → List S50
  | [] => []
  | x :: xs => cvStmt x :: cvStmtS xs
end
theorem cvStmtS_map (l : List S45) : cvStmtS l = l.map cvStmt := by
  induction l with
  | nil => rfl
  | cons x xs ih => rw [cvStmtS, ih, List.map_cons]
theorem cvStmt_f (x : S45) : cvStmt x = ⟨x.f0, x.f1, cvExp x.f2, cvExp x.f3, cvExp x.f4, cvExp x.f5, x.f6.map cvStmt⟩ := by
  obtain ⟨a, b, c, d, e, f, l⟩ := x
  rw [cvStmt, cvStmtS_map]
theorem etaS (y : S50) : (⟨y.f0, y.f1, (⟨y.f2.f0, y.f2.f1, y.f2.f2, y.f2.f3⟩ : S29), (⟨y.f3.f0, y.f3.f1, y.f3.f2, y.f3.f3⟩ : S29), (⟨y.f4.f0, y.f4.f1, y.f4.f2, y.f4.f3⟩ : S29), (⟨y.f5.f0, y.f5.f1, y.f5.f2, y.f5.f3⟩ : S29), y.f6⟩ : S50) = y := by
  obtain ⟨a, b, ⟨_, _, _, _⟩, ⟨_, _, _, _⟩, ⟨_, _, _, _⟩, ⟨_, _, _, _⟩, l⟩ := y
  rfl
theorem rdSl_mem {l : List S45} {i : Nat} (hi : i < l.length) : rd_T45 l (i : Int) ∈ l := by
  unfold rd_T45
  rw [Int.toNat_natCast]
  exact getD_mem l _ hi
theorem rdS_mem {l : List S50} {i : Nat} (hi : i < l.length) : rd_T50 l (i : Int) ∈ l := by
  unfold rd_T50
  rw [Int.toNat_natCast]
  exact getD_mem l _ hi
theorem rdS_map (l : List S45) {i : Nat} (hi : i < l.length) : rd_T50 (l.map cvStmt) (i : Int) = cvStmt (rd_T45 l (i : Int)) := by
  unfold rd_T50 rd_T45
  simp [List.getElem?_eq_getElem hi]
theorem szStmtS_of (l : List S45) (hl : l.length ≤ maxLen) (ih : ∀ y ∈ l, ∀ a : Int, 0 ≤ a → a ≤ 1048576 → ∃ t, Ev (fun k => laws_szStmt.f k y.f0 y.f1 y.f2.f0 y.f2.f1 y.f2.f2 y.f2.f3 y.f3.f0 y.f3.f1 y.f3.f2 y.f3.f3 y.f4.f0 y.f4.f1 y.f4.f2 y.f4.f3 y.f5.f0 y.f5.f1 y.f5.f2 y.f5.f3 y.f6 a) t ∧ (t < 0 ∨ 0 ≤ t ∧ t ≤ 1048576 ∧ SzS y)) (a : Int) (h0 : 0 ≤ a) (h1 : a ≤ 1048576) :
    ∃ t, Ev (fun k => laws_szStmtS.f k l a) t ∧ (t < 0 ∨ 0 ≤ t ∧ t ≤ 1048576 ∧ l.length ≤ 1048576 ∧ ∀ y ∈ l, SzS y) := by
  have key : ∀ d i, i + d = l.length → ∀ b : Int, 0 ≤ b → b ≤ 1048576 → ∃ t, Ev (fun k => laws_szStmtS.l0 k l b (i : Int)) t ∧ (t < 0 ∨ 0 ≤ t ∧ t ≤ 1048576 ∧ ∀ y ∈ l.drop i, SzS y) := by
    intro d
    induction d with
    | zero =>
      intro i hi b hb0 hb1
      refine ⟨b, Ev.step (fun k => by rw [laws_szStmtS.l0]) ?_, .inr ⟨hb0, hb1, by rw [List.drop_eq_nil_of_le (by omega)]; simp⟩⟩
      have c : ¬ (i : Int) < (l.length : Int) := by omega
      simp only [c, if_false]
      exact Ev.now _
    | succ d ihd =>
      intro i hi b hb0 hb1
      have c : (i : Int) < (l.length : Int) := by omega
      have c0 : (0 : Int) ≤ (i : Int) := by omega
      have hw : wrap64 ((i : Int) + 1) = ((i + 1 : Nat) : Int) := wi (n := l.length) (by omega) hl
      have hd : l.drop i = rd_T45 l (i : Int) :: l.drop (i + 1) := by
        unfold rd_T45
        rw [Int.toNat_natCast]
        exact drop_cons l _ (by omega)
      obtain ⟨t, ht, h2⟩ := ih _ (rdSl_mem (show i < l.length by omega)) b hb0 hb1
      by_cases c2 : t < 0
      · refine ⟨-1, Ev.step (fun k => by rw [laws_szStmtS.l0]) ?_, .inl (by omega)⟩
        simp only [c, c0, if_true]
        refine Ev.then ht ?_
        simp only [c2, if_true]
        exact Ev.now _
      · have h2' := h2.resolve_left c2
        obtain ⟨q, h3, h4⟩ := ihd (i + 1) (by omega) t h2'.1 h2'.2.1
        refine ⟨q, Ev.step (fun k => by rw [laws_szStmtS.l0]) ?_, h4.imp id fun h => ⟨h.1, h.2.1, ?_⟩⟩
        · simp only [c, c0, if_true]
          refine Ev.then ht ?_
          simp only [c2, if_false, hw]
          exact h3
        · rw [hd]
          intro y hy
          rcases List.mem_cons.1 hy with rfl | hy
          · exact h2'.2.2
          · exact h.2.2 y hy
  have hl' := hl
  simp only [maxLen] at hl'
  have w1 : wrap64 (a - (l.length : Int)) = a - (l.length : Int) := w64 (by omega) (by omega)
  by_cases c : a - (l.length : Int) < 0
  · refine ⟨-1, Ev.step (fun k => by rw [laws_szStmtS.f]) ?_, .inl (by omega)⟩
    simp only [w1, c, if_true]
    exact Ev.now _
  · obtain ⟨t, h3, h4⟩ := key l.length 0 (by omega) _ (show 0 ≤ a - (l.length : Int) by omega) (by omega)
    refine ⟨t, Ev.step (fun k => by rw [laws_szStmtS.f]) ?_, h4.imp id fun h => ⟨h.1, h.2.1, by omega, by simpa using h.2.2⟩⟩
    simp only [w1, c, if_false]
    exact h3
theorem szStmt_ev {x : S45} (h : GoodS x) : ∀ a : Int, 0 ≤ a → a ≤ 1048576 → ∃ t, Ev (fun k => laws_szStmt.f k x.f0 x.f1 x.f2.f0 x.f2.f1 x.f2.f2 x.f2.f3 x.f3.f0 x.f3.f1 x.f3.f2 x.f3.f3 x.f4.f0 x.f4.f1 x.f4.f2 x.f4.f3 x.f5.f0 x.f5.f1 x.f5.f2 x.f5.f3 x.f6 a) t ∧ (t < 0 ∨ 0 ≤ t ∧ t ≤ 1048576 ∧ SzS x) := by
  induction h with
  | mk x h1 e2 e3 e4 e5 hl hy ih =>
    intro a a0 a1
    have h1' := h1
    simp only [maxLen] at h1'
    have w1 : wrap64 (a - (x.f1.size : Int)) = a - (x.f1.size : Int) := w64 (by omega) (by omega)
    by_cases c : a - (x.f1.size : Int) < 0
    · refine ⟨-1, Ev.step (fun k => by rw [laws_szStmt.f]) ?_, .inl (by omega)⟩
      simp only [w1, c, if_true]
      exact Ev.now _
    obtain ⟨t2, p2, g2⟩ := szExp_ev e2 _ (show 0 ≤ a - (x.f1.size : Int) by omega) (by omega)
    by_cases c2 : t2 < 0
    · refine ⟨-1, Ev.step (fun k => by rw [laws_szStmt.f]) ?_, .inl (by omega)⟩
      simp only [w1, c, if_false]
      refine Ev.then p2 ?_
      simp only [c2, if_true]
      exact Ev.now _
    obtain ⟨q2, r2, s2⟩ := g2.resolve_left c2
    obtain ⟨t3, p3, g3⟩ := szExp_ev e3 t2 q2 r2
    by_cases c3 : t3 < 0
    · refine ⟨-1, Ev.step (fun k => by rw [laws_szStmt.f]) ?_, .inl (by omega)⟩
      simp only [w1, c, if_false]
      refine Ev.then p2 ?_
      simp only [c2, if_false]
      refine Ev.then p3 ?_
      simp only [c3, if_true]
      exact Ev.now _
    obtain ⟨q3, r3, s3⟩ := g3.resolve_left c3
    obtain ⟨t4, p4, g4⟩ := szExp_ev e4 t3 q3 r3
    by_cases c4 : t4 < 0
    · refine ⟨-1, Ev.step (fun k => by rw [laws_szStmt.f]) ?_, .inl (by omega)⟩
      simp only [w1, c, if_false]
      refine Ev.then p2 ?_
      simp only [c2, if_false]
      refine Ev.then p3 ?_
      simp only [c3, if_false]
      refine Ev.then p4 ?_
      simp only [c4, if_true]
      exact Ev.now _
    obtain ⟨q4, r4, s4⟩ := g4.resolve_left c4
    obtain ⟨t5, p5, g5⟩ := szExp_ev e5 t4 q4 r4
    by_cases c5 : t5 < 0
    · refine ⟨-1, Ev.step (fun k => by rw [laws_szStmt.f]) ?_, .inl (by omega)⟩
      simp only [w1, c, if_false]
      refine Ev.then p2 ?_
      simp only [c2, if_false]
      refine Ev.then p3 ?_
      simp only [c3, if_false]
      refine Ev.then p4 ?_
      simp only [c4, if_false]
      refine Ev.then p5 ?_
      simp only [c5, if_true]
      exact Ev.now _
    obtain ⟨q5, r5, s5⟩ := g5.resolve_left c5
    obtain ⟨t6, p6, g6⟩ := szStmtS_of x.f6 hl ih t5 q5 r5
    have go : Ev (fun k => laws_szStmt.f k x.f0 x.f1 x.f2.f0 x.f2.f1 x.f2.f2 x.f2.f3 x.f3.f0 x.f3.f1 x.f3.f2 x.f3.f3 x.f4.f0 x.f4.f1 x.f4.f2 x.f4.f3 x.f5.f0 x.f5.f1 x.f5.f2 x.f5.f3 x.f6 a) (if t6 < 0 then -1 else t6) := by
      refine Ev.step (fun k => by rw [laws_szStmt.f]) ?_
      simp only [w1, c, if_false]
      refine Ev.then p2 ?_
      simp only [c2, if_false]
      refine Ev.then p3 ?_
      simp only [c3, if_false]
      refine Ev.then p4 ?_
      simp only [c4, if_false]
      refine Ev.then p5 ?_
      simp only [c5, if_false]
      refine Ev.then p6 ?_
      by_cases c6 : t6 < 0
      · simp only [c6, if_true]
        exact Ev.now _
      · simp only [c6, if_false]
        exact Ev.now _
    by_cases c6 : t6 < 0
    · rw [if_pos c6] at go
      exact ⟨-1, go, .inl (by omega)⟩
    · rw [if_neg c6] at go
      obtain ⟨q6, r6, s6, u6⟩ := g6.resolve_left c6
      exact ⟨t6, go, .inr ⟨q6, r6, SzS.mk x h1 s2 s3 s4 s5 s6 u6⟩⟩
theorem toStmtS_of (l : List S45) (hl : l.length ≤ 1048576) (ih : ∀ y ∈ l, Ev (fun k => laws_toStmt.f k y.f0 y.f1 y.f2.f0 y.f2.f1 y.f2.f2 y.f2.f3 y.f3.f0 y.f3.f1 y.f3.f2 y.f3.f3 y.f4.f0 y.f4.f1 y.f4.f2 y.f4.f3 y.f5.f0 y.f5.f1 y.f5.f2 y.f5.f3 y.f6) ((cvStmt y).f0, (cvStmt y).f1, (cvStmt y).f2.f0, (cvStmt y).f2.f1, (cvStmt y).f2.f2, (cvStmt y).f2.f3, (cvStmt y).f3.f0, (cvStmt y).f3.f1, (cvStmt y).f3.f2, (cvStmt y).f3.f3, (cvStmt y).f4.f0, (cvStmt y).f4.f1, (cvStmt y).f4.f2, (cvStmt y).f4.f3, (cvStmt y).f5.f0, (cvStmt y).f5.f1, (cvStmt y).f5.f2, (cvStmt y).f5.f3, (cvStmt y).f6)) : Ev (fun k => laws_toStmtS.f k l) (l.map cvStmt) := by
  refine Ev.step (fun k => by rw [laws_toStmtS.f]) ?_
  have c1 : (0 : Int) ≤ (l.length : Int) := by omega
  have c2 : l.length ≤ 1034834473200 := by omega
  simp only [c1, Int.toNat_natCast, c2, if_true]
  refine Ev.fill (g := fun k xs i => laws_toStmtS.l0 k l xs i) (l.map cvStmt) (by simp) z50 ?_ ?_
  · intro i xs hi hxs r hr
    have c : (i : Int) < (l.length : Int) := by omega
    have c0 : (0 : Int) ≤ (i : Int) := by omega
    have c3 : (i : Int) < (xs.length : Int) := by omega
    have hw : wrap64 ((i : Int) + 1) = ((i + 1 : Nat) : Int) := wi (n := l.length) hi (by simp only [maxLen]; omega)
    have e : (l.map cvStmt).getD i z50 = cvStmt (rd_T45 l (i : Int)) := by
      unfold rd_T45
      simp [List.getElem?_eq_getElem hi]
    rw [e] at hr
    refine Ev.step (fun k => by rw [laws_toStmtS.l0]) ?_
    simp only [c, c0, if_true]
    refine Ev.then (ih _ (rdSl_mem hi)) ?_
    simp only [c3, if_true, hw, Int.toNat_natCast, etaS]
    exact hr
  · intro xs hxs
    refine Ev.step (fun k => by rw [laws_toStmtS.l0]) ?_
    have c : ¬ (l.length : Int) < (l.length : Int) := by omega
    simp only [c, if_false]
    exact Ev.now _
theorem toStmt_ev {x : S45} (h : SzS x) : Ev (fun k => laws_toStmt.f k x.f0 x.f1 x.f2.f0 x.f2.f1 x.f2.f2 x.f2.f3 x.f3.f0 x.f3.f1 x.f3.f2 x.f3.f3 x.f4.f0 x.f4.f1 x.f4.f2 x.f4.f3 x.f5.f0 x.f5.f1 x.f5.f2 x.f5.f3 x.f6) ((cvStmt x).f0, (cvStmt x).f1, (cvStmt x).f2.f0, (cvStmt x).f2.f1, (cvStmt x).f2.f2, (cvStmt x).f2.f3, (cvStmt x).f3.f0, (cvStmt x).f3.f1, (cvStmt x).f3.f2, (cvStmt x).f3.f3, (cvStmt x).f4.f0, (cvStmt x).f4.f1, (cvStmt x).f4.f2, (cvStmt x).f4.f3, (cvStmt x).f5.f0, (cvStmt x).f5.f1, (cvStmt x).f5.f2, (cvStmt x).f5.f3, (cvStmt x).f6) := by
  induction h with
  | mk x h1 e2 e3 e4 e5 hl hy ih =>
    refine Ev.step (fun k => by rw [laws_toStmt.f]) ?_
    refine Ev.then (toExp_ev e2) (Ev.then (toExp_ev e3) (Ev.then (toExp_ev e4) (Ev.then (toExp_ev e5) (Ev.then (toStmtS_of x.f6 hl ih) ?_))))
    rw [cvStmt_f]
    simp only [cvExp_f]
    exact Ev.now _
theorem eqStmtS_of (l : List S45) (hl : l.length ≤ 1048576) (ih : ∀ y ∈ l, Ev (fun k => laws_eqStmt.f k (cvStmt y).f0 (cvStmt y).f1 (cvStmt y).f2.f0 (cvStmt y).f2.f1 (cvStmt y).f2.f2 (cvStmt y).f2.f3 (cvStmt y).f3.f0 (cvStmt y).f3.f1 (cvStmt y).f3.f2 (cvStmt y).f3.f3 (cvStmt y).f4.f0 (cvStmt y).f4.f1 (cvStmt y).f4.f2 (cvStmt y).f4.f3 (cvStmt y).f5.f0 (cvStmt y).f5.f1 (cvStmt y).f5.f2 (cvStmt y).f5.f3 (cvStmt y).f6 (cvStmt y).f0 (cvStmt y).f1 (cvStmt y).f2.f0 (cvStmt y).f2.f1 (cvStmt y).f2.f2 (cvStmt y).f2.f3 (cvStmt y).f3.f0 (cvStmt y).f3.f1 (cvStmt y).f3.f2 (cvStmt y).f3.f3 (cvStmt y).f4.f0 (cvStmt y).f4.f1 (cvStmt y).f4.f2 (cvStmt y).f4.f3 (cvStmt y).f5.f0 (cvStmt y).f5.f1 (cvStmt y).f5.f2 (cvStmt y).f5.f3 (cvStmt y).f6) true) : Ev (fun k => laws_eqStmtS.f k (l.map cvStmt) (l.map cvStmt)) true := by
  refine Ev.step (fun k => by rw [laws_eqStmtS.f]) ?_
  simp only [if_true]
  refine Ev.allT (g := fun k i => laws_eqStmtS.l0 k (l.map cvStmt) (l.map cvStmt) i) (n := l.length) ?_ ?_
  · intro i hi r hr
    have c : (i : Int) < ((l.map cvStmt).length : Int) := by rw [List.length_map]; omega
    have c0 : (0 : Int) ≤ (i : Int) := by omega
    have hw : wrap64 ((i : Int) + 1) = ((i + 1 : Nat) : Int) := wi (n := l.length) hi (by simp only [maxLen]; omega)
    refine Ev.step (fun k => by rw [laws_eqStmtS.l0]) ?_
    simp only [c, c0, if_true, hw, rdS_map l hi]
    refine Ev.then (ih _ (rdSl_mem hi)) ?_
    simp only [if_true]
    exact hr
  · refine Ev.step (fun k => by rw [laws_eqStmtS.l0]) ?_
    have c : ¬ (l.length : Int) < ((l.map cvStmt).length : Int) := by rw [List.length_map]; omega
    simp only [c, if_false]
    exact Ev.now _
theorem eqStmt_ev {x : S45} (h : SzS x) : Ev (fun k => laws_eqStmt.f k (cvStmt x).f0 (cvStmt x).f1 (cvStmt x).f2.f0 (cvStmt x).f2.f1 (cvStmt x).f2.f2 (cvStmt x).f2.f3 (cvStmt x).f3.f0 (cvStmt x).f3.f1 (cvStmt x).f3.f2 (cvStmt x).f3.f3 (cvStmt x).f4.f0 (cvStmt x).f4.f1 (cvStmt x).f4.f2 (cvStmt x).f4.f3 (cvStmt x).f5.f0 (cvStmt x).f5.f1 (cvStmt x).f5.f2 (cvStmt x).f5.f3 (cvStmt x).f6 (cvStmt x).f0 (cvStmt x).f1 (cvStmt x).f2.f0 (cvStmt x).f2.f1 (cvStmt x).f2.f2 (cvStmt x).f2.f3 (cvStmt x).f3.f0 (cvStmt x).f3.f1 (cvStmt x).f3.f2 (cvStmt x).f3.f3 (cvStmt x).f4.f0 (cvStmt x).f4.f1 (cvStmt x).f4.f2 (cvStmt x).f4.f3 (cvStmt x).f5.f0 (cvStmt x).f5.f1 (cvStmt x).f5.f2 (cvStmt x).f5.f3 (cvStmt x).f6) true := by
  induction h with
  | mk x h1 e2 e3 e4 e5 hl hy ih =>
    rw [cvStmt_f]
    refine Ev.step (fun k => by rw [laws_eqStmt.f]) ?_
    simp only [if_true]
    refine Ev.then (eqExp_ev e2) ?_
    simp only [if_true]
    refine Ev.then (eqExp_ev e3) ?_
    simp only [if_true]
    refine Ev.then (eqExp_ev e4) ?_
    simp only [if_true]
    refine Ev.then (eqExp_ev e5) ?_
    simp only [if_true]
    refine Ev.then (eqStmtS_of x.f6 hl ih) ?_
    simp only [if_true]
    exact Ev.now _
inductive OkS : S50 → Prop
  | mk (x : S50) (h1 : x.f1.size ≤ maxLen) (e2 : OkE x.f2) (e3 : OkE x.f3) (e4 : OkE x.f4) (e5 : OkE x.f5) (hl : x.f6.length ≤ maxLen) (hy : ∀ y ∈ x.f6, OkS y) : OkS x
theorem OkS.of {x : S45} (h : SzS x) : OkS (cvStmt x) := by
  induction h with
  | mk x h1 e2 e3 e4 e5 hl hy ih =>
    rw [cvStmt_f]
    refine OkS.mk _ h1 (OkE.of e2) (OkE.of e3) (OkE.of e4) (OkE.of e5) (by simp only [List.length_map, maxLen]; omega) fun y hy => ?_
    obtain ⟨z, hz, rfl⟩ := List.mem_map.1 hy
    exact ih z hz
theorem szProg_ev (l : List S117) (b : List S45) (hl : l.length ≤ maxLen) (hs : ∀ x ∈ l, x.f0.size ≤ maxLen) (hb : b.length ≤ maxLen) (hg : ∀ y ∈ b, GoodS y) :
    ∃ t, Ev (fun k => laws_szProg.f k l b 1048576) t ∧ (t < 0 ∨ l.length ≤ 1048576 ∧ b.length ≤ 1048576 ∧ ∀ y ∈ b, SzS y) := by
  unfold laws_szProg.f
  obtain ⟨t, h1, h2⟩ := szArrS_ev l hl hs 1048576 (by omega) (by omega)
  by_cases e : t < 0
  · refine ⟨-1, Ev.then h1 ?_, .inl (by omega)⟩
    simp only [e, if_true]
    exact Ev.now _
  · have h2' := h2.resolve_left e
    obtain ⟨q, h3, h4⟩ := szStmtS_of b hb (fun y hy => szStmt_ev (hg y hy)) t h2'.1 h2'.2.1
    by_cases e2 : q < 0
    · refine ⟨-1, Ev.then h1 ?_, .inl (by omega)⟩
      simp only [e, if_false]
      refine Ev.then h3 ?_
      simp only [e2, if_true]
      exact Ev.now _
    · have h4' := h4.resolve_left e2
      refine ⟨q, Ev.then h1 ?_, .inr ⟨h2'.2.2, h4'.2.2.1, h4'.2.2.2⟩⟩
      simp only [e, if_false]
      refine Ev.then h3 ?_
      simp only [e2, if_false]
      exact Ev.now _
theorem toProg_ev (l : List S117) (b : List S45) (hl : l.length ≤ 1048576) (hb : b.length ≤ 1048576) (hg : ∀ y ∈ b, SzS y) : Ev (fun k => laws_toProg.f k l b) (l.map cvArr, b.map cvStmt) := by
  unfold laws_toProg.f
  exact Ev.then (toArrS_ev l hl) (Ev.then (toStmtS_of b hb fun y hy => toStmt_ev (hg y hy)) (Ev.now _))
theorem eqProg_ev (l : List S117) (b : List S45) (hl : l.length ≤ 1048576) (hb : b.length ≤ 1048576) (hg : ∀ y ∈ b, SzS y) : Ev (fun k => laws_eqProg.f k (l.map cvArr) (b.map cvStmt) (l.map cvArr) (b.map cvStmt)) true := by
  unfold laws_eqProg.f
  refine Ev.then (eqArrS_ev (l.map cvArr) (by rw [List.length_map]; simp only [maxLen]; omega)) ?_
  simp only [if_true]
  refine Ev.then (eqStmtS_of b hb fun y hy => eqStmt_ev (hg y hy)) ?_
  simp only [if_true]
  exact Ev.now _
theorem arrAt_ev (l : List S98) (b : List S50) (nm : ByteArray) (hl : l.length ≤ maxLen) : ∃ t, Ev (fun k => spec_ArrAt.f k l b nm) t ∧ Ev (fun k => impl_ArrAt.f k l b nm) t := by
  have key : ∀ d i, i + d = l.length → ∃ t, Ev (fun k => spec_ArrAt.l0 k nm (i : Int) l b) t ∧ Ev (fun k => impl_ArrAtIdx.l0 k l nm (l.length : Int) (i : Int)) t := by
    intro d
    induction d with
    | zero =>
      intro i hi
      have c : ¬ (i : Int) < (l.length : Int) := by omega
      refine ⟨-1, Ev.step (fun k => by rw [spec_ArrAt.l0]) ?_, Ev.step (fun k => by rw [impl_ArrAtIdx.l0]) ?_⟩
      · simp only [c, if_false]
        exact Ev.now _
      · simp only [c, if_false]
        exact Ev.now _
    | succ d ih =>
      intro i hi
      have c : (i : Int) < (l.length : Int) := by omega
      have c0 : (0 : Int) ≤ (i : Int) := by omega
      have hw : wrap64 ((i : Int) + 1) = ((i + 1 : Nat) : Int) := wi (n := l.length) (by omega) hl
      by_cases e : ((rd_T98 l (i : Int)).f0).toList = nm.toList
      · refine ⟨i, Ev.step (fun k => by rw [spec_ArrAt.l0]) ?_, Ev.step (fun k => by rw [impl_ArrAtIdx.l0]) ?_⟩
        · simp only [c, c0, e, if_true]
          exact Ev.now _
        · simp only [c, c0, e, if_true]
          exact Ev.now _
      · obtain ⟨t, h1, h2⟩ := ih (i + 1) (by omega)
        refine ⟨t, Ev.step (fun k => by rw [spec_ArrAt.l0]) ?_, Ev.step (fun k => by rw [impl_ArrAtIdx.l0]) ?_⟩
        · simp only [c, c0, e, if_true, if_false, hw]
          exact h1
        · simp only [c, c0, e, if_true, if_false, hw]
          exact h2
  obtain ⟨t, h1, h2⟩ := key l.length 0 (by omega)
  exact ⟨t, h1, h2⟩
theorem FnExactArrAt (l : List S117) (b : List S45) (nm : ByteArray) (hl : l.length ≤ maxLen) (hx : ∀ y ∈ l, y.f0.size ≤ maxLen ∧ (Lit.int .i64 y.f1).wf = true) (hb : b.length ≤ maxLen) (hg : ∀ y ∈ b, GoodS y) (_ : nm.size ≤ maxLen) :
    ∃ k, laws_FnExactArrAt.f k l b nm = some true := by
  apply Ev.rounds
  unfold laws_FnExactArrAt.f
  by_cases c : (nm.size : Int) > 1048576
  · simp only [c, if_true]
    exact Ev.now _
  · simp only [c, if_false]
    obtain ⟨t, h1, h2⟩ := szProg_ev l b hl (fun x h => (hx x h).1) hb hg
    refine Ev.then h1 ?_
    by_cases e : t < 0
    · simp only [e, if_true]
      exact Ev.now _
    · simp only [e, if_false]
      obtain ⟨g1, g2, g3⟩ := h2.resolve_left e
      have ta := toProg_ev l b g1 g2 g3
      obtain ⟨r, s1, s2⟩ := arrAt_ev (l.map cvArr) (b.map cvStmt) nm (by rw [List.length_map]; exact hl)
      refine Ev.then ta (Ev.then s1 (Ev.then ta (Ev.then s2 ?_)))
      simp only [if_true]
      refine Ev.then ta (Ev.then (eqProg_ev l b g1 g2 g3) ?_)
      simp only [if_true]
      exact Ev.now _

end Go.Proofs.Ytmmdgciefehbcaa.Pure
