/- The pure statement of FnExactStmtOk: what the printed functions compute makes the law answer true. Conditions: those in the statement. -/
import Derived.Test.YtmmdgciefehbcaaVFnExactStmtOk
import Derived.Test.YtmmdgciefehbcaaPFnExactStmtOkx0
import Derived.Test.YtmmdgciefehbcaaPFnExactStmtOkx1
import Derived.Test.YtmmdgciefehbcaaPFnExactStmtOkx2
import Derived.Test.YtmmdgciefehbcaaPFnExactStmtOkx3
import Derived.Test.YtmmdgciefehbcaaPFnExactStmtOkx4
import Derived.Test.YtmmdgciefehbcaaPFnExactStmtOkx5
import Derived.Test.YtmmdgciefehbcaaPFnExactStmtOkx6
import Derived.Test.YtmmdgciefehbcaaPFnExactStmtOkx7
import Derived.Test.YtmmdgciefehbcaaPFnExactStmtOkx8
import Derived.Test.YtmmdgciefehbcaaPFnExactStmtOkx9
namespace Go.Proofs.Ytmmdgciefehbcaa.Pure
open Go.RowKit Go.Proofs.Ytmmdgciefehbcaa.PFnExactStmtOk Go.Proofs.YtmmdgciefehbcaaW.PrintWords Go.Proofs.YtmmdgciefehbcaaW.PrintLast Go.Proofs.YtmmdgciefehbcaaW.PrintMore Go.Proofs.Ytmmdgciefehbcaa.Lem
set_option linter.unusedVariables false
set_option linter.unusedSimpArgs false

theorem spec_l1In_eq (a b c : Int) : spec_l1In.f a b c = some (decide (b ≤ a) && decide (a ≤ c)) := by
  unfold spec_l1In.f
  by_cases h : a ≥ b
  · have h' : b ≤ a := h
    simp [h']
  · have h' : ¬ b ≤ a := h
    simp [h']
theorem impl_inRange_eq (a b c : Int) : impl_inRange.f a b c = some (decide (b ≤ a) && decide (a ≤ c)) := by
  unfold impl_inRange.f
  by_cases h : a ≥ b
  · have h' : b ≤ a := h
    simp [h']
  · have h' : ¬ b ≤ a := h
    simp [h']
theorem impl_isLetter_eq (a : Int) : impl_isLetter.f a = some (decide (97 ≤ a) && decide (a ≤ 122)) := by
  unfold impl_isLetter.f
  by_cases h : a ≥ 97
  · have h' : 97 ≤ a := h
    simp [h']
  · have h' : ¬ 97 ≤ a := h
    simp [h']
theorem spec_l2Small_eq (a : Int) (h0 : 0 ≤ a) (h1 : a ≤ 255) : spec_l2Small.f a = some (decide (97 ≤ a) && decide (a ≤ 122)) := by
  unfold spec_l2Small.f
  rw [w64 (by omega) (by omega), spec_l1In_eq]
  rfl
theorem spec_l2Has_ev (xs : List ByteArray) (s : ByteArray) (hn : xs.length ≤ maxLen) : Ev (fun k => spec_l2Has.f k xs s) (xs.any fun x => x.toList == s.toList) := by
  unfold spec_l2Has.f
  have key : ∀ d i, i + d = xs.length → Ev (fun k => spec_l2Has.l0 k xs s (i : Int)) ((xs.drop i).any fun x => x.toList == s.toList) := by
    intro d
    induction d with
    | zero =>
      intro i hi
      refine Ev.step (fun k => by rw [spec_l2Has.l0]) ?_
      have c : ¬ (i : Int) < (xs.length : Int) := by omega
      simp only [c, if_false]
      rw [List.drop_eq_nil_of_le (by omega)]
      exact Ev.now _
    | succ d ih =>
      intro i hi
      refine Ev.step (fun k => by rw [spec_l2Has.l0]) ?_
      have c : (i : Int) < (xs.length : Int) := by omega
      have c0 : (0 : Int) ≤ (i : Int) := by omega
      have hw : wrap64 ((i : Int) + 1) = ((i + 1 : Nat) : Int) := wi (by omega) hn
      have hd : xs.drop i = rdOf ByteArray.empty xs (i : Int) :: xs.drop (i + 1) := by
        rw [List.drop_eq_getElem_cons (by omega)]
        simp [rdOf, List.getElem?_eq_getElem (show i < xs.length by omega)]
      rw [hd, List.any_cons]
      simp only [c, c0, if_true, hw]
      by_cases e : (rdOf ByteArray.empty xs (i : Int)).toList = s.toList
      · simp only [e, if_true, beq_self_eq_true, Bool.true_or]
        exact Ev.now _
      · simp only [e, if_false]
        have e' : ((rdOf ByteArray.empty xs (i : Int)).toList == s.toList) = false := by simpa using e
        rw [e', Bool.false_or]
        exact ih (i + 1) (by omega)
  have := key xs.length 0 (by omega)
  simpa using this
theorem spec_l2Kept_ev (s : ByteArray) : Ev (fun k => spec_l2Kept.f k s) (keptS s) := by
  unfold spec_l2Kept.f
  refine Ev.then (spec_l2Has_ev _ s (by simp [maxLen])) ?_
  have : (List.any [(⟨#[97, 114, 114, 97, 121]⟩ : ByteArray), (⟨#[102, 111, 114]⟩ : ByteArray), (⟨#[116, 111]⟩ : ByteArray), (⟨#[112, 114, 105, 110, 116]⟩ : ByteArray), (⟨#[109, 105, 110]⟩ : ByteArray), (⟨#[109, 97, 120]⟩ : ByteArray)] fun x => x.toList == s.toList) = keptS s := by
    simp only [keptS, keptL, List.any_cons, List.any_nil, toList_data]
  rw [this]
  exact Ev.now _
theorem impl_isKept_eq (s : ByteArray) : impl_isKept.f s = some (keptS s) := by
  unfold impl_isKept.f keptS keptL
  have hb : ∀ l : List UInt8, decide (s.toList = l) = (l == s.toList) := fun l => by
    by_cases h : s.toList = l
    · rw [decide_eq_true h, ← h, beq_self_eq_true]
    · rw [decide_eq_false h, beq_eq_false_iff_ne.mpr (fun e => h e.symm)]
  simp only [if_or, hb, List.any_cons, List.any_nil]
theorem spec_NameOk_ev (s : ByteArray) (hn : s.size ≤ maxLen) : Ev (fun k => spec_NameOk.f k s) (nameS s) := by
  unfold spec_NameOk.f nameS
  refine Ev.run (g := fun k i (_ : Unit) => spec_NameOk.l0 k s i) _ _ ?_ ?_ ()
  · intro i u hi
    have c : (i : Int) < (s.size : Int) := by omega
    have c0 : (0 : Int) ≤ (i : Int) := by omega
    have hw : wrap64 ((i : Int) + 1) = ((i + 1 : Nat) : Int) := wi hi hn
    have hl : spec_l2Small.f (bt s (i : Int)) = some (letS s i) := spec_l2Small_eq _ (bt_range s i).1 (bt_range s i).2
    cases e : letS s i with
    | true =>
      simp only [if_true]
      intro r hr
      refine Ev.step (fun k => by rw [spec_NameOk.l0]) ?_
      simp only [c, c0, if_true, hl, e, Option.bind_some, hw]
      exact hr
    | false =>
      simp only [Bool.false_eq_true, if_false]
      refine Ev.step (fun k => by rw [spec_NameOk.l0]) ?_
      simp only [c, c0, if_true, hl, e, Option.bind_some, Bool.false_eq_true, if_false]
      exact Ev.now _
  · intro u
    refine Ev.step (fun k => by rw [spec_NameOk.l0]) ?_
    have c : ¬ (s.size : Int) < (s.size : Int) := by omega
    simp only [c, if_false, spec_l1In_eq, Option.bind_some]
    have e1 : (decide ((1 : Int) ≤ (s.size : Int)) && decide ((s.size : Int) ≤ 6)) = (decide (1 ≤ s.size) && decide (s.size ≤ 6)) := by
      rw [Bool.eq_iff_iff]
      simp
      omega
    rw [e1]
    cases e : (decide (1 ≤ s.size) && decide (s.size ≤ 6)) with
    | true =>
      simp only [if_true, Bool.true_and]
      exact Ev.then (spec_l2Kept_ev s) (Ev.now _)
    | false =>
      simp only [Bool.false_eq_true, if_false, Bool.false_and]
      exact Ev.now _
theorem impl_NameOk_ev (s : ByteArray) (hn : s.size ≤ maxLen) : Ev (fun k => impl_NameOk.f k s) (nameS s) := by
  unfold impl_NameOk.f nameS
  refine Ev.run (g := fun k i (_ : Unit) => impl_NameOk.l0 k s i) _ _ ?_ ?_ ()
  · intro i u hi
    have c : (i : Int) < (s.size : Int) := by omega
    have c0 : (0 : Int) ≤ (i : Int) := by omega
    have hw : wrap64 ((i : Int) + 1) = ((i + 1 : Nat) : Int) := wi hi hn
    have hl : impl_isLetter.f (bt s (i : Int)) = some (letS s i) := impl_isLetter_eq _
    cases e : letS s i with
    | true =>
      simp only [if_true]
      intro r hr
      refine Ev.step (fun k => by rw [impl_NameOk.l0]) ?_
      simp only [c, c0, if_true, hl, e, Option.bind_some, hw]
      exact hr
    | false =>
      simp only [Bool.false_eq_true, if_false]
      refine Ev.step (fun k => by rw [impl_NameOk.l0]) ?_
      simp only [c, c0, if_true, hl, e, Option.bind_some, Bool.false_eq_true, if_false]
      exact Ev.now _
  · intro u
    refine Ev.step (fun k => by rw [impl_NameOk.l0]) ?_
    have c : ¬ (s.size : Int) < (s.size : Int) := by omega
    simp only [c, if_false, impl_inRange_eq, Option.bind_some]
    have e1 : (decide ((1 : Int) ≤ (s.size : Int)) && decide ((s.size : Int) ≤ 6)) = (decide (1 ≤ s.size) && decide (s.size ≤ 6)) := by
      rw [Bool.eq_iff_iff]
      simp
      omega
    rw [e1]
    cases e : (decide (1 ≤ s.size) && decide (s.size ≤ 6)) with
    | true =>
      simp only [if_true, Bool.true_and, impl_isKept_eq, Option.bind_some]
      exact Ev.now _
    | false =>
      simp only [Bool.false_eq_true, if_false, Bool.false_and]
      exact Ev.now _

/-! ### trees of sums -/
inductive GoodE : S24 → Prop
  | mk (x : S24) (h2 : x.f2.size ≤ maxLen) (h3 : x.f3.length ≤ maxLen) (hy : ∀ y ∈ x.f3, GoodE y) : GoodE x
inductive SzE : S24 → Prop
  | mk (x : S24) (h2 : x.f2.size ≤ maxLen) (h3 : x.f3.length ≤ 1048576) (hy : ∀ y ∈ x.f3, SzE y) : SzE x
mutual
def cvExp : S24 → S29
  | ⟨a, b, c, l⟩ => ⟨a, b, c, cvExpS l⟩
def cvExpS : List S24 → List S29
  | [] => []
  | x :: xs => cvExp x :: cvExpS xs
end
theorem cvExpS_map (l : List S24) : cvExpS l = l.map cvExp := by
  induction l with
  | nil => rfl
  | cons x xs ih => rw [cvExpS, ih, List.map_cons]
theorem cvExp_f (x : S24) : cvExp x = ⟨x.f0, x.f1, x.f2, x.f3.map cvExp⟩ := by
  obtain ⟨a, b, c, l⟩ := x
  rw [cvExp, cvExpS_map]
theorem szExp_ev {x : S24} (h : GoodE x) : ∀ a : Int, 0 ≤ a → a ≤ 1048576 → ∃ t, Ev (fun k => laws_szExp.f k x.f0 x.f1 x.f2 x.f3 a) t ∧ (t < 0 ∨ 0 ≤ t ∧ t ≤ 1048576 ∧ SzE x) := by
  induction h with
  | mk x h2 h3 hy ih =>
    intro a a0 a1
    have h2' := h2
    have h3' := h3
    simp only [maxLen] at h2' h3'
    have w1 : wrap64 (a - (x.f2.size : Int)) = a - (x.f2.size : Int) := w64 (by omega) (by omega)
    by_cases c : a - (x.f2.size : Int) < 0
    · refine ⟨-1, Ev.step (fun k => by rw [laws_szExp.f]) ?_, .inl (by omega)⟩
      simp only [w1, c, if_true]
      exact Ev.now _
    have key : ∀ d i, i + d = x.f3.length → ∀ b : Int, 0 ≤ b → b ≤ 1048576 → ∃ t, Ev (fun k => laws_szExpS.l0 k x.f3 b (i : Int)) t ∧ (t < 0 ∨ 0 ≤ t ∧ t ≤ 1048576 ∧ ∀ y ∈ x.f3.drop i, SzE y) := by
      intro d
      induction d with
      | zero =>
        intro i hi b hb0 hb1
        refine ⟨b, Ev.step (fun k => by rw [laws_szExpS.l0]) ?_, .inr ⟨hb0, hb1, by rw [List.drop_eq_nil_of_le (by omega)]; simp⟩⟩
        have c : ¬ (i : Int) < (x.f3.length : Int) := by omega
        simp only [c, if_false]
        exact Ev.now _
      | succ d ihd =>
        intro i hi b hb0 hb1
        have c : (i : Int) < (x.f3.length : Int) := by omega
        have c0 : (0 : Int) ≤ (i : Int) := by omega
        have hw : wrap64 ((i : Int) + 1) = ((i + 1 : Nat) : Int) := wi (n := x.f3.length) (by omega) h3
        have hd : x.f3.drop i = rd_T24 x.f3 (i : Int) :: x.f3.drop (i + 1) := drop_cons x.f3 _ (by omega)
        have hm : rd_T24 x.f3 (i : Int) ∈ x.f3 := getD_mem x.f3 _ (by omega)
        obtain ⟨t, ht, h2⟩ := ih _ hm b hb0 hb1
        by_cases c2 : t < 0
        · refine ⟨-1, Ev.step (fun k => by rw [laws_szExpS.l0]) ?_, .inl (by omega)⟩
          simp only [c, c0, if_true]
          refine Ev.then ht ?_
          simp only [c2, if_true]
          exact Ev.now _
        · have h2' := h2.resolve_left c2
          obtain ⟨q, h3, h4⟩ := ihd (i + 1) (by omega) t h2'.1 h2'.2.1
          refine ⟨q, Ev.step (fun k => by rw [laws_szExpS.l0]) ?_, h4.imp id fun h => ⟨h.1, h.2.1, ?_⟩⟩
          · simp only [c, c0, if_true]
            refine Ev.then ht ?_
            simp only [c2, if_false, hw]
            exact h3
          · rw [hd]
            intro y hy
            rcases List.mem_cons.1 hy with rfl | hy
            · exact h2'.2.2
            · exact h.2.2 y hy
    have w2 : wrap64 (a - (x.f2.size : Int) - (x.f3.length : Int)) = a - (x.f2.size : Int) - (x.f3.length : Int) := w64 (by omega) (by omega)
    by_cases c3 : a - (x.f2.size : Int) - (x.f3.length : Int) < 0
    · refine ⟨-1, Ev.step (fun k => by rw [laws_szExp.f]) ?_, .inl (by omega)⟩
      simp only [w1, c, if_false]
      refine Ev.then (Ev.step (fun k => by rw [laws_szExpS.f]) (r := (-1 : Int)) ?_) ?_
      · simp only [w2, c3, if_true]
        exact Ev.now _
      · simp only [show ((-1 : Int) < 0) by omega, if_true]
        exact Ev.now _
    · obtain ⟨t, h4, h5⟩ := key x.f3.length 0 (by omega) (a - (x.f2.size : Int) - (x.f3.length : Int)) (by omega) (by omega)
      have e1 : Ev (fun k => laws_szExpS.f k x.f3 (a - (x.f2.size : Int))) t := by
        refine Ev.step (fun k => by rw [laws_szExpS.f]) ?_
        simp only [w2, c3, if_false]
        exact h4
      by_cases c4 : t < 0
      · refine ⟨-1, Ev.step (fun k => by rw [laws_szExp.f]) ?_, .inl (by omega)⟩
        simp only [w1, c, if_false]
        refine Ev.then e1 ?_
        simp only [c4, if_true]
        exact Ev.now _
      · have h5' := h5.resolve_left c4
        refine ⟨t, Ev.step (fun k => by rw [laws_szExp.f]) ?_, .inr ⟨h5'.1, h5'.2.1, SzE.mk x h2 (by omega) (by simpa using h5'.2.2)⟩⟩
        simp only [w1, c, if_false]
        refine Ev.then e1 ?_
        simp only [c4, if_false]
        exact Ev.now _
theorem toExp_ev {x : S24} (h : SzE x) : Ev (fun k => laws_toExp.f k x.f0 x.f1 x.f2 x.f3) (x.f0, x.f1, x.f2, x.f3.map cvExp) := by
  induction h with
  | mk x h2 hl hy ih =>
    refine Ev.step (fun k => by rw [laws_toExp.f]) ?_
    refine Ev.then (Ev.step (fun k => by rw [laws_toExpS.f]) (r := x.f3.map cvExp) ?_) (Ev.now _)
    generalize x.f3 = l at *
    have c1 : (0 : Int) ≤ (l.length : Int) := by omega
    have c2 : ((l.length : Int) : Int).toNat ≤ 5026338869833 := by omega
    simp only [c1, c2, if_true]
    have key : ∀ d i, i + d = l.length → Ev (fun k => laws_toExpS.l0 k l ((l.take i).map cvExp ++ List.replicate d z29) (i : Int)) (l.map cvExp) := by
      intro d
      induction d with
      | zero =>
        intro i hi
        refine Ev.step (fun k => by rw [laws_toExpS.l0]) ?_
        have c : ¬ (i : Int) < (l.length : Int) := by omega
        simp only [c, if_false]
        have : l.take i = l := List.take_of_length_le (by omega)
        rw [this]
        simpa using Ev.now (List.map cvExp l)
      | succ d ihd =>
        intro i hi
        refine Ev.step (fun k => by rw [laws_toExpS.l0]) ?_
        have c : (i : Int) < (l.length : Int) := by omega
        have c0 : (0 : Int) ≤ (i : Int) := by omega
        have hw : wrap64 ((i : Int) + 1) = ((i + 1 : Nat) : Int) := wi (n := l.length) (by omega) (by simp only [maxLen]; omega)
        have hm : rd_T24 l (i : Int) ∈ l := getD_mem l _ (by omega)
        have c3 : (i : Int) < ((((l.take i).map cvExp ++ List.replicate (d + 1) z29).length : Nat) : Int) := by
          rw [List.length_append, List.length_map, List.length_take, List.length_replicate]
          omega
        simp only [c, c0, if_true, c3, hw]
        refine Ev.then (ih _ hm) ?_
        have e : (((l.take i).map cvExp ++ List.replicate (d + 1) z29).set ((i : Int) : Int).toNat (cvExp (rd_T24 l (i : Int)))) = (l.take (i + 1)).map cvExp ++ List.replicate d z29 := by
          have hg : rd_T24 l (i : Int) = l[i]'(by omega) := by
            simp [rd_T24, List.getElem?_eq_getElem (show i < l.length by omega)]
          rw [hg, Int.toNat_natCast, List.take_add_one, List.getElem?_eq_getElem (show i < l.length by omega)]
          rw [List.set_append_right _ _ (by simp; omega)]
          have : i - ((l.take i).map cvExp).length = 0 := by simp; omega
          rw [this, List.replicate_succ, List.set_cons_zero]
          simp only [Option.toList_some, List.map_append, List.map_cons, List.map_nil, List.append_assoc, List.cons_append, List.nil_append]
        have h2 := ihd (i + 1) (by omega)
        rw [← e, cvExp_f] at h2
        exact h2
    have h0 := key l.length 0 (by omega)
    simpa using h0
theorem eqExp_ev {x : S24} (h : SzE x) : Ev (fun k => laws_eqExp.f k (cvExp x).f0 (cvExp x).f1 (cvExp x).f2 (cvExp x).f3 (cvExp x).f0 (cvExp x).f1 (cvExp x).f2 (cvExp x).f3) true := by
  induction h with
  | mk x h2 hl hy ih =>
    refine Ev.step (fun k => by rw [laws_eqExp.f]) ?_
    simp only [if_true]
    rw [cvExp_f]
    refine Ev.then (Ev.step (fun k => by rw [laws_eqExpS.f]) (r := true) ?_) (by simp only [if_true]; exact Ev.now _)
    simp only [if_true]
    generalize x.f3 = l at *
    have key : ∀ d i, i + d = l.length → Ev (fun k => laws_eqExpS.l0 k (l.map cvExp) (l.map cvExp) (i : Int)) true := by
      intro d
      induction d with
      | zero =>
        intro i hi
        refine Ev.step (fun k => by rw [laws_eqExpS.l0]) ?_
        have c : ¬ (i : Int) < ((l.map cvExp).length : Int) := by rw [List.length_map]; omega
        simp only [c, if_false]
        exact Ev.now _
      | succ d ihd =>
        intro i hi
        refine Ev.step (fun k => by rw [laws_eqExpS.l0]) ?_
        have c : (i : Int) < ((l.map cvExp).length : Int) := by rw [List.length_map]; omega
        have c0 : (0 : Int) ≤ (i : Int) := by omega
        have hw : wrap64 ((i : Int) + 1) = ((i + 1 : Nat) : Int) := wi (n := l.length) (by omega) (by simp only [maxLen]; omega)
        have hm : rd_T24 l (i : Int) ∈ l := getD_mem l _ (by omega)
        have hr : rd_T29 (l.map cvExp) (i : Int) = cvExp (rd_T24 l (i : Int)) := by
          unfold rd_T29 rd_T24
          simp [List.getElem?_eq_getElem (show i < l.length by omega)]
        simp only [c, c0, if_true, hw, hr]
        refine Ev.then (ih _ hm) ?_
        simp only [if_true]
        exact ihd (i + 1) (by omega)
    exact key l.length 0 (by omega)
/-- What may be met in a tree that was made of a sized one. -/
inductive OkE : S29 → Prop
  | mk (x : S29) (h2 : x.f2.size ≤ maxLen) (hl : x.f3.length ≤ maxLen) (hy : ∀ y ∈ x.f3, OkE y) : OkE x
theorem OkE.of {x : S24} (h : SzE x) : OkE (cvExp x) := by
  induction h with
  | mk x h2 hl hy ih =>
    rw [cvExp_f]
    refine OkE.mk _ h2 (by simp only [List.length_map, maxLen]; omega) fun y hy => ?_
    obtain ⟨z, hz, rfl⟩ := List.mem_map.1 hy
    exact ih z hz
theorem rdE_mem {l : List S29} {i : Nat} (hi : i < l.length) : rd_T29 l (i : Int) ∈ l := by
  unfold rd_T29
  rw [Int.toNat_natCast]
  exact getD_mem l _ hi
def partsE (k : Int) : Int := if k = 1 ∨ k = 2 then 0 else if k = 3 then 1 else if 4 ≤ k ∧ k ≤ 8 then 2 else -1
def hereE (x : S29) : Bool := decide (partsE x.f0 = (x.f3.length : Int)) && (decide (x.f0 = 1) || decide (x.f1 = 0)) &&
  (if x.f0 = 1 then decide (0 ≤ x.f1) && decide (x.f1 ≤ 999999) && (x.f2.toList == []) else if x.f0 = 2 ∨ x.f0 = 3 then nameS x.f2 else x.f2.toList == [])
theorem spec_parts_ev (n : Int) : Ev (fun k => spec_l3Parts.f k n) (partsE n) := by
  unfold spec_l3Parts.f partsE
  by_cases h1 : n = 1
  · subst h1
    simp only [if_true, beq_self_eq_true, true_or]
    refine Ev.step (fun k => by rw [spec_l3Parts.j0]) ?_
    simp only [if_true]
    exact Ev.now _
  by_cases h2 : n = 2
  · subst h2
    simp only [beq_self_eq_true, or_true, if_true, show ¬ (2 : Int) = 1 by omega, if_false]
    refine Ev.step (fun k => by rw [spec_l3Parts.j0]) ?_
    simp only [if_true]
    exact Ev.now _
  have b2 : (n == 2) = false := by simpa using h2
  simp only [h1, h2, or_self, if_false, b2]
  refine Ev.step (fun k => by rw [spec_l3Parts.j0]) ?_
  simp only [Bool.false_eq_true, if_false]
  by_cases h3 : n = 3
  · simp only [h3, if_true]
    exact Ev.now _
  simp only [h3, if_false]
  by_cases h4 : 4 ≤ n ∧ n ≤ 8
  · simp only [h4, and_self, if_true]
    have : n = 4 ∨ n = 5 ∨ n = 6 ∨ n = 7 ∨ n = 8 := by omega
    rcases this with rfl | rfl | rfl | rfl | rfl <;> exact Ev.now _
  · have n4 : ¬ n = 4 := by omega
    have n5 : ¬ n = 5 := by omega
    have n6 : ¬ n = 6 := by omega
    have n7 : ¬ n = 7 := by omega
    have n8 : ¬ n = 8 := by omega
    simp only [h4, n4, n5, n6, n7, n8, if_false]
    exact Ev.now _
theorem spec_here_ev (x : S29) (hs : x.f2.size ≤ maxLen) : Ev (fun k => spec_l3Here.f k x.f0 x.f1 x.f2 x.f3) (hereE x) := by
  unfold spec_l3Here.f hereE
  have bad : Ev (fun k => spec_l3Here.j0 k true x.f0 x.f1 x.f2 x.f3) false := by
    refine Ev.step (fun k => by rw [spec_l3Here.j0]) ?_
    simp only [if_true]
    exact Ev.now _
  refine Ev.then (spec_parts_ev x.f0) ?_
  by_cases e : partsE x.f0 = (x.f3.length : Int)
  · simp only [e, if_true, decide_true, Bool.true_and]
    by_cases h1 : x.f0 = 1
    · simp only [h1, if_true, decide_true, Bool.true_or, Bool.true_and]
      refine Ev.step (fun k => by rw [spec_l3Here.j0]) ?_
      simp only [Bool.false_eq_true, if_false, if_true, spec_l1In_eq, Option.bind_some]
      cases hb : (decide ((0 : Int) ≤ x.f1) && decide (x.f1 ≤ 999999)) with
      | false =>
        simp only [Bool.false_eq_true, if_false, Bool.false_and]
        exact Ev.now _
      | true =>
        simp only [if_true, Bool.true_and]
        exact Ev.now _
    · simp only [h1, if_false, decide_false, Bool.false_or]
      by_cases h2 : x.f1 = 0
      · have b : (x.f1 != 0) = false := by simp [h2]
        simp only [b]
        refine Ev.step (fun k => by rw [spec_l3Here.j0]) ?_
        simp only [Bool.false_eq_true, if_false, h1, h2, decide_true, Bool.true_and]
        by_cases h3 : x.f0 = 2
        · simp only [h3, true_or, if_true]
          exact Ev.then (spec_NameOk_ev _ hs) (Ev.now _)
        by_cases h4 : x.f0 = 3
        · simp only [h4, or_true, if_true, show ¬ (3 : Int) = 2 by omega, if_false]
          exact Ev.then (spec_NameOk_ev _ hs) (Ev.now _)
        simp only [h3, h4, or_self, if_false]
        exact Ev.now _
      · have b : (x.f1 != 0) = true := by simp [h2]
        simp only [b, h2, decide_false, Bool.false_and]
        exact bad
  · simp only [e, if_false, decide_false, Bool.false_and]
    exact bad
theorem impl_parts_ev (x : S29) (hs : x.f2.size ≤ maxLen) : Ev (fun k => impl_Exp_partsOk.f k x.f0 x.f1 x.f2 x.f3) (hereE x) := by
  unfold impl_Exp_partsOk.f hereE partsE
  by_cases h1 : x.f0 = 1
  · simp only [h1, if_true, true_or, decide_true, Bool.true_or, Bool.and_true, impl_inRange_eq, Option.bind_some]
    have z : decide ((0 : Int) = (x.f3.length : Int)) = ((x.f3.length : Int) == 0) := by rw [Bool.eq_iff_iff, decide_eq_true_iff, beq_iff_eq]; exact eq_comm
    cases hb : (decide ((0 : Int) ≤ x.f1) && decide (x.f1 ≤ 999999)) with
    | false =>
      simp only [Bool.false_eq_true, if_false, Bool.false_and, Bool.and_false]
      exact Ev.now _
    | true =>
      simp only [if_true, Bool.true_and]
      by_cases h2 : x.f2.toList = []
      · simp only [h2, if_true, beq_self_eq_true, Bool.and_true, z]
        exact Ev.now _
      · have b : (x.f2.toList == []) = false := by simpa using h2
        simp only [h2, if_false, b, Bool.and_false]
        exact Ev.now _
  have z0 : decide ((0 : Int) = (x.f3.length : Int)) = ((x.f3.length : Int) == 0) := by rw [Bool.eq_iff_iff, decide_eq_true_iff, beq_iff_eq]; exact eq_comm
  have z1 : decide ((1 : Int) = (x.f3.length : Int)) = ((x.f3.length : Int) == 1) := by rw [Bool.eq_iff_iff, decide_eq_true_iff, beq_iff_eq]; exact eq_comm
  have z2 : decide ((2 : Int) = (x.f3.length : Int)) = ((x.f3.length : Int) == 2) := by rw [Bool.eq_iff_iff, decide_eq_true_iff, beq_iff_eq]; exact eq_comm
  by_cases h2 : x.f0 = 2
  · simp only [h2, show ¬ (2 : Int) = 1 by omega, if_true, if_false, or_true, true_or, decide_false, Bool.false_or]
    refine Ev.then (impl_NameOk_ev _ hs) ?_
    cases nameS x.f2 with
    | false =>
      simp only [Bool.false_eq_true, if_false, Bool.and_false]
      exact Ev.now _
    | true =>
      by_cases h3 : x.f1 = 0
      · simp only [h3, if_true, decide_true, Bool.and_true, z0]
        exact Ev.now _
      · simp only [h3, if_true, if_false, decide_false, Bool.and_false, Bool.false_and]
        exact Ev.now _
  by_cases h3 : x.f0 = 3
  · simp only [h3, show ¬ (3 : Int) = 1 by omega, show ¬ (3 : Int) = 2 by omega, or_self, if_true, if_false, or_true, decide_false, Bool.false_or]
    refine Ev.then (impl_NameOk_ev _ hs) ?_
    cases nameS x.f2 with
    | false =>
      simp only [Bool.false_eq_true, if_false, Bool.and_false]
      exact Ev.now _
    | true =>
      by_cases h4 : x.f1 = 0
      · simp only [h4, if_true, decide_true, Bool.and_true, z1]
        exact Ev.now _
      · simp only [h4, if_true, if_false, decide_false, Bool.and_false, Bool.false_and]
        exact Ev.now _
  simp only [h1, h2, h3, or_self, if_false, decide_false, Bool.false_or]
  unfold impl_isTwo.f
  simp only [impl_inRange_eq, Option.bind_some]
  by_cases h4 : 4 ≤ x.f0 ∧ x.f0 ≤ 8
  · simp only [h4, and_self, decide_true, Bool.and_true, if_true]
    by_cases h5 : x.f1 = 0
    · by_cases h6 : x.f2.toList = []
      · simp only [h5, h6, if_true, decide_true, Bool.and_true, beq_self_eq_true, z2]
        exact Ev.now _
      · have b : (x.f2.toList == []) = false := by simpa using h6
        simp only [h5, h6, if_true, if_false, b, Bool.and_false]
        exact Ev.now _
    · simp only [h5, if_false, decide_false, Bool.and_false, Bool.false_and]
      exact Ev.now _
  · have b : (decide ((4 : Int) ≤ x.f0) && decide (x.f0 ≤ 8)) = false := by
      rw [Bool.and_eq_false_iff]
      simp only [decide_eq_false_iff_not]
      omega
    have b2 : decide ((-1 : Int) = (x.f3.length : Int)) = false := by
      rw [decide_eq_false_iff_not]
      omega
    simp only [b, h4, if_false, Bool.false_eq_true, b2, Bool.false_and]
    exact Ev.now _
theorem here_two {x : S29} (h : hereE x = true) : x.f3.length ≤ 2 := by
  simp only [hereE, Bool.and_eq_true, decide_eq_true_eq] at h
  have := h.1.1
  unfold partsE at this
  split at this
  · omega
  · split at this
    · omega
    · split at this <;> omega
def cntL (g : S29 → Int) : List S29 → Int → Int
  | [], n => n
  | y :: ys, n => if n ≤ 60 then cntL g ys (n + g y) else n
/-- How many there are, as the reference counts: above 60 something is not right. -/
def cntE : Nat → S29 → Int
  | 0, _ => 100
  | r + 1, x => if hereE x = true then cntL (cntE r) x.f3 1 else 100
def mesL (g : S29 → Int) : List S29 → Int → Int
  | [], n => n
  | y :: ys, n => if g y < 0 then -1 else mesL g ys (n + g y)
/-- How many there are, as the program counts: -1 where something is not right. -/
def mesE : Nat → S29 → Int
  | 0, _ => -1
  | r + 1, x => if hereE x = true then mesL (mesE r) x.f3 1 else -1
theorem cntL_bd (g : S29 → Int) (B : Int) (hB : 0 ≤ B) : ∀ (l : List S29), (∀ y ∈ l, 1 ≤ g y ∧ g y ≤ B) → ∀ n, 1 ≤ n → 1 ≤ cntL g l n ∧ (cntL g l n ≤ n ∨ cntL g l n ≤ 60 + B)
  | [], _, n, hn => ⟨hn, .inl (Int.le_refl _)⟩
  | y :: ys, h, n, hn => by
    unfold cntL
    have h1 := h y List.mem_cons_self
    by_cases c : n ≤ 60
    · rw [if_pos c]
      have := cntL_bd g B hB ys (fun z hz => h z (List.mem_cons_of_mem _ hz)) (n + g y) (by omega)
      omega
    · rw [if_neg c]
      omega
theorem cntE_bd : ∀ (r : Nat) (x : S29), 1 ≤ cntE r x ∧ cntE r x ≤ 100 + 60 * r
  | 0, x => by simp [cntE]
  | r + 1, x => by
    unfold cntE
    split
    · have := cntL_bd (cntE r) (100 + 60 * r) (by omega) x.f3 (fun y _ => cntE_bd r y) 1 (by omega)
      omega
    · omega
def bnd : Nat → Int
  | 0 => 0
  | r + 1 => 1 + 2 * bnd r
theorem bnd_nn : ∀ r, 0 ≤ bnd r
  | 0 => by simp [bnd]
  | r + 1 => by
    have := bnd_nn r
    simp only [bnd]
    omega
theorem mesL_bd (g : S29 → Int) (B : Int) (hB : 0 ≤ B) : ∀ (l : List S29), (∀ y ∈ l, (g y = -1 ∨ 1 ≤ g y) ∧ g y ≤ B) → ∀ n, 1 ≤ n → (mesL g l n = -1 ∨ n ≤ mesL g l n) ∧ mesL g l n ≤ n + l.length * B
  | [], _, n, hn => ⟨.inr (Int.le_refl _), by simp [mesL]⟩
  | y :: ys, h, n, hn => by
    unfold mesL
    have h1 := h y List.mem_cons_self
    have hm : ((ys.length + 1 : Nat) : Int) * B = ys.length * B + B := by
      rw [Int.natCast_add, Int.add_mul]
      simp
    have hp : 0 ≤ (ys.length : Int) * B := Int.mul_nonneg (by omega) hB
    rw [List.length_cons, hm]
    by_cases c : g y < 0
    · rw [if_pos c]
      omega
    · rw [if_neg c]
      have := mesL_bd g B hB ys (fun z hz => h z (List.mem_cons_of_mem _ hz)) (n + g y) (by omega)
      omega
theorem mesE_bd : ∀ (r : Nat) (x : S29), (mesE r x = -1 ∨ 1 ≤ mesE r x) ∧ mesE r x ≤ bnd r
  | 0, x => by simp [mesE, bnd]
  | r + 1, x => by
    have hb := bnd_nn r
    unfold mesE
    split
    · rename_i hh
      have h2 := here_two hh
      have := mesL_bd (mesE r) (bnd r) hb x.f3 (fun y _ => mesE_bd r y) 1 (by omega)
      have hm : (x.f3.length : Int) * bnd r ≤ 2 * bnd r := Int.mul_le_mul_of_nonneg_right (by omega) hb
      generalize (x.f3.length : Int) * bnd r = q at *
      simp only [bnd]
      omega
    · simp only [bnd]
      exact ⟨.inl trivial, by omega⟩
theorem cntL_big (g : S29 → Int) : ∀ (l : List S29) (n : Int), 60 < n → cntL g l n = n
  | [], n, _ => rfl
  | y :: ys, n, h => by
    unfold cntL
    rw [if_neg (by omega)]
theorem mesL_big (g : S29 → Int) : ∀ (l : List S29), (∀ y ∈ l, g y = -1 ∨ 1 ≤ g y) → ∀ n, 60 < n → mesL g l n = -1 ∨ 60 < mesL g l n
  | [], _, n, h => .inr h
  | y :: ys, hg, n, h => by
    unfold mesL
    have h1 := hg y List.mem_cons_self
    by_cases c : g y < 0
    · rw [if_pos c]
      exact .inl rfl
    · rw [if_neg c]
      exact mesL_big g ys (fun z hz => hg z (List.mem_cons_of_mem _ hz)) _ (by omega)
/-- What the two counts of a tree have to do with each other. -/
def RelC (c m : Int) : Prop := (m = -1 ∧ 60 < c) ∨ (1 ≤ m ∧ (c = m ∨ 60 < m ∧ 60 < c))
theorem relL (g g' : S29 → Int) : ∀ (l : List S29), (∀ y ∈ l, RelC (g y) (g' y)) → ∀ n, 1 ≤ n → RelC (cntL g l n) (mesL g' l n)
  | [], _, n, hn => .inr ⟨hn, .inl rfl⟩
  | y :: ys, h, n, hn => by
    have h1 := h y List.mem_cons_self
    have hys : ∀ z ∈ ys, RelC (g z) (g' z) := fun z hz => h z (List.mem_cons_of_mem _ hz)
    have hg : ∀ z ∈ ys, g' z = -1 ∨ 1 ≤ g' z := fun z hz => by
      rcases hys z hz with k | k
      · exact .inl k.1
      · exact .inr k.1
    by_cases c : n ≤ 60
    · unfold cntL mesL
      rw [if_pos c]
      rcases h1 with ⟨h2, h3⟩ | ⟨h2, h3⟩
      · rw [if_pos (by omega), cntL_big g ys _ (by omega)]
        exact .inl ⟨rfl, by omega⟩
      · rw [if_neg (by omega)]
        rcases h3 with h3 | h3
        · rw [h3]
          exact relL g g' ys hys _ (by omega)
        · rw [cntL_big g ys _ (by omega)]
          rcases mesL_big g' ys hg (n + g' y) (by omega) with k | k
          · exact .inl ⟨k, by omega⟩
          · exact .inr ⟨by omega, .inr ⟨k, by omega⟩⟩
    · rw [cntL_big g _ _ (by omega)]
      have hg' : ∀ z ∈ y :: ys, g' z = -1 ∨ 1 ≤ g' z := fun z hz => by
        rcases h z hz with k | k
        · exact .inl k.1
        · exact .inr k.1
      rcases mesL_big g' (y :: ys) hg' n (by omega) with k | k
      · exact .inl ⟨k, by omega⟩
      · exact .inr ⟨by omega, .inr ⟨k, by omega⟩⟩
theorem relE : ∀ (r : Nat) (x : S29), RelC (cntE r x) (mesE r x)
  | 0, x => .inl ⟨rfl, by simp [cntE]⟩
  | r + 1, x => by
    unfold cntE mesE
    by_cases hh : hereE x = true
    · rw [if_pos hh, if_pos hh]
      exact relL _ _ x.f3 (fun y _ => relE r y) 1 (by omega)
    · rw [if_neg hh, if_neg hh]
      exact .inl ⟨rfl, by omega⟩
theorem count_ev : ∀ (r : Nat) (x : S29), OkE x → ∀ d : Int, d + r = 9 → 1 ≤ d → Ev (fun k => spec_l3Count.f k x.f0 x.f1 x.f2 x.f3 d) (cntE r x)
  | 0, x, hx, d, hd, _ => by
    have c : d > 8 := by omega
    refine Ev.step (fun k => by rw [spec_l3Count.f]) ?_
    simp only [c, if_true]
    refine Ev.step (fun k => by rw [spec_l3Count.j0]) ?_
    simp only [if_true]
    exact Ev.now _
  | r + 1, x, hx, d, hd, hd1 => by
    obtain ⟨_, h2, _, hy⟩ := hx
    have cd : ¬ d > 8 := by omega
    have hw : wrap64 (d + 1) = d + 1 := w64 (by omega) (by omega)
    have e1 := spec_here_ev x h2
    unfold cntE
    refine Ev.step (fun k => by rw [spec_l3Count.f]) ?_
    simp only [cd, if_false]
    refine Ev.then e1 (Ev.step (fun k => by rw [spec_l3Count.j0]) ?_)
    cases hh : hereE x with
    | false =>
      simp only [Bool.not_false, if_true, Bool.false_eq_true, if_false]
      exact Ev.now _
    | true =>
      simp only [Bool.not_true, Bool.false_eq_true, if_false, if_true]
      have l2 := here_two hh
      have key : ∀ (q i : Nat), i + q = x.f3.length → ∀ n : Int, 1 ≤ n → n ≤ 10000 → Ev (fun k => spec_l3Count.l0 k d n (i : Int) x.f0 x.f1 x.f2 x.f3) (cntL (cntE r) (x.f3.drop i) n) := by
        intro q
        induction q with
        | zero =>
          intro i hi n hn hn2
          have c : ¬ (i : Int) < (x.f3.length : Int) := by omega
          refine Ev.step (fun k => by rw [spec_l3Count.l0]) ?_
          simp only [c, if_false]
          rw [List.drop_eq_nil_of_le (by omega)]
          exact Ev.now _
        | succ q ihq =>
          intro i hi n hn hn2
          have c : (i : Int) < (x.f3.length : Int) := by omega
          have c0 : (0 : Int) ≤ (i : Int) := by omega
          have hwi : wrap64 ((i : Int) + 1) = ((i + 1 : Nat) : Int) := wi (n := x.f3.length) (by omega) (by simp only [maxLen]; omega)
          have hdr : x.f3.drop i = rd_T29 x.f3 (i : Int) :: x.f3.drop (i + 1) := drop_cons x.f3 _ (by omega)
          refine Ev.step (fun k => by rw [spec_l3Count.l0]) ?_
          rw [hdr]
          unfold cntL
          by_cases c6 : n ≤ 60
          · have bd := cntE_bd r (rd_T29 x.f3 (i : Int))
            have hwn : wrap64 (n + cntE r (rd_T29 x.f3 (i : Int))) = n + cntE r (rd_T29 x.f3 (i : Int)) := w64 (by omega) (by omega)
            simp only [c, c0, c6, if_true, hw]
            refine Ev.then (count_ev r _ (hy _ (rdE_mem (by omega))) (d + 1) (by omega) (by omega)) ?_
            simp only [hwn, hwi]
            exact ihq (i + 1) (by omega) _ (by omega) (by omega)
          · simp only [c, c6, if_true, if_false]
            exact Ev.now _
      simpa using key x.f3.length 0 (by omega) 1 (by omega) (by omega)
theorem measure_ev : ∀ (r : Nat) (x : S29), OkE x → ∀ d : Int, d + r = 9 → 1 ≤ d → Ev (fun k => impl_Exp_measure.f k x.f0 x.f1 x.f2 x.f3 d) (mesE r x)
  | 0, x, hx, d, hd, _ => by
    have c : d > 8 := by omega
    refine Ev.step (fun k => by rw [impl_Exp_measure.f]) ?_
    simp only [c, if_true]
    refine Ev.step (fun k => by rw [impl_Exp_measure.j0]) ?_
    simp only [if_true]
    exact Ev.now _
  | r + 1, x, hx, d, hd, hd1 => by
    obtain ⟨_, h2, _, hy⟩ := hx
    have cd : ¬ d > 8 := by omega
    have hw : wrap64 (d + 1) = d + 1 := w64 (by omega) (by omega)
    have e1 := impl_parts_ev x h2
    have hr : r ≤ 8 := by omega
    have b8 : bnd r ≤ 255 := by
      have : r = 0 ∨ r = 1 ∨ r = 2 ∨ r = 3 ∨ r = 4 ∨ r = 5 ∨ r = 6 ∨ r = 7 ∨ r = 8 := by omega
      rcases this with rfl | rfl | rfl | rfl | rfl | rfl | rfl | rfl | rfl <;> decide
    unfold mesE
    refine Ev.step (fun k => by rw [impl_Exp_measure.f]) ?_
    simp only [cd, if_false]
    refine Ev.then e1 (Ev.step (fun k => by rw [impl_Exp_measure.j0]) ?_)
    cases hh : hereE x with
    | false =>
      simp only [Bool.not_false, if_true, Bool.false_eq_true, if_false]
      exact Ev.now _
    | true =>
      simp only [Bool.not_true, Bool.false_eq_true, if_false, if_true]
      have l2 := here_two hh
      have key : ∀ (q i : Nat), i + q = x.f3.length → ∀ n : Int, 1 ≤ n → n + q * 255 ≤ 10000 → Ev (fun k => impl_Exp_measure.l0 k d n x.f3 (x.f3.length : Int) (i : Int)) (mesL (mesE r) (x.f3.drop i) n) := by
        intro q
        induction q with
        | zero =>
          intro i hi n hn hn2
          have c : ¬ (i : Int) < (x.f3.length : Int) := by omega
          refine Ev.step (fun k => by rw [impl_Exp_measure.l0]) ?_
          simp only [c, if_false]
          rw [List.drop_eq_nil_of_le (by omega)]
          exact Ev.now _
        | succ q ihq =>
          intro i hi n hn hn2
          have c : (i : Int) < (x.f3.length : Int) := by omega
          have c0 : (0 : Int) ≤ (i : Int) := by omega
          have hwi : wrap64 ((i : Int) + 1) = ((i + 1 : Nat) : Int) := wi (n := x.f3.length) (by omega) (by simp only [maxLen]; omega)
          have hdr : x.f3.drop i = rd_T29 x.f3 (i : Int) :: x.f3.drop (i + 1) := drop_cons x.f3 _ (by omega)
          have bd := mesE_bd r (rd_T29 x.f3 (i : Int))
          refine Ev.step (fun k => by rw [impl_Exp_measure.l0]) ?_
          rw [hdr]
          unfold mesL
          simp only [c, c0, if_true, hw]
          refine Ev.then (measure_ev r _ (hy _ (rdE_mem (by omega))) (d + 1) (by omega) (by omega)) ?_
          by_cases c6 : mesE r (rd_T29 x.f3 (i : Int)) < 0
          · simp only [c6, if_true]
            exact Ev.now _
          · have hwn : wrap64 (n + mesE r (rd_T29 x.f3 (i : Int))) = n + mesE r (rd_T29 x.f3 (i : Int)) := w64 (by omega) (by omega)
            simp only [c6, if_false, hwn, hwi]
            exact ihq (i + 1) (by omega) _ (by omega) (by omega)
      simpa using key x.f3.length 0 (by omega) 1 (by omega) (by omega)
def expOkS (x : S29) : Bool := decide (cntE 8 x ≤ 60)
theorem spec_ExpOk_ev {x : S29} (hx : OkE x) : Ev (fun k => spec_ExpOk.f k x.f0 x.f1 x.f2 x.f3) (expOkS x) := by
  unfold spec_ExpOk.f
  exact Ev.then (count_ev 8 x hx 1 (by omega) (by omega)) (Ev.now _)
theorem impl_ExpOk_ev {x : S29} (hx : OkE x) : Ev (fun k => impl_ExpOk.f k x.f0 x.f1 x.f2 x.f3) (expOkS x) := by
  unfold impl_ExpOk.f
  refine Ev.then (measure_ev 8 x hx 1 (by omega) (by omega)) ?_
  simp only [impl_inRange_eq, Option.bind_some]
  have h := relE 8 x
  have e : (decide ((1 : Int) ≤ mesE 8 x) && decide (mesE 8 x ≤ 60)) = expOkS x := by
    unfold expOkS
    rw [Bool.eq_iff_iff]
    simp only [Bool.and_eq_true, decide_eq_true_eq]
    unfold RelC at h
    omega
  rw [e]
  exact Ev.now _
/-! ### trees of statements -/
inductive GoodS : S45 → Prop
  | mk (x : S45) (h1 : x.f1.size ≤ maxLen) (e2 : GoodE x.f2) (e3 : GoodE x.f3) (e4 : GoodE x.f4) (e5 : GoodE x.f5) (hl : x.f6.length ≤ maxLen) (hy : ∀ y ∈ x.f6, GoodS y) : GoodS x
inductive SzS : S45 → Prop
  | mk (x : S45) (h1 : x.f1.size ≤ maxLen) (e2 : SzE x.f2) (e3 : SzE x.f3) (e4 : SzE x.f4) (e5 : SzE x.f5) (hl : x.f6.length ≤ 1048576) (hy : ∀ y ∈ x.f6, SzS y) : SzS x
mutual
def cvStmt : S45 → S50
  | ⟨a, b, c, d, e, f, l⟩ => ⟨a, b, cvExp c, cvExp d, cvExp e, cvExp f, cvStmtS l⟩
def cvStmtS : List S45 → List S50
  | [] => []
  | x :: xs => cvStmt x :: cvStmtS xs
end
theorem cvStmtS_map (l : List S45) : cvStmtS l = l.map cvStmt := by
  induction l with
  | nil => rfl
  | cons x xs ih => rw [cvStmtS, ih, List.map_cons]
theorem cvStmt_f (x : S45) : cvStmt x = ⟨x.f0, x.f1, cvExp x.f2, cvExp x.f3, cvExp x.f4, cvExp x.f5, x.f6.map cvStmt⟩ := by
  obtain ⟨a, b, c, d, e, f, l⟩ := x
  rw [cvStmt, cvStmtS_map]
theorem etaS (y : S50) : (⟨y.f0, y.f1, (⟨y.f2.f0, y.f2.f1, y.f2.f2, y.f2.f3⟩ : S29), (⟨y.f3.f0, y.f3.f1, y.f3.f2, y.f3.f3⟩ : S29), (⟨y.f4.f0, y.f4.f1, y.f4.f2, y.f4.f3⟩ : S29), (⟨y.f5.f0, y.f5.f1, y.f5.f2, y.f5.f3⟩ : S29), y.f6⟩ : S50) = y := by
  obtain ⟨a, b, ⟨_, _, _, _⟩, ⟨_, _, _, _⟩, ⟨_, _, _, _⟩, ⟨_, _, _, _⟩, l⟩ := y
  rfl
theorem rdSl_mem {l : List S45} {i : Nat} (hi : i < l.length) : rd_T45 l (i : Int) ∈ l := by
  unfold rd_T45
  rw [Int.toNat_natCast]
  exact getD_mem l _ hi
theorem rdS_mem {l : List S50} {i : Nat} (hi : i < l.length) : rd_T50 l (i : Int) ∈ l := by
  unfold rd_T50
  rw [Int.toNat_natCast]
  exact getD_mem l _ hi
theorem rdS_map (l : List S45) {i : Nat} (hi : i < l.length) : rd_T50 (l.map cvStmt) (i : Int) = cvStmt (rd_T45 l (i : Int)) := by
  unfold rd_T50 rd_T45
  simp [List.getElem?_eq_getElem hi]
theorem szStmtS_of (l : List S45) (hl : l.length ≤ maxLen) (ih : ∀ y ∈ l, ∀ a : Int, 0 ≤ a → a ≤ 1048576 → ∃ t, Ev (fun k => laws_szStmt.f k y.f0 y.f1 y.f2.f0 y.f2.f1 y.f2.f2 y.f2.f3 y.f3.f0 y.f3.f1 y.f3.f2 y.f3.f3 y.f4.f0 y.f4.f1 y.f4.f2 y.f4.f3 y.f5.f0 y.f5.f1 y.f5.f2 y.f5.f3 y.f6 a) t ∧ (t < 0 ∨ 0 ≤ t ∧ t ≤ 1048576 ∧ SzS y)) (a : Int) (h0 : 0 ≤ a) (h1 : a ≤ 1048576) :
    ∃ t, Ev (fun k => laws_szStmtS.f k l a) t ∧ (t < 0 ∨ 0 ≤ t ∧ t ≤ 1048576 ∧ l.length ≤ 1048576 ∧ ∀ y ∈ l, SzS y) := by
  have key : ∀ d i, i + d = l.length → ∀ b : Int, 0 ≤ b → b ≤ 1048576 → ∃ t, Ev (fun k => laws_szStmtS.l0 k l b (i : Int)) t ∧ (t < 0 ∨ 0 ≤ t ∧ t ≤ 1048576 ∧ ∀ y ∈ l.drop i, SzS y) := by
    intro d
    induction d with
    | zero =>
      intro i hi b hb0 hb1
      refine ⟨b, Ev.step (fun k => by rw [laws_szStmtS.l0]) ?_, .inr ⟨hb0, hb1, by rw [List.drop_eq_nil_of_le (by omega)]; simp⟩⟩
      have c : ¬ (i : Int) < (l.length : Int) := by omega
      simp only [c, if_false]
      exact Ev.now _
    | succ d ihd =>
      intro i hi b hb0 hb1
      have c : (i : Int) < (l.length : Int) := by omega
      have c0 : (0 : Int) ≤ (i : Int) := by omega
      have hw : wrap64 ((i : Int) + 1) = ((i + 1 : Nat) : Int) := wi (n := l.length) (by omega) hl
      have hd : l.drop i = rd_T45 l (i : Int) :: l.drop (i + 1) := by
        unfold rd_T45
        rw [Int.toNat_natCast]
        exact drop_cons l _ (by omega)
      obtain ⟨t, ht, h2⟩ := ih _ (rdSl_mem (show i < l.length by omega)) b hb0 hb1
      by_cases c2 : t < 0
      · refine ⟨-1, Ev.step (fun k => by rw [laws_szStmtS.l0]) ?_, .inl (by omega)⟩
        simp only [c, c0, if_true]
        refine Ev.then ht ?_
        simp only [c2, if_true]
        exact Ev.now _
      · have h2' := h2.resolve_left c2
        obtain ⟨q, h3, h4⟩ := ihd (i + 1) (by omega) t h2'.1 h2'.2.1
        refine ⟨q, Ev.step (fun k => by rw [laws_szStmtS.l0]) ?_, h4.imp id fun h => ⟨h.1, h.2.1, ?_⟩⟩
        · simp only [c, c0, if_true]
          refine Ev.then ht ?_
          simp only [c2, if_false, hw]
          exact h3
        · rw [hd]
          intro y hy
          rcases List.mem_cons.1 hy with rfl | hy
          · exact h2'.2.2
          · exact h.2.2 y hy
  have hl' := hl
  simp only [maxLen] at hl'
  have w1 : wrap64 (a - (l.length : Int)) = a - (l.length : Int) := w64 (by omega) (by omega)
  by_cases c : a - (l.length : Int) < 0
  · refine ⟨-1, Ev.step (fun k => by rw [laws_szStmtS.f]) ?_, .inl (by omega)⟩
    simp only [w1, c, if_true]
    exact Ev.now _
  · obtain ⟨t, h3, h4⟩ := key l.length 0 (by omega) _ (show 0 ≤ a - (l.length : Int) by omega) (by omega)
    refine ⟨t, Ev.step (fun k => by rw [laws_szStmtS.f]) ?_, h4.imp id fun h => ⟨h.1, h.2.1, by omega, by simpa using h.2.2⟩⟩
    simp only [w1, c, if_false]
    exact h3
theorem szStmt_ev {x : S45} (h : GoodS x) : ∀ a : Int, 0 ≤ a → a ≤ 1048576 → ∃ t, Ev (fun k => laws_szStmt.f k x.f0 x.f1 x.f2.f0 x.f2.f1 x.f2.f2 x.f2.f3 x.f3.f0 x.f3.f1 x.f3.f2 x.f3.f3 x.f4.f0 x.f4.f1 x.f4.f2 x.f4.f3 x.f5.f0 x.f5.f1 x.f5.f2 x.f5.f3 x.f6 a) t ∧ (t < 0 ∨ 0 ≤ t ∧ t ≤ 1048576 ∧ SzS x) := by
  induction h with
  | mk x h1 e2 e3 e4 e5 hl hy ih =>
    intro a a0 a1
    have h1' := h1
    simp only [maxLen] at h1'
    have w1 : wrap64 (a - (x.f1.size : Int)) = a - (x.f1.size : Int) := w64 (by omega) (by omega)
    by_cases c : a - (x.f1.size : Int) < 0
    · refine ⟨-1, Ev.step (fun k => by rw [laws_szStmt.f]) ?_, .inl (by omega)⟩
      simp only [w1, c, if_true]
      exact Ev.now _
    obtain ⟨t2, p2, g2⟩ := szExp_ev e2 _ (show 0 ≤ a - (x.f1.size : Int) by omega) (by omega)
    by_cases c2 : t2 < 0
    · refine ⟨-1, Ev.step (fun k => by rw [laws_szStmt.f]) ?_, .inl (by omega)⟩
      simp only [w1, c, if_false]
      refine Ev.then p2 ?_
      simp only [c2, if_true]
      exact Ev.now _
    obtain ⟨q2, r2, s2⟩ := g2.resolve_left c2
    obtain ⟨t3, p3, g3⟩ := szExp_ev e3 t2 q2 r2
    by_cases c3 : t3 < 0
    · refine ⟨-1, Ev.step (fun k => by rw [laws_szStmt.f]) ?_, .inl (by omega)⟩
      simp only [w1, c, if_false]
      refine Ev.then p2 ?_
      simp only [c2, if_false]
      refine Ev.then p3 ?_
      simp only [c3, if_true]
      exact Ev.now _
    obtain ⟨q3, r3, s3⟩ := g3.resolve_left c3
    obtain ⟨t4, p4, g4⟩ := szExp_ev e4 t3 q3 r3
    by_cases c4 : t4 < 0
    · refine ⟨-1, Ev.step (fun k => by rw [laws_szStmt.f]) ?_, .inl (by omega)⟩
      simp only [w1, c, if_false]
      refine Ev.then p2 ?_
      simp only [c2, if_false]
      refine Ev.then p3 ?_
      simp only [c3, if_false]
      refine Ev.then p4 ?_
      simp only [c4, if_true]
      exact Ev.now _
    obtain ⟨q4, r4, s4⟩ := g4.resolve_left c4
    obtain ⟨t5, p5, g5⟩ := szExp_ev e5 t4 q4 r4
    by_cases c5 : t5 < 0
    · refine ⟨-1, Ev.step (fun k => by rw [laws_szStmt.f]) ?_, .inl (by omega)⟩
      simp only [w1, c, if_false]
      refine Ev.then p2 ?_
      simp only [c2, if_false]
      refine Ev.then p3 ?_
      simp only [c3, if_false]
      refine Ev.then p4 ?_
      simp only [c4, if_false]
      refine Ev.then p5 ?_
      simp only [c5, if_true]
      exact Ev.now _
    obtain ⟨q5, r5, s5⟩ := g5.resolve_left c5
    obtain ⟨t6, p6, g6⟩ := szStmtS_of x.f6 hl ih t5 q5 r5
    have go : Ev (fun k => laws_szStmt.f k x.f0 x.f1 x.f2.f0 x.f2.f1 x.f2.f2 x.f2.f3 x.f3.f0 x.f3.f1 x.f3.f2 x.f3.f3 x.f4.f0 x.f4.f1 x.f4.f2 x.f4.f3 x.f5.f0 x.f5.f1 x.f5.f2 x.f5.f3 x.f6 a) (if t6 < 0 then -1 else t6) := by
      refine Ev.step (fun k => by rw [laws_szStmt.f]) ?_
      simp only [w1, c, if_false]
      refine Ev.then p2 ?_
      simp only [c2, if_false]
      refine Ev.then p3 ?_
      simp only [c3, if_false]
      refine Ev.then p4 ?_
      simp only [c4, if_false]
      refine Ev.then p5 ?_
      simp only [c5, if_false]
      refine Ev.then p6 ?_
      by_cases c6 : t6 < 0
      · simp only [c6, if_true]
        exact Ev.now _
      · simp only [c6, if_false]
        exact Ev.now _
    by_cases c6 : t6 < 0
    · rw [if_pos c6] at go
      exact ⟨-1, go, .inl (by omega)⟩
    · rw [if_neg c6] at go
      obtain ⟨q6, r6, s6, u6⟩ := g6.resolve_left c6
      exact ⟨t6, go, .inr ⟨q6, r6, SzS.mk x h1 s2 s3 s4 s5 s6 u6⟩⟩
theorem toStmtS_of (l : List S45) (hl : l.length ≤ 1048576) (ih : ∀ y ∈ l, Ev (fun k => laws_toStmt.f k y.f0 y.f1 y.f2.f0 y.f2.f1 y.f2.f2 y.f2.f3 y.f3.f0 y.f3.f1 y.f3.f2 y.f3.f3 y.f4.f0 y.f4.f1 y.f4.f2 y.f4.f3 y.f5.f0 y.f5.f1 y.f5.f2 y.f5.f3 y.f6) ((cvStmt y).f0, (cvStmt y).f1, (cvStmt y).f2.f0, (cvStmt y).f2.f1, (cvStmt y).f2.f2, (cvStmt y).f2.f3, (cvStmt y).f3.f0, (cvStmt y).f3.f1, (cvStmt y).f3.f2, (cvStmt y).f3.f3, (cvStmt y).f4.f0, (cvStmt y).f4.f1, (cvStmt y).f4.f2, (cvStmt y).f4.f3, (cvStmt y).f5.f0, (cvStmt y).f5.f1, (cvStmt y).f5.f2, (cvStmt y).f5.f3, (cvStmt y).f6)) : Ev (fun k => laws_toStmtS.f k l) (l.map cvStmt) := by
  refine Ev.step (fun k => by rw [laws_toStmtS.f]) ?_
  have c1 : (0 : Int) ≤ (l.length : Int) := by omega
  have c2 : l.length ≤ 1034834473200 := by omega
  simp only [c1, Int.toNat_natCast, c2, if_true]
  refine Ev.fill (g := fun k xs i => laws_toStmtS.l0 k l xs i) (l.map cvStmt) (by simp) z50 ?_ ?_
  · intro i xs hi hxs r hr
    have c : (i : Int) < (l.length : Int) := by omega
    have c0 : (0 : Int) ≤ (i : Int) := by omega
    have c3 : (i : Int) < (xs.length : Int) := by omega
    have hw : wrap64 ((i : Int) + 1) = ((i + 1 : Nat) : Int) := wi (n := l.length) hi (by simp only [maxLen]; omega)
    have e : (l.map cvStmt).getD i z50 = cvStmt (rd_T45 l (i : Int)) := by
      unfold rd_T45
      simp [List.getElem?_eq_getElem hi]
    rw [e] at hr
    refine Ev.step (fun k => by rw [laws_toStmtS.l0]) ?_
    simp only [c, c0, if_true]
    refine Ev.then (ih _ (rdSl_mem hi)) ?_
    simp only [c3, if_true, hw, Int.toNat_natCast, etaS]
    exact hr
  · intro xs hxs
    refine Ev.step (fun k => by rw [laws_toStmtS.l0]) ?_
    have c : ¬ (l.length : Int) < (l.length : Int) := by omega
    simp only [c, if_false]
    exact Ev.now _
theorem toStmt_ev {x : S45} (h : SzS x) : Ev (fun k => laws_toStmt.f k x.f0 x.f1 x.f2.f0 x.f2.f1 x.f2.f2 x.f2.f3 x.f3.f0 x.f3.f1 x.f3.f2 x.f3.f3 x.f4.f0 x.f4.f1 x.f4.f2 x.f4.f3 x.f5.f0 x.f5.f1 x.f5.f2 x.f5.f3 x.f6) ((cvStmt x).f0, (cvStmt x).f1, (cvStmt x).f2.f0, (cvStmt x).f2.f1, (cvStmt x).f2.f2, (cvStmt x).f2.f3, (cvStmt x).f3.f0, (cvStmt x).f3.f1, (cvStmt x).f3.f2, (cvStmt x).f3.f3, (cvStmt x).f4.f0, (cvStmt x).f4.f1, (cvStmt x).f4.f2, (cvStmt x).f4.f3, (cvStmt x).f5.f0, (cvStmt x).f5.f1, (cvStmt x).f5.f2, (cvStmt x).f5.f3, (cvStmt x).f6) := by
  induction h with
  | mk x h1 e2 e3 e4 e5 hl hy ih =>
    refine Ev.step (fun k => by rw [laws_toStmt.f]) ?_
    refine Ev.then (toExp_ev e2) (Ev.then (toExp_ev e3) (Ev.then (toExp_ev e4) (Ev.then (toExp_ev e5) (Ev.then (toStmtS_of x.f6 hl ih) ?_))))
    rw [cvStmt_f]
    simp only [cvExp_f]
    exact Ev.now _
theorem eqStmtS_of (l : List S45) (hl : l.length ≤ 1048576) (ih : ∀ y ∈ l, Ev (fun k => laws_eqStmt.f k (cvStmt y).f0 (cvStmt y).f1 (cvStmt y).f2.f0 (cvStmt y).f2.f1 (cvStmt y).f2.f2 (cvStmt y).f2.f3 (cvStmt y).f3.f0 (cvStmt y).f3.f1 (cvStmt y).f3.f2 (cvStmt y).f3.f3 (cvStmt y).f4.f0 (cvStmt y).f4.f1 (cvStmt y).f4.f2 (cvStmt y).f4.f3 (cvStmt y).f5.f0 (cvStmt y).f5.f1 (cvStmt y).f5.f2 (cvStmt y).f5.f3 (cvStmt y).f6 (cvStmt y).f0 (cvStmt y).f1 (cvStmt y).f2.f0 (cvStmt y).f2.f1 (cvStmt y).f2.f2 (cvStmt y).f2.f3 (cvStmt y).f3.f0 (cvStmt y).f3.f1 (cvStmt y).f3.f2 (cvStmt y).f3.f3 (cvStmt y).f4.f0 (cvStmt y).f4.f1 (cvStmt y).f4.f2 (cvStmt y).f4.f3 (cvStmt y).f5.f0 (cvStmt y).f5.f1 (cvStmt y).f5.f2 (cvStmt y).f5.f3 (cvStmt y).f6) true) : Ev (fun k => laws_eqStmtS.f k (l.map cvStmt) (l.map cvStmt)) true := by
  refine Ev.step (fun k => by rw [laws_eqStmtS.f]) ?_
  simp only [if_true]
  refine Ev.allT (g := fun k i => laws_eqStmtS.l0 k (l.map cvStmt) (l.map cvStmt) i) (n := l.length) ?_ ?_
  · intro i hi r hr
    have c : (i : Int) < ((l.map cvStmt).length : Int) := by rw [List.length_map]; omega
    have c0 : (0 : Int) ≤ (i : Int) := by omega
    have hw : wrap64 ((i : Int) + 1) = ((i + 1 : Nat) : Int) := wi (n := l.length) hi (by simp only [maxLen]; omega)
    refine Ev.step (fun k => by rw [laws_eqStmtS.l0]) ?_
    simp only [c, c0, if_true, hw, rdS_map l hi]
    refine Ev.then (ih _ (rdSl_mem hi)) ?_
    simp only [if_true]
    exact hr
  · refine Ev.step (fun k => by rw [laws_eqStmtS.l0]) ?_
    have c : ¬ (l.length : Int) < ((l.map cvStmt).length : Int) := by rw [List.length_map]; omega
    simp only [c, if_false]
    exact Ev.now _
theorem eqStmt_ev {x : S45} (h : SzS x) : Ev (fun k => laws_eqStmt.f k (cvStmt x).f0 (cvStmt x).f1 (cvStmt x).f2.f0 (cvStmt x).f2.f1 (cvStmt x).f2.f2 (cvStmt x).f2.f3 (cvStmt x).f3.f0 (cvStmt x).f3.f1 (cvStmt x).f3.f2 (cvStmt x).f3.f3 (cvStmt x).f4.f0 (cvStmt x).f4.f1 (cvStmt x).f4.f2 (cvStmt x).f4.f3 (cvStmt x).f5.f0 (cvStmt x).f5.f1 (cvStmt x).f5.f2 (cvStmt x).f5.f3 (cvStmt x).f6 (cvStmt x).f0 (cvStmt x).f1 (cvStmt x).f2.f0 (cvStmt x).f2.f1 (cvStmt x).f2.f2 (cvStmt x).f2.f3 (cvStmt x).f3.f0 (cvStmt x).f3.f1 (cvStmt x).f3.f2 (cvStmt x).f3.f3 (cvStmt x).f4.f0 (cvStmt x).f4.f1 (cvStmt x).f4.f2 (cvStmt x).f4.f3 (cvStmt x).f5.f0 (cvStmt x).f5.f1 (cvStmt x).f5.f2 (cvStmt x).f5.f3 (cvStmt x).f6) true := by
  induction h with
  | mk x h1 e2 e3 e4 e5 hl hy ih =>
    rw [cvStmt_f]
    refine Ev.step (fun k => by rw [laws_eqStmt.f]) ?_
    simp only [if_true]
    refine Ev.then (eqExp_ev e2) ?_
    simp only [if_true]
    refine Ev.then (eqExp_ev e3) ?_
    simp only [if_true]
    refine Ev.then (eqExp_ev e4) ?_
    simp only [if_true]
    refine Ev.then (eqExp_ev e5) ?_
    simp only [if_true]
    refine Ev.then (eqStmtS_of x.f6 hl ih) ?_
    simp only [if_true]
    exact Ev.now _
inductive OkS : S50 → Prop
  | mk (x : S50) (h1 : x.f1.size ≤ maxLen) (e2 : OkE x.f2) (e3 : OkE x.f3) (e4 : OkE x.f4) (e5 : OkE x.f5) (hl : x.f6.length ≤ maxLen) (hy : ∀ y ∈ x.f6, OkS y) : OkS x
theorem OkS.of {x : S45} (h : SzS x) : OkS (cvStmt x) := by
  induction h with
  | mk x h1 e2 e3 e4 e5 hl hy ih =>
    rw [cvStmt_f]
    refine OkS.mk _ h1 (OkE.of e2) (OkE.of e3) (OkE.of e4) (OkE.of e5) (by simp only [List.length_map, maxLen]; omega) fun y hy => ?_
    obtain ⟨z, hz, rfl⟩ := List.mem_map.1 hy
    exact ih z hz
theorem range_all {l : List S50} (p : S50 → Bool) : (List.range l.length).all (fun i => p (rd_T50 l (i : Int))) = l.all p := by
  rw [Bool.eq_iff_iff, List.all_eq_true, List.all_eq_true]
  constructor
  · intro h y hy
    obtain ⟨i, hi, rfl⟩ := List.mem_iff_getElem.1 hy
    have := h i (by simpa using hi)
    have e : rd_T50 l (i : Int) = l[i] := by
      unfold rd_T50
      simp [List.getElem?_eq_getElem hi]
    rw [e] at this
    exact this
  · intro h i hi
    exact h _ (rdS_mem (by simpa using hi))
def noE (x : S29) : Bool := decide (x.f0 = 0) && decide (x.f1 = 0) && (x.f2.toList == []) && ((x.f3.length : Int) == 0)
theorem spec_l3No_eq (x : S29) : spec_l3No.f x.f0 x.f1 x.f2 x.f3 = some (noE x) := by
  unfold spec_l3No.f noE
  by_cases h0 : x.f0 = 0
  · by_cases h1 : x.f1 = 0
    · by_cases h2 : x.f2.toList = []
      · simp [h0, h1, h2]
      · simp [h0, h1, h2]
    · simp [h0, h1]
  · simp [h0]
theorem impl_isZero_eq (x : S29) : impl_Exp_isZero.f x.f0 x.f1 x.f2 x.f3 = some (noE x) := by
  unfold impl_Exp_isZero.f noE
  by_cases h0 : x.f0 = 0
  · by_cases h1 : x.f1 = 0
    · by_cases h2 : x.f2.toList = []
      · simp [h0, h1, h2]
      · simp [h0, h1, h2]
    · simp [h0, h1]
  · simp [h0]
def inK (k : Int) : Bool := decide (1 ≤ k) && decide (k ≤ 4)
def bodyK (n : Nat) : Bool := decide ((1 : Int) ≤ (n : Int)) && decide ((n : Int) ≤ 6)
def atS (x : S50) : Bool := if x.f0 = 2 then expOkS x.f2 else noE x.f2
def eS (x : S50) : Bool := if x.f0 = 3 then noE x.f3 else expOkS x.f3
def loS (x : S50) : Bool := if x.f0 = 3 then expOkS x.f4 else noE x.f4
def hiS (x : S50) : Bool := if x.f0 = 3 then expOkS x.f5 else noE x.f5
def nmS (x : S50) : Bool := if x.f0 = 4 then x.f1.toList == [] else nameS x.f1
def okS0 (x : S50) : Bool := atS x && eS x && loS x && hiS x && nmS x && inK x.f0
def cntSL (g : S50 → Int) : List S50 → Int → Int
  | [], n => n
  | y :: ys, n => if n ≤ 40 then cntSL g ys (n + g y) else n
/-- How many statements there are, as the reference counts: above 40 something is not right. -/
def cntS : Nat → S50 → Int
  | 0, x => if okS0 x = true then (if x.f0 = 3 then 100 else if (x.f6.length : Int) > 0 then 100 else 1) else 100
  | r + 1, x => if okS0 x = true then (if x.f0 = 3 then (if bodyK x.f6.length = true then cntSL (cntS r) x.f6 1 else 100) else if (x.f6.length : Int) > 0 then 100 else 1) else 100
/-- Is a statement right, with so many loops yet to go? -/
def rightS : Nat → S50 → Bool
  | 0, x => okS0 x && (if x.f0 = 3 then false else ((x.f6.length : Int) == 0))
  | r + 1, x => okS0 x && (if x.f0 = 3 then bodyK x.f6.length && x.f6.all (rightS r) else ((x.f6.length : Int) == 0))
def sumSL (g : S50 → Int) : List S50 → Int → Int
  | [], n => n
  | y :: ys, n => sumSL g ys (n + g y)
/-- How many statements a body has. -/
def bodS : Nat → S50 → Int
  | 0, _ => 0
  | r + 1, x => sumSL (bodS r) x.f6 (x.f6.length : Int)
def bndS : Nat → Int
  | 0 => 0
  | r + 1 => 6 + 6 * bndS r
theorem sumSL_add (g : S50 → Int) : ∀ (l : List S50) (n m : Int), sumSL g l (n + m) = n + sumSL g l m
  | [], n, m => rfl
  | y :: ys, n, m => by
    unfold sumSL
    rw [Int.add_assoc, sumSL_add g ys]
theorem sumSL_one (g : S50 → Int) : ∀ (l : List S50) (n : Int), sumSL g l (n + l.length) = sumSL (fun y => 1 + g y) l n
  | [], n => by simp [sumSL]
  | y :: ys, n => by
    unfold sumSL
    rw [← sumSL_one g ys, List.length_cons]
    congr 1
    omega
theorem sumSL_bd (g : S50 → Int) (B : Int) (hB : 0 ≤ B) : ∀ (l : List S50), (∀ y ∈ l, 0 ≤ g y ∧ g y ≤ B) → ∀ n, n ≤ sumSL g l n ∧ sumSL g l n ≤ n + l.length * B
  | [], _, n => by simp [sumSL]
  | y :: ys, h, n => by
    unfold sumSL
    have h1 := h y List.mem_cons_self
    have := sumSL_bd g B hB ys (fun z hz => h z (List.mem_cons_of_mem _ hz)) (n + g y)
    have hm : ((ys.length + 1 : Nat) : Int) * B = ys.length * B + B := by
      rw [Int.natCast_add, Int.add_mul]
      simp
    rw [List.length_cons, hm]
    omega
theorem bndS_nn : ∀ r, 0 ≤ bndS r
  | 0 => by simp [bndS]
  | r + 1 => by
    have := bndS_nn r
    simp only [bndS]
    omega
theorem right_body {r : Nat} {x : S50} (h : rightS r x = true) : x.f6.length ≤ 6 ∧ (r = 0 → x.f6 = []) ∧ ∀ q, r = q + 1 → ∀ y ∈ x.f6, rightS q y = true := by
  cases r with
  | zero =>
    simp only [rightS, Bool.and_eq_true] at h
    by_cases c : x.f0 = 3
    · rw [if_pos c] at h
      exact absurd h.2 (by decide)
    · rw [if_neg c, beq_iff_eq] at h
      have e : x.f6 = [] := List.length_eq_zero_iff.1 (by omega)
      rw [e]
      exact ⟨by simp, fun _ => rfl, fun q hq => by omega⟩
  | succ r =>
    simp only [rightS, Bool.and_eq_true] at h
    by_cases c : x.f0 = 3
    · rw [if_pos c, Bool.and_eq_true, List.all_eq_true] at h
      simp only [bodyK, Bool.and_eq_true, decide_eq_true_eq] at h
      refine ⟨by omega, fun hr => by omega, fun q hq y hy => ?_⟩
      obtain rfl : r = q := by omega
      exact h.2.2 y hy
    · rw [if_neg c, beq_iff_eq] at h
      have e : x.f6 = [] := List.length_eq_zero_iff.1 (by omega)
      rw [e]
      exact ⟨by simp, fun _ => rfl, fun q hq y hy => by simp at hy⟩
theorem bodS_bd : ∀ (r : Nat) (x : S50), rightS r x = true → 0 ≤ bodS r x ∧ bodS r x ≤ bndS r
  | 0, x, _ => by simp [bodS, bndS]
  | r + 1, x, h => by
    obtain ⟨h1, _, h3⟩ := right_body h
    have hb := bndS_nn r
    have := sumSL_bd (bodS r) (bndS r) hb x.f6 (fun y hy => bodS_bd r y (h3 r rfl y hy)) (x.f6.length : Int)
    have hm : (x.f6.length : Int) * bndS r ≤ 6 * bndS r := Int.mul_le_mul_of_nonneg_right (by omega) hb
    generalize (x.f6.length : Int) * bndS r = q at *
    simp only [bodS, bndS]
    omega
theorem cntSL_bd (g : S50 → Int) (B : Int) (hB : 0 ≤ B) : ∀ (l : List S50), (∀ y ∈ l, 1 ≤ g y ∧ g y ≤ B) → ∀ n, 1 ≤ n → 1 ≤ cntSL g l n ∧ (cntSL g l n ≤ n ∨ cntSL g l n ≤ 40 + B)
  | [], _, n, hn => ⟨hn, .inl (Int.le_refl _)⟩
  | y :: ys, h, n, hn => by
    unfold cntSL
    have h1 := h y List.mem_cons_self
    by_cases c : n ≤ 40
    · rw [if_pos c]
      have := cntSL_bd g B hB ys (fun z hz => h z (List.mem_cons_of_mem _ hz)) (n + g y) (by omega)
      omega
    · rw [if_neg c]
      omega
theorem cntS_bd : ∀ (r : Nat) (x : S50), 1 ≤ cntS r x ∧ cntS r x ≤ 100 + 40 * r
  | 0, x => by
    unfold cntS
    repeat' split
    all_goals omega
  | r + 1, x => by
    unfold cntS
    have := cntSL_bd (cntS r) (100 + 40 * r) (by omega) x.f6 (fun y _ => cntS_bd r y) 1 (by omega)
    repeat' split
    all_goals omega
theorem cntSL_big (g : S50 → Int) : ∀ (l : List S50) (n : Int), 40 < n → cntSL g l n = n
  | [], n, _ => rfl
  | y :: ys, n, h => by
    unfold cntSL
    rw [if_neg (by omega)]
/-- What the reference's count and the program's two answers have to do with each other. -/
def RelS (c : Int) (ok : Bool) (m : Int) : Prop := (ok = false ∧ 40 < c) ∨ (ok = true ∧ 1 ≤ m ∧ (c = m ∨ 40 < c ∧ 40 < m))
theorem relSL (g : S50 → Int) (p : S50 → Bool) (g' : S50 → Int) : ∀ (l : List S50), (∀ y ∈ l, RelS (g y) (p y) (g' y)) → (∀ y ∈ l, 1 ≤ g y) → ∀ n, 1 ≤ n → RelS (cntSL g l n) (l.all p) (sumSL g' l n)
  | [], _, _, n, hn => .inr ⟨rfl, hn, .inl rfl⟩
  | y :: ys, h, hp, n, hn => by
    have h1 := h y List.mem_cons_self
    have hys : ∀ z ∈ ys, RelS (g z) (p z) (g' z) := fun z hz => h z (List.mem_cons_of_mem _ hz)
    have hps : ∀ z ∈ ys, 1 ≤ g z := fun z hz => hp z (List.mem_cons_of_mem _ hz)
    have big : ∀ (l : List S50), (∀ z ∈ l, RelS (g z) (p z) (g' z)) → l.all p = true → ∀ n, n ≤ sumSL g' l n := by
      intro l
      induction l with
      | nil => exact fun _ _ n => Int.le_refl _
      | cons z zs ih =>
        intro hz ha n
        rw [List.all_cons, Bool.and_eq_true] at ha
        unfold sumSL
        have := ih (fun q hq => hz q (List.mem_cons_of_mem _ hq)) ha.2 (n + g' z)
        rcases hz z List.mem_cons_self with k | k
        · rw [k.1] at ha
          exact absurd ha.1 (by decide)
        · omega
    by_cases c : n ≤ 40
    · unfold cntSL sumSL
      rw [if_pos c, List.all_cons]
      rcases h1 with ⟨h2, h3⟩ | ⟨h2, h3, h4⟩
      · rw [cntSL_big g ys _ (by omega), h2]
        exact .inl ⟨rfl, by omega⟩
      · rw [h2, Bool.true_and]
        rcases h4 with h4 | h4
        · rw [h4]
          exact relSL g p g' ys hys hps _ (by omega)
        · rw [cntSL_big g ys _ (by omega)]
          cases e : ys.all p with
          | false => exact .inl ⟨rfl, by omega⟩
          | true =>
            have := big ys hys e (n + g' y)
            exact .inr ⟨rfl, by omega, .inr ⟨by omega, by omega⟩⟩
    · rw [cntSL_big g _ _ (by omega)]
      cases e : (y :: ys).all p with
      | false => exact .inl ⟨rfl, by omega⟩
      | true =>
        have := big (y :: ys) h e n
        exact .inr ⟨rfl, by omega, .inr ⟨by omega, by omega⟩⟩
theorem relS : ∀ (r : Nat) (x : S50), RelS (cntS r x) (rightS r x) (1 + bodS r x)
  | 0, x => by
    unfold cntS rightS bodS
    cases okS0 x with
    | false => exact .inl ⟨rfl, by simp⟩
    | true =>
      rw [if_pos rfl, Bool.true_and]
      by_cases c : x.f0 = 3
      · rw [if_pos c, if_pos c]
        exact .inl ⟨rfl, by omega⟩
      · rw [if_neg c, if_neg c]
        by_cases d : (x.f6.length : Int) > 0
        · rw [if_pos d]
          exact .inl ⟨beq_eq_false_iff_ne.2 (by omega), by omega⟩
        · rw [if_neg d]
          exact .inr ⟨beq_iff_eq.2 (by omega), by omega, .inl (by omega)⟩
  | r + 1, x => by
    unfold cntS rightS
    cases okS0 x with
    | false => exact .inl ⟨rfl, by simp⟩
    | true =>
      rw [if_pos rfl, Bool.true_and]
      by_cases c : x.f0 = 3
      · rw [if_pos c, if_pos c]
        cases bodyK x.f6.length with
        | false => exact .inl ⟨rfl, by simp⟩
        | true =>
          rw [if_pos rfl, Bool.true_and]
          have e : 1 + bodS (r + 1) x = sumSL (fun y => 1 + bodS r y) x.f6 1 := by
            show 1 + sumSL (bodS r) x.f6 (x.f6.length : Int) = _
            rw [← sumSL_add, sumSL_one]
          rw [e]
          exact relSL _ _ _ x.f6 (fun y _ => relS r y) (fun y _ => (cntS_bd r y).1) 1 (by omega)
      · rw [if_neg c, if_neg c]
        by_cases d : (x.f6.length : Int) > 0
        · rw [if_pos d]
          exact .inl ⟨beq_eq_false_iff_ne.2 (by omega), by omega⟩
        · rw [if_neg d]
          have e : x.f6 = [] := List.length_eq_zero_iff.1 (by omega)
          refine .inr ⟨beq_iff_eq.2 (by omega), ?_, .inl ?_⟩
          · unfold bodS
            rw [e]
            simp [sumSL]
          · unfold bodS
            rw [e]
            simp [sumSL]
/-! ### the reference -/
theorem spec_stmt_j1t (d : Int) (x : S50) : Ev (fun k => spec_l3Stmt.j1 k d true x.f0 x.f1 x.f2.f0 x.f2.f1 x.f2.f2 x.f2.f3 x.f3.f0 x.f3.f1 x.f3.f2 x.f3.f3 x.f4.f0 x.f4.f1 x.f4.f2 x.f4.f3 x.f5.f0 x.f5.f1 x.f5.f2 x.f5.f3 x.f6) 100 := by
  refine Ev.step (fun k => by rw [spec_l3Stmt.j1]) ?_
  simp only [if_true]
  exact Ev.now _
theorem spec_stmt_loop (r : Nat) (ih : ∀ (y : S50), OkS y → ∀ d : Int, d + r = 3 → 0 ≤ d → Ev (fun k => spec_l3Stmt.f k y.f0 y.f1 y.f2.f0 y.f2.f1 y.f2.f2 y.f2.f3 y.f3.f0 y.f3.f1 y.f3.f2 y.f3.f3 y.f4.f0 y.f4.f1 y.f4.f2 y.f4.f3 y.f5.f0 y.f5.f1 y.f5.f2 y.f5.f3 y.f6 d) (cntS r y)) (x : S50) (hl : x.f6.length ≤ 6) (hy : ∀ y ∈ x.f6, OkS y) (d : Int) (hd : d + (r + 1 : Nat) = 3) (hd0 : 0 ≤ d) :
    ∀ (q i : Nat), i + q = x.f6.length → ∀ n : Int, 1 ≤ n → n ≤ 10000 → Ev (fun k => spec_l3Stmt.l0 k d n (i : Int) x.f0 x.f1 x.f2.f0 x.f2.f1 x.f2.f2 x.f2.f3 x.f3.f0 x.f3.f1 x.f3.f2 x.f3.f3 x.f4.f0 x.f4.f1 x.f4.f2 x.f4.f3 x.f5.f0 x.f5.f1 x.f5.f2 x.f5.f3 x.f6) (cntSL (cntS r) (x.f6.drop i) n) := by
  have hw : wrap64 (d + 1) = d + 1 := w64 (by omega) (by omega)
  intro q
  induction q with
  | zero =>
    intro i hi n hn hn2
    have c : ¬ (i : Int) < (x.f6.length : Int) := by omega
    refine Ev.step (fun k => by rw [spec_l3Stmt.l0]) ?_
    simp only [c, if_false]
    rw [List.drop_eq_nil_of_le (by omega)]
    exact Ev.now _
  | succ q ihq =>
    intro i hi n hn hn2
    have c : (i : Int) < (x.f6.length : Int) := by omega
    have c0 : (0 : Int) ≤ (i : Int) := by omega
    have hwi : wrap64 ((i : Int) + 1) = ((i + 1 : Nat) : Int) := wi (n := x.f6.length) (by omega) (by simp only [maxLen]; omega)
    have hdr : x.f6.drop i = rd_T50 x.f6 (i : Int) :: x.f6.drop (i + 1) := by
      unfold rd_T50
      rw [Int.toNat_natCast]
      exact drop_cons x.f6 _ (by omega)
    refine Ev.step (fun k => by rw [spec_l3Stmt.l0]) ?_
    rw [hdr]
    unfold cntSL
    by_cases c6 : n ≤ 40
    · have bd := cntS_bd r (rd_T50 x.f6 (i : Int))
      have hwn : wrap64 (n + cntS r (rd_T50 x.f6 (i : Int))) = n + cntS r (rd_T50 x.f6 (i : Int)) := w64 (by omega) (by omega)
      simp only [c, c0, c6, if_true, hw]
      refine Ev.then (ih _ (hy _ (rdS_mem (by omega))) (d + 1) (by omega) (by omega)) ?_
      simp only [hwn, hwi]
      exact ihq (i + 1) (by omega) _ (by omega) (by omega)
    · simp only [c, c6, if_true, if_false]
      exact Ev.now _
/-- From where the parts have been looked at. -/
theorem spec_stmt_j1f (r : Nat) (x : S50) (d : Int) (hd : d + r = 3) (hd0 : 0 ≤ d)
    (hloop : ∀ q, r = q + 1 → x.f6.length ≤ 6 → Ev (fun k => spec_l3Stmt.l0 k d 1 0 x.f0 x.f1 x.f2.f0 x.f2.f1 x.f2.f2 x.f2.f3 x.f3.f0 x.f3.f1 x.f3.f2 x.f3.f3 x.f4.f0 x.f4.f1 x.f4.f2 x.f4.f3 x.f5.f0 x.f5.f1 x.f5.f2 x.f5.f3 x.f6) (cntSL (cntS q) x.f6 1)) (h : okS0 x = true) : Ev (fun k => spec_l3Stmt.j1 k d false x.f0 x.f1 x.f2.f0 x.f2.f1 x.f2.f2 x.f2.f3 x.f3.f0 x.f3.f1 x.f3.f2 x.f3.f3 x.f4.f0 x.f4.f1 x.f4.f2 x.f4.f3 x.f5.f0 x.f5.f1 x.f5.f2 x.f5.f3 x.f6) (cntS r x) := by
  refine Ev.step (fun k => by rw [spec_l3Stmt.j1]) ?_
  simp only [Bool.false_eq_true, if_false]
  have j2t : Ev (fun k => spec_l3Stmt.j2 k d true x.f0 x.f1 x.f2.f0 x.f2.f1 x.f2.f2 x.f2.f3 x.f3.f0 x.f3.f1 x.f3.f2 x.f3.f3 x.f4.f0 x.f4.f1 x.f4.f2 x.f4.f3 x.f5.f0 x.f5.f1 x.f5.f2 x.f5.f3 x.f6) 100 := by
    refine Ev.step (fun k => by rw [spec_l3Stmt.j2]) ?_
    simp only [if_true]
    exact Ev.now _
  by_cases c : x.f0 = 3
  · simp only [eq_true c, if_true]
    cases r with
    | zero =>
      have c1 : d ≥ 3 := by omega
      simp only [eq_true c1, if_true]
      unfold cntS
      rw [if_pos h, if_pos c]
      exact j2t
    | succ r =>
      have c1 : ¬ d ≥ 3 := by omega
      simp only [eq_false c1, if_false, spec_l1In_eq, Option.bind_some]
      unfold cntS
      rw [if_pos h, if_pos c]
      have eb : (decide ((1 : Int) ≤ (x.f6.length : Int)) && decide ((x.f6.length : Int) ≤ 6)) = bodyK x.f6.length := rfl
      rw [eb]
      cases hb : bodyK x.f6.length with
      | false =>
        simp only [Bool.not_false, Bool.false_eq_true, if_false]
        exact j2t
      | true =>
        simp only [Bool.not_true, if_true]
        refine Ev.step (fun k => by rw [spec_l3Stmt.j2]) ?_
        simp only [Bool.false_eq_true, if_false]
        simp only [bodyK, Bool.and_eq_true, decide_eq_true_eq] at hb
        exact hloop r rfl (by omega)
  · simp only [eq_false c, if_false]
    have e : cntS r x = if (x.f6.length : Int) > 0 then 100 else 1 := by
      cases r with
      | zero =>
        unfold cntS
        rw [if_pos h, if_neg c]
      | succ r =>
        unfold cntS
        rw [if_pos h, if_neg c]
    rw [e]
    by_cases c2 : (x.f6.length : Int) > 0
    · simp only [eq_true c2, if_true]
      exact Ev.now _
    · simp only [eq_false c2, if_false]
      exact Ev.now _
theorem cntS_no {r : Nat} {x : S50} (h : okS0 x = false) : cntS r x = 100 := by
  cases r with
  | zero =>
    unfold cntS
    rw [h]
    rfl
  | succ r =>
    unfold cntS
    rw [h]
    rfl
theorem spec_stmt_j0 (r : Nat) (x : S50) (d : Int) (hd : d + r = 3) (hd0 : 0 ≤ d)
    (hloop : ∀ q, r = q + 1 → x.f6.length ≤ 6 → Ev (fun k => spec_l3Stmt.l0 k d 1 0 x.f0 x.f1 x.f2.f0 x.f2.f1 x.f2.f2 x.f2.f3 x.f3.f0 x.f3.f1 x.f3.f2 x.f3.f3 x.f4.f0 x.f4.f1 x.f4.f2 x.f4.f3 x.f5.f0 x.f5.f1 x.f5.f2 x.f5.f3 x.f6) (cntSL (cntS q) x.f6 1)) : Ev (fun k => spec_l3Stmt.j0 k d (atS x) (eS x) (loS x) (hiS x) (nmS x) x.f0 x.f1 x.f2.f0 x.f2.f1 x.f2.f2 x.f2.f3 x.f3.f0 x.f3.f1 x.f3.f2 x.f3.f3 x.f4.f0 x.f4.f1 x.f4.f2 x.f4.f3 x.f5.f0 x.f5.f1 x.f5.f2 x.f5.f3 x.f6) (cntS r x) := by
  refine Ev.step (fun k => by rw [spec_l3Stmt.j0]) ?_
  have ok : okS0 x = (atS x && eS x && loS x && hiS x && nmS x && inK x.f0) := rfl
  have bad := spec_stmt_j1t d x
  cases h1 : atS x with
  | false =>
    rw [cntS_no (by rw [ok, h1]; rfl)]
    simp only [Bool.false_eq_true, if_false]
    exact bad
  | true =>
  cases h2 : eS x with
  | false =>
    rw [cntS_no (by rw [ok, h1, h2]; rfl)]
    simp only [if_true, Bool.false_eq_true, if_false]
    exact bad
  | true =>
  cases h3 : loS x with
  | false =>
    rw [cntS_no (by rw [ok, h1, h2, h3]; rfl)]
    simp only [if_true, Bool.false_eq_true, if_false]
    exact bad
  | true =>
  cases h4 : hiS x with
  | false =>
    rw [cntS_no (by rw [ok, h1, h2, h3, h4]; rfl)]
    simp only [if_true, Bool.false_eq_true, if_false]
    exact bad
  | true =>
  cases h5 : nmS x with
  | false =>
    rw [cntS_no (by rw [ok, h1, h2, h3, h4, h5]; rfl)]
    simp only [if_true, Bool.false_eq_true, if_false]
    exact bad
  | true =>
    simp only [if_true, spec_l1In_eq, Option.bind_some]
    have ei : (decide ((1 : Int) ≤ x.f0) && decide (x.f0 ≤ 4)) = inK x.f0 := rfl
    rw [ei]
    rw [h1, h2, h3, h4, h5] at ok
    cases h6 : inK x.f0 with
    | false =>
      rw [cntS_no (by rw [ok, h6]; rfl)]
      exact bad
    | true =>
      exact spec_stmt_j1f r x d hd hd0 hloop (by rw [ok, h6]; rfl)
theorem spec_stmt_ev : ∀ (r : Nat) (x : S50), OkS x → ∀ d : Int, d + r = 3 → 0 ≤ d → Ev (fun k => spec_l3Stmt.f k x.f0 x.f1 x.f2.f0 x.f2.f1 x.f2.f2 x.f2.f3 x.f3.f0 x.f3.f1 x.f3.f2 x.f3.f3 x.f4.f0 x.f4.f1 x.f4.f2 x.f4.f3 x.f5.f0 x.f5.f1 x.f5.f2 x.f5.f3 x.f6 d) (cntS r x) := by
  intro r
  induction r with
  | zero =>
    intro x hx d hd hd0
    obtain ⟨_, h1, e2, e3, e4, e5, hl, hy⟩ := hx
    have J := spec_stmt_j0 0 x d hd hd0 (fun q hq => by omega)
    refine Ev.step (fun k => by rw [spec_l3Stmt.f]) ?_
    simp only [spec_l3No_eq, Option.bind_some]
    refine Ev.then (spec_ExpOk_ev e3) (Ev.then (spec_NameOk_ev _ h1) ?_)
    unfold atS eS loS hiS nmS at J
    by_cases c2 : x.f0 = 2
    · rw [if_pos c2, if_neg (by omega), if_neg (by omega), if_neg (by omega), if_neg (by omega)] at J
      simp only [eq_true c2, if_true]
      exact Ev.then (spec_ExpOk_ev e2) J
    · rw [if_neg c2] at J
      simp only [eq_false c2, if_false]
      by_cases c3 : x.f0 = 3
      · rw [if_pos c3, if_pos c3, if_pos c3, if_neg (by omega)] at J
        simp only [eq_true c3, if_true]
        exact Ev.then (spec_ExpOk_ev e4) (Ev.then (spec_ExpOk_ev e5) J)
      · rw [if_neg c3, if_neg c3, if_neg c3] at J
        simp only [eq_false c3, if_false]
        by_cases c4 : x.f0 = 4
        · rw [if_pos c4] at J
          simp only [eq_true c4, if_true]
          exact J
        · rw [if_neg c4] at J
          simp only [eq_false c4, if_false]
          exact J
  | succ r ih =>
    intro x hx d hd hd0
    obtain ⟨_, h1, e2, e3, e4, e5, hl, hy⟩ := hx
    have J := spec_stmt_j0 (r + 1) x d hd hd0 (fun q hq hl6 => by
      obtain rfl : r = q := by omega
      have := spec_stmt_loop r ih x hl6 hy d hd hd0 x.f6.length 0 (by omega) 1 (by omega) (by omega)
      simpa using this)
    refine Ev.step (fun k => by rw [spec_l3Stmt.f]) ?_
    simp only [spec_l3No_eq, Option.bind_some]
    refine Ev.then (spec_ExpOk_ev e3) (Ev.then (spec_NameOk_ev _ h1) ?_)
    unfold atS eS loS hiS nmS at J
    by_cases c2 : x.f0 = 2
    · rw [if_pos c2, if_neg (by omega), if_neg (by omega), if_neg (by omega), if_neg (by omega)] at J
      simp only [eq_true c2, if_true]
      exact Ev.then (spec_ExpOk_ev e2) J
    · rw [if_neg c2] at J
      simp only [eq_false c2, if_false]
      by_cases c3 : x.f0 = 3
      · rw [if_pos c3, if_pos c3, if_pos c3, if_neg (by omega)] at J
        simp only [eq_true c3, if_true]
        exact Ev.then (spec_ExpOk_ev e4) (Ev.then (spec_ExpOk_ev e5) J)
      · rw [if_neg c3, if_neg c3, if_neg c3] at J
        simp only [eq_false c3, if_false]
        by_cases c4 : x.f0 = 4
        · rw [if_pos c4] at J
          simp only [eq_true c4, if_true]
          exact J
        · rw [if_neg c4] at J
          simp only [eq_false c4, if_false]
          exact J
theorem spec_StmtOk_ev {x : S50} (hx : OkS x) : Ev (fun k => spec_StmtOk.f k x.f0 x.f1 x.f2.f0 x.f2.f1 x.f2.f2 x.f2.f3 x.f3.f0 x.f3.f1 x.f3.f2 x.f3.f3 x.f4.f0 x.f4.f1 x.f4.f2 x.f4.f3 x.f5.f0 x.f5.f1 x.f5.f2 x.f5.f3 x.f6) (decide (cntS 3 x ≤ 40)) := by
  unfold spec_StmtOk.f
  exact Ev.then (spec_stmt_ev 3 x hx 0 (by omega) (by omega)) (Ev.now _)
/-! ### the program -/
theorem impl_fieldOk_ev {x : S29} (hx : OkE x) (b : Bool) : Ev (fun k => impl_fieldOk.f k x.f0 x.f1 x.f2 x.f3 b) (if b = true then expOkS x else noE x) := by
  unfold impl_fieldOk.f
  cases b with
  | true =>
    simp only [if_true]
    exact Ev.then (impl_ExpOk_ev hx) (Ev.now _)
  | false =>
    simp only [Bool.false_eq_true, if_false, impl_isZero_eq, Option.bind_some]
    exact Ev.now _
theorem rightS_no {r : Nat} {x : S50} (h : okS0 x = false) : rightS r x = false := by
  cases r with
  | zero => simp [rightS, h]
  | succ r => simp [rightS, h]
theorem impl_stmt_j1f (r : Nat) (x : S50) (d : Int) (hd : d + r = 3) (hd0 : 0 ≤ d) (h : okS0 x = true)
    (hloop : ∀ q, r = q + 1 → x.f6.length ≤ 6 → Ev (fun k => impl_Stmt_isRight.l0 k d x.f6 (x.f6.length : Int) 0) (x.f6.all (rightS q))) : Ev (fun k => impl_Stmt_isRight.j1 k d (decide (x.f0 = 3)) false x.f0 x.f1 x.f2.f0 x.f2.f1 x.f2.f2 x.f2.f3 x.f3.f0 x.f3.f1 x.f3.f2 x.f3.f3 x.f4.f0 x.f4.f1 x.f4.f2 x.f4.f3 x.f5.f0 x.f5.f1 x.f5.f2 x.f5.f3 x.f6) (rightS r x) := by
  have j2t : Ev (fun k => impl_Stmt_isRight.j2 k d true x.f0 x.f1 x.f2.f0 x.f2.f1 x.f2.f2 x.f2.f3 x.f3.f0 x.f3.f1 x.f3.f2 x.f3.f3 x.f4.f0 x.f4.f1 x.f4.f2 x.f4.f3 x.f5.f0 x.f5.f1 x.f5.f2 x.f5.f3 x.f6) false := by
    refine Ev.step (fun k => by rw [impl_Stmt_isRight.j2]) ?_
    simp only [if_true]
    exact Ev.now _
  refine Ev.step (fun k => by rw [impl_Stmt_isRight.j1]) ?_
  simp only [Bool.false_eq_true, if_false]
  by_cases c : x.f0 = 3
  · simp only [eq_true c, decide_true, if_true]
    cases r with
    | zero =>
      have c1 : d = 3 := by omega
      simp only [eq_true c1, if_true]
      have e : rightS 0 x = false := by simp [rightS, c]
      rw [e]
      exact j2t
    | succ r =>
      have c1 : ¬ d = 3 := by omega
      simp only [eq_false c1, if_false, impl_inRange_eq, Option.bind_some]
      have e : rightS (r + 1) x = (bodyK x.f6.length && x.f6.all (rightS r)) := by simp [rightS, h, c]
      rw [e]
      have eb : (decide ((1 : Int) ≤ (x.f6.length : Int)) && decide ((x.f6.length : Int) ≤ 6)) = bodyK x.f6.length := rfl
      rw [eb]
      cases hb : bodyK x.f6.length with
      | false => exact j2t
      | true =>
        refine Ev.step (fun k => by rw [impl_Stmt_isRight.j2]) ?_
        simp only [Bool.not_true, Bool.false_eq_true, if_false, Bool.true_and]
        simp only [bodyK, Bool.and_eq_true, decide_eq_true_eq] at hb
        exact hloop r rfl (by omega)
  · simp only [eq_false c, decide_false, Bool.false_eq_true, if_false]
    have e : rightS r x = ((x.f6.length : Int) == 0) := by
      cases r with
      | zero => simp [rightS, h, c]
      | succ r => simp [rightS, h, c]
    rw [e]
    exact Ev.now _
theorem impl_stmt_j1t (r : Nat) (x : S50) (d : Int) (b : Bool) (h : okS0 x = false) : Ev (fun k => impl_Stmt_isRight.j1 k d b true x.f0 x.f1 x.f2.f0 x.f2.f1 x.f2.f2 x.f2.f3 x.f3.f0 x.f3.f1 x.f3.f2 x.f3.f3 x.f4.f0 x.f4.f1 x.f4.f2 x.f4.f3 x.f5.f0 x.f5.f1 x.f5.f2 x.f5.f3 x.f6) (rightS r x) := by
  rw [rightS_no h]
  refine Ev.step (fun k => by rw [impl_Stmt_isRight.j1]) ?_
  simp only [if_true]
  exact Ev.now _
theorem impl_stmt_j0t (r : Nat) (x : S50) (d : Int) (b c : Bool) (h : okS0 x = false) : Ev (fun k => impl_Stmt_isRight.j0 k d b c true x.f0 x.f1 x.f2.f0 x.f2.f1 x.f2.f2 x.f2.f3 x.f3.f0 x.f3.f1 x.f3.f2 x.f3.f3 x.f4.f0 x.f4.f1 x.f4.f2 x.f4.f3 x.f5.f0 x.f5.f1 x.f5.f2 x.f5.f3 x.f6) (rightS r x) := by
  rw [rightS_no h]
  refine Ev.step (fun k => by rw [impl_Stmt_isRight.j0]) ?_
  simp only [if_true]
  exact Ev.now _
/-- Which parts a kind names. -/
def atK (k : Int) : Bool := decide (k = 2)
def eK (k : Int) : Bool := !decide (k = 3)
def bK (k : Int) : Bool := decide (k = 3)
def nK (k : Int) : Bool := !decide (k = 4)
theorem fields_eq {k : Int} (h : inK k = true) : impl_fields.f k = some (atK k, eK k, bK k, nK k) := by
  simp only [inK, Bool.and_eq_true, decide_eq_true_eq] at h
  have : k = 1 ∨ k = 2 ∨ k = 3 ∨ k = 4 := by omega
  rcases this with rfl | rfl | rfl | rfl <;> decide
theorem at_eq (x : S50) : (if atK x.f0 = true then expOkS x.f2 else noE x.f2) = atS x := by
  unfold atK atS
  by_cases c : x.f0 = 2 <;> simp [c]
theorem e_eq (x : S50) : (if eK x.f0 = true then expOkS x.f3 else noE x.f3) = eS x := by
  unfold eK eS
  by_cases c : x.f0 = 3 <;> simp [c]
theorem lo_eq (x : S50) : (if bK x.f0 = true then expOkS x.f4 else noE x.f4) = loS x := by
  unfold bK loS
  by_cases c : x.f0 = 3 <;> simp [c]
theorem hi_eq (x : S50) : (if bK x.f0 = true then expOkS x.f5 else noE x.f5) = hiS x := by
  unfold bK hiS
  by_cases c : x.f0 = 3 <;> simp [c]
theorem impl_stmt_j0f (r : Nat) (x : S50) (d : Int) (h1 : x.f1.size ≤ maxLen) (hd : d + r = 3) (hd0 : 0 ≤ d) (ok : okS0 x = nmS x)
    (hloop : ∀ q, r = q + 1 → x.f6.length ≤ 6 → Ev (fun k => impl_Stmt_isRight.l0 k d x.f6 (x.f6.length : Int) 0) (x.f6.all (rightS q))) : Ev (fun k => impl_Stmt_isRight.j0 k d (bK x.f0) (nK x.f0) false x.f0 x.f1 x.f2.f0 x.f2.f1 x.f2.f2 x.f2.f3 x.f3.f0 x.f3.f1 x.f3.f2 x.f3.f3 x.f4.f0 x.f4.f1 x.f4.f2 x.f4.f3 x.f5.f0 x.f5.f1 x.f5.f2 x.f5.f3 x.f6) (rightS r x) := by
  refine Ev.step (fun k => by rw [impl_Stmt_isRight.j0]) ?_
  simp only [Bool.false_eq_true, if_false]
  by_cases c : x.f0 = 4
  · have en : nK x.f0 = false := by simp [nK, c]
    have em : nmS x = (x.f1.toList == []) := by simp [nmS, c]
    rw [em] at ok
    simp only [en, Bool.false_eq_true, if_false]
    by_cases e : x.f1.toList = []
    · have e1 : (x.f1.toList == []) = true := by simpa using e
      have e2 : (x.f1.toList != []) = false := by simp [e]
      rw [e2]
      exact impl_stmt_j1f r x d hd hd0 (ok.trans e1) hloop
    · have e1 : (x.f1.toList == []) = false := by simpa using e
      have e2 : (x.f1.toList != []) = true := by simp [e]
      rw [e2]
      exact impl_stmt_j1t r x d _ (ok.trans e1)
  · have en : nK x.f0 = true := by simp [nK, c]
    have em : nmS x = nameS x.f1 := by simp [nmS, c]
    rw [em] at ok
    simp only [en, if_true]
    refine Ev.then (impl_NameOk_ev _ h1) ?_
    cases e : nameS x.f1 with
    | true =>
      simp only [if_true]
      exact impl_stmt_j1f r x d hd hd0 (ok.trans e) hloop
    | false =>
      simp only [Bool.false_eq_true, if_false]
      exact impl_stmt_j1t r x d _ (ok.trans e)
theorem impl_stmt_f (r : Nat) (x : S50) (hx : OkS x) (d : Int) (hd : d + r = 3) (hd0 : 0 ≤ d)
    (hloop : ∀ q, r = q + 1 → x.f6.length ≤ 6 → Ev (fun k => impl_Stmt_isRight.l0 k d x.f6 (x.f6.length : Int) 0) (x.f6.all (rightS q))) : Ev (fun k => impl_Stmt_isRight.f k x.f0 x.f1 x.f2.f0 x.f2.f1 x.f2.f2 x.f2.f3 x.f3.f0 x.f3.f1 x.f3.f2 x.f3.f3 x.f4.f0 x.f4.f1 x.f4.f2 x.f4.f3 x.f5.f0 x.f5.f1 x.f5.f2 x.f5.f3 x.f6 d) (rightS r x) := by
  obtain ⟨_, h1, e2, e3, e4, e5, hl, hy⟩ := hx
  have ok : okS0 x = (atS x && eS x && loS x && hiS x && nmS x && inK x.f0) := rfl
  refine Ev.step (fun k => by rw [impl_Stmt_isRight.f]) ?_
  simp only [impl_inRange_eq, Option.bind_some]
  have ei : (decide ((1 : Int) ≤ x.f0) && decide (x.f0 ≤ 4)) = inK x.f0 := rfl
  rw [ei]
  cases hk : inK x.f0 with
  | false =>
    rw [rightS_no (by rw [ok, hk, Bool.and_false])]
    simp only [Bool.false_eq_true, if_false]
    exact Ev.now _
  | true =>
    simp only [if_true, fields_eq hk, Option.bind_some]
    have p2 := impl_fieldOk_ev e2 (atK x.f0)
    have p3 := impl_fieldOk_ev e3 (eK x.f0)
    have p4 := impl_fieldOk_ev e4 (bK x.f0)
    have p5 := impl_fieldOk_ev e5 (bK x.f0)
    rw [at_eq] at p2
    rw [e_eq] at p3
    rw [lo_eq] at p4
    rw [hi_eq] at p5
    rw [hk, Bool.and_true] at ok
    refine Ev.then p2 ?_
    cases q2 : atS x with
    | false =>
      simp only [Bool.false_eq_true, if_false]
      exact impl_stmt_j0t r x d _ _ (by rw [ok, q2]; rfl)
    | true =>
    simp only [if_true]
    refine Ev.then p3 ?_
    cases q3 : eS x with
    | false =>
      simp only [Bool.false_eq_true, if_false]
      exact impl_stmt_j0t r x d _ _ (by rw [ok, q2, q3]; rfl)
    | true =>
    simp only [if_true]
    refine Ev.then p4 ?_
    cases q4 : loS x with
    | false =>
      simp only [Bool.false_eq_true, if_false]
      exact impl_stmt_j0t r x d _ _ (by rw [ok, q2, q3, q4]; rfl)
    | true =>
    simp only [if_true]
    refine Ev.then p5 ?_
    cases q5 : hiS x with
    | false =>
      simp only [Bool.not_false]
      exact impl_stmt_j0t r x d _ _ (by rw [ok, q2, q3, q4, q5]; rfl)
    | true =>
      simp only [Bool.not_true]
      exact impl_stmt_j0f r x d h1 hd hd0 (by rw [ok, q2, q3, q4, q5]; rfl) hloop
theorem impl_stmt_loop (r : Nat) (ih : ∀ (y : S50), OkS y → ∀ d : Int, d + r = 3 → 0 ≤ d → Ev (fun k => impl_Stmt_isRight.f k y.f0 y.f1 y.f2.f0 y.f2.f1 y.f2.f2 y.f2.f3 y.f3.f0 y.f3.f1 y.f3.f2 y.f3.f3 y.f4.f0 y.f4.f1 y.f4.f2 y.f4.f3 y.f5.f0 y.f5.f1 y.f5.f2 y.f5.f3 y.f6 d) (rightS r y)) (l : List S50) (hl : l.length ≤ 6) (hy : ∀ y ∈ l, OkS y) (d : Int) (hd : d + (r + 1 : Nat) = 3) (hd0 : 0 ≤ d) :
    Ev (fun k => impl_Stmt_isRight.l0 k d l (l.length : Int) 0) (l.all (rightS r)) := by
  have hw : wrap64 (d + 1) = d + 1 := w64 (by omega) (by omega)
  rw [← range_all]
  refine Ev.all (g := fun k i => impl_Stmt_isRight.l0 k d l (l.length : Int) i) _ ?_ ?_ ?_
  · intro i hi hp q hq
    have c : (i : Int) < (l.length : Int) := by omega
    have c0 : (0 : Int) ≤ (i : Int) := by omega
    have hwi : wrap64 ((i : Int) + 1) = ((i + 1 : Nat) : Int) := wi (n := l.length) hi (by simp only [maxLen]; omega)
    refine Ev.step (fun k => by rw [impl_Stmt_isRight.l0]) ?_
    simp only [c, c0, if_true, hw]
    refine Ev.then (ih _ (hy _ (rdS_mem hi)) (d + 1) (by omega) (by omega)) ?_
    simp only [hp, if_true, hwi]
    exact hq
  · intro i hi hp
    have c : (i : Int) < (l.length : Int) := by omega
    have c0 : (0 : Int) ≤ (i : Int) := by omega
    refine Ev.step (fun k => by rw [impl_Stmt_isRight.l0]) ?_
    simp only [c, c0, if_true, hw]
    refine Ev.then (ih _ (hy _ (rdS_mem hi)) (d + 1) (by omega) (by omega)) ?_
    simp only [hp, Bool.false_eq_true, if_false]
    exact Ev.now _
  · refine Ev.step (fun k => by rw [impl_Stmt_isRight.l0]) ?_
    have c : ¬ (l.length : Int) < (l.length : Int) := by omega
    simp only [c, if_false]
    exact Ev.now _
theorem impl_stmt_ev : ∀ (r : Nat) (x : S50), OkS x → ∀ d : Int, d + r = 3 → 0 ≤ d → Ev (fun k => impl_Stmt_isRight.f k x.f0 x.f1 x.f2.f0 x.f2.f1 x.f2.f2 x.f2.f3 x.f3.f0 x.f3.f1 x.f3.f2 x.f3.f3 x.f4.f0 x.f4.f1 x.f4.f2 x.f4.f3 x.f5.f0 x.f5.f1 x.f5.f2 x.f5.f3 x.f6 d) (rightS r x) := by
  intro r
  induction r with
  | zero => exact fun x hx d hd hd0 => impl_stmt_f 0 x hx d hd hd0 (fun q hq => by omega)
  | succ r ih =>
    intro x hx d hd hd0
    refine impl_stmt_f (r + 1) x hx d hd hd0 fun q hq hl6 => ?_
    obtain rfl : r = q := by omega
    obtain ⟨_, _, _, _, _, _, _, hy⟩ := hx
    exact impl_stmt_loop r ih x.f6 hl6 hy d hd hd0
theorem size_loop (l : List S50) (g : S50 → Int) (B : Int) (hl : l.length ≤ 6) (h : ∀ y ∈ l, Ev (fun k => impl_Size.f k y.f6) (g y) ∧ 0 ≤ g y ∧ g y ≤ B) (hB : B ≤ 1000) :
    ∀ (q i : Nat), i + q = l.length → ∀ n : Int, 0 ≤ n → n + q * 1000 ≤ 100000 → Ev (fun k => impl_Size.l0 k n l (l.length : Int) (i : Int)) (sumSL g (l.drop i) n) := by
  intro q
  induction q with
  | zero =>
    intro i hi n hn hn2
    have c : ¬ (i : Int) < (l.length : Int) := by omega
    refine Ev.step (fun k => by rw [impl_Size.l0]) ?_
    simp only [c, if_false]
    rw [List.drop_eq_nil_of_le (by omega)]
    exact Ev.now _
  | succ q ihq =>
    intro i hi n hn hn2
    have c : (i : Int) < (l.length : Int) := by omega
    have c0 : (0 : Int) ≤ (i : Int) := by omega
    have hwi : wrap64 ((i : Int) + 1) = ((i + 1 : Nat) : Int) := wi (n := l.length) (by omega) (by simp only [maxLen]; omega)
    have hdr : l.drop i = rd_T50 l (i : Int) :: l.drop (i + 1) := by
      unfold rd_T50
      rw [Int.toNat_natCast]
      exact drop_cons l _ (by omega)
    obtain ⟨h1, h2, h3⟩ := h _ (rdS_mem (show i < l.length by omega))
    have hwn : wrap64 (n + g (rd_T50 l (i : Int))) = n + g (rd_T50 l (i : Int)) := w64 (by omega) (by omega)
    refine Ev.step (fun k => by rw [impl_Size.l0]) ?_
    rw [hdr]
    unfold sumSL
    simp only [c, c0, if_true]
    refine Ev.then h1 ?_
    simp only [hwn, hwi]
    exact ihq (i + 1) (by omega) _ (by omega) (by omega)
theorem size_ev : ∀ (r : Nat) (x : S50), r ≤ 3 → rightS r x = true → Ev (fun k => impl_Size.f k x.f6) (bodS r x)
  | 0, x, _, h => by
    obtain ⟨_, h0, _⟩ := right_body h
    rw [h0 rfl]
    refine Ev.step (fun k => by rw [impl_Size.f]) (Ev.step (fun k => by rw [impl_Size.l0]) ?_)
    have c : ¬ (0 : Int) < ((([] : List S50).length : Nat) : Int) := by simp
    simp only [c, if_false]
    exact Ev.now _
  | r + 1, x, hr, h => by
    obtain ⟨h6, _, h3⟩ := right_body h
    have b3 : bndS r ≤ 1000 := by
      have : r = 0 ∨ r = 1 ∨ r = 2 := by omega
      rcases this with rfl | rfl | rfl <;> decide
    refine Ev.step (fun k => by rw [impl_Size.f]) ?_
    have := size_loop x.f6 (bodS r) (bndS r) h6 (fun y hy => ⟨size_ev r y (by omega) (h3 r rfl y hy), bodS_bd r y (h3 r rfl y hy)⟩) b3 x.f6.length 0 (by omega) (x.f6.length : Int) (by omega) (by omega)
    have e : bodS (r + 1) x = sumSL (bodS r) x.f6 (x.f6.length : Int) := rfl
    rw [e]
    simpa using this
theorem impl_StmtOk_ev {x : S50} (hx : OkS x) : Ev (fun k => impl_StmtOk.f k x.f0 x.f1 x.f2.f0 x.f2.f1 x.f2.f2 x.f2.f3 x.f3.f0 x.f3.f1 x.f3.f2 x.f3.f3 x.f4.f0 x.f4.f1 x.f4.f2 x.f4.f3 x.f5.f0 x.f5.f1 x.f5.f2 x.f5.f3 x.f6) (decide (cntS 3 x ≤ 40)) := by
  have rel := relS 3 x
  unfold impl_StmtOk.f
  refine Ev.then (impl_stmt_ev 3 x hx 0 (by omega) (by omega)) ?_
  unfold RelS at rel
  cases e : rightS 3 x with
  | false =>
    rw [e] at rel
    simp only [Bool.false_eq_true, if_false]
    have : decide (cntS 3 x ≤ 40) = false := by
      rw [decide_eq_false_iff_not]
      have := rel.resolve_right (fun h => absurd h.1 (by decide))
      omega
    rw [this]
    exact Ev.now _
  | true =>
    have hb := bodS_bd 3 x e
    have b3 : bndS 3 = 258 := by decide
    rw [e] at rel
    simp only [if_true, etaS]
    have hs : Ev (fun k => impl_Size.f k [x]) (1 + bodS 3 x) := by
      refine Ev.step (fun k => by rw [impl_Size.f]) ?_
      have := size_loop [x] (bodS 3) 258 (by simp) (fun y hy => by
        obtain rfl : y = x := by simpa using hy
        exact ⟨size_ev 3 y (by omega) e, hb.1, by omega⟩) (by omega) 1 0 (by simp) 1 (by omega) (by omega)
      simpa [sumSL] using this
    refine Ev.then hs ?_
    have e2 : decide (1 + bodS 3 x ≤ 40) = decide (cntS 3 x ≤ 40) := by
      rw [decide_eq_decide]
      have := rel.resolve_left (fun h => absurd h.1 (by decide))
      omega
    rw [e2]
    exact Ev.now _
theorem FnExactStmtOk (x : S45) (hx : GoodS x) : ∃ k, laws_FnExactStmtOk.f k x.f0 x.f1 x.f2.f0 x.f2.f1 x.f2.f2 x.f2.f3 x.f3.f0 x.f3.f1 x.f3.f2 x.f3.f3 x.f4.f0 x.f4.f1 x.f4.f2 x.f4.f3 x.f5.f0 x.f5.f1 x.f5.f2 x.f5.f3 x.f6 = some true := by
  apply Ev.rounds
  unfold laws_FnExactStmtOk.f
  obtain ⟨t, h1, h2⟩ := szStmt_ev hx 1048576 (by omega) (by omega)
  refine Ev.then h1 ?_
  by_cases e : t < 0
  · simp only [e, if_true]
    exact Ev.now _
  · simp only [e, if_false]
    have hs := (h2.resolve_left e).2.2
    have ta := toStmt_ev hs
    have ho := OkS.of hs
    refine Ev.then ta (Ev.then (spec_StmtOk_ev ho) (Ev.then ta (Ev.then (impl_StmtOk_ev ho) ?_)))
    simp only [bne_self_eq_false, Bool.false_eq_true, if_false]
    refine Ev.then ta (Ev.then (eqStmt_ev hs) ?_)
    simp only [if_true]
    exact Ev.now _

end Go.Proofs.Ytmmdgciefehbcaa.Pure
