/- The pure statement of FnExactExpText: what the printed functions compute makes the law answer true. Conditions: those in the statement. -/
import Derived.Test.YtmmdgciefehbcaaDoorLem
import Derived.Test.YtmmdgciefehbcaaDoorPFnExactExpTextx0
import Derived.Test.YtmmdgciefehbcaaDoorPFnExactExpTextx1
import Derived.Test.YtmmdgciefehbcaaDoorPFnExactExpTextx2
import Derived.Test.YtmmdgciefehbcaaDoorPFnExactExpTextx3
import Derived.Test.YtmmdgciefehbcaaDoorPFnExactExpTextx4
import Derived.Test.YtmmdgciefehbcaaDoorPFnExactExpTextx5
import Derived.Test.YtmmdgciefehbcaaDoorPFnExactExpTextx6
import Derived.Test.YtmmdgciefehbcaaDoorPFnExactExpTextx7
namespace Go.Proofs.YtmmdgciefehbcaaDoor.Pure
open Go.RowKit Go.Proofs.YtmmdgciefehbcaaDoor.PFnExactExpText Go.Proofs.YtmmdgciefehbcaaDoorW.PrintWords Go.Proofs.YtmmdgciefehbcaaDoorW.PrintLast Go.Proofs.YtmmdgciefehbcaaDoorW.PrintMore Go.Proofs.YtmmdgciefehbcaaDoor.Lem
set_option linter.unusedVariables false
set_option linter.unusedSimpArgs false

theorem spec_l1In_eq (a b c : Int) : spec_l1In.f a b c = some (decide (b ≤ a) && decide (a ≤ c)) := by
  unfold spec_l1In.f
  by_cases h : a ≥ b
  · have h' : b ≤ a := h
    simp [h']
  · have h' : ¬ b ≤ a := h
    simp [h']
theorem impl_inRange_eq (a b c : Int) : impl_inRange.f a b c = some (decide (b ≤ a) && decide (a ≤ c)) := by
  unfold impl_inRange.f
  by_cases h : a ≥ b
  · have h' : b ≤ a := h
    simp [h']
  · have h' : ¬ b ≤ a := h
    simp [h']
theorem impl_isLetter_eq (a : Int) : impl_isLetter.f a = some (decide (97 ≤ a) && decide (a ≤ 122)) := by
  unfold impl_isLetter.f
  by_cases h : a ≥ 97
  · have h' : 97 ≤ a := h
    simp [h']
  · have h' : ¬ 97 ≤ a := h
    simp [h']
theorem spec_l2Small_eq (a : Int) (h0 : 0 ≤ a) (h1 : a ≤ 255) : spec_l2Small.f a = some (decide (97 ≤ a) && decide (a ≤ 122)) := by
  unfold spec_l2Small.f
  rw [w64 (by omega) (by omega), spec_l1In_eq]
  rfl
theorem spec_l2Has_ev (xs : List ByteArray) (s : ByteArray) (hn : xs.length ≤ maxLen) : Ev (fun k => spec_l2Has.f k xs s) (xs.any fun x => x.toList == s.toList) := by
  unfold spec_l2Has.f
  have key : ∀ d i, i + d = xs.length → Ev (fun k => spec_l2Has.l0 k xs s (i : Int)) ((xs.drop i).any fun x => x.toList == s.toList) := by
    intro d
    induction d with
    | zero =>
      intro i hi
      refine Ev.step (fun k => by rw [spec_l2Has.l0]) ?_
      have c : ¬ (i : Int) < (xs.length : Int) := by omega
      simp only [c, if_false]
      rw [List.drop_eq_nil_of_le (by omega)]
      exact Ev.now _
    | succ d ih =>
      intro i hi
      refine Ev.step (fun k => by rw [spec_l2Has.l0]) ?_
      have c : (i : Int) < (xs.length : Int) := by omega
      have c0 : (0 : Int) ≤ (i : Int) := by omega
      have hw : wrap64 ((i : Int) + 1) = ((i + 1 : Nat) : Int) := wi (by omega) hn
      have hd : xs.drop i = rdOf ByteArray.empty xs (i : Int) :: xs.drop (i + 1) := by
        rw [List.drop_eq_getElem_cons (by omega)]
        simp [rdOf, List.getElem?_eq_getElem (show i < xs.length by omega)]
      rw [hd, List.any_cons]
      simp only [c, c0, if_true, hw]
      by_cases e : (rdOf ByteArray.empty xs (i : Int)).toList = s.toList
      · simp only [e, if_true, beq_self_eq_true, Bool.true_or]
        exact Ev.now _
      · simp only [e, if_false]
        have e' : ((rdOf ByteArray.empty xs (i : Int)).toList == s.toList) = false := by simpa using e
        rw [e', Bool.false_or]
        exact ih (i + 1) (by omega)
  have := key xs.length 0 (by omega)
  simpa using this
theorem spec_l2Kept_ev (s : ByteArray) : Ev (fun k => spec_l2Kept.f k s) (keptS s) := by
  unfold spec_l2Kept.f
  refine Ev.then (spec_l2Has_ev _ s (by simp [maxLen])) ?_
  have : (List.any [(⟨#[97, 114, 114, 97, 121]⟩ : ByteArray), (⟨#[102, 111, 114]⟩ : ByteArray), (⟨#[116, 111]⟩ : ByteArray), (⟨#[112, 114, 105, 110, 116]⟩ : ByteArray), (⟨#[109, 105, 110]⟩ : ByteArray), (⟨#[109, 97, 120]⟩ : ByteArray)] fun x => x.toList == s.toList) = keptS s := by
    simp only [keptS, keptL, List.any_cons, List.any_nil, toList_data]
  rw [this]
  exact Ev.now _
theorem impl_isKept_eq (s : ByteArray) : impl_isKept.f s = some (keptS s) := by
  unfold impl_isKept.f keptS keptL
  have hb : ∀ l : List UInt8, decide (s.toList = l) = (l == s.toList) := fun l => by
    by_cases h : s.toList = l
    · rw [decide_eq_true h, ← h, beq_self_eq_true]
    · rw [decide_eq_false h, beq_eq_false_iff_ne.mpr (fun e => h e.symm)]
  simp only [if_or, hb, List.any_cons, List.any_nil]
theorem spec_NameOk_ev (s : ByteArray) (hn : s.size ≤ maxLen) : Ev (fun k => spec_NameOk.f k s) (nameS s) := by
  unfold spec_NameOk.f nameS
  refine Ev.run (g := fun k i (_ : Unit) => spec_NameOk.l0 k s i) _ _ ?_ ?_ ()
  · intro i u hi
    have c : (i : Int) < (s.size : Int) := by omega
    have c0 : (0 : Int) ≤ (i : Int) := by omega
    have hw : wrap64 ((i : Int) + 1) = ((i + 1 : Nat) : Int) := wi hi hn
    have hl : spec_l2Small.f (bt s (i : Int)) = some (letS s i) := spec_l2Small_eq _ (bt_range s i).1 (bt_range s i).2
    cases e : letS s i with
    | true =>
      simp only [if_true]
      intro r hr
      refine Ev.step (fun k => by rw [spec_NameOk.l0]) ?_
      simp only [c, c0, if_true, hl, e, Option.bind_some, hw]
      exact hr
    | false =>
      simp only [Bool.false_eq_true, if_false]
      refine Ev.step (fun k => by rw [spec_NameOk.l0]) ?_
      simp only [c, c0, if_true, hl, e, Option.bind_some, Bool.false_eq_true, if_false]
      exact Ev.now _
  · intro u
    refine Ev.step (fun k => by rw [spec_NameOk.l0]) ?_
    have c : ¬ (s.size : Int) < (s.size : Int) := by omega
    simp only [c, if_false, spec_l1In_eq, Option.bind_some]
    have e1 : (decide ((1 : Int) ≤ (s.size : Int)) && decide ((s.size : Int) ≤ 6)) = (decide (1 ≤ s.size) && decide (s.size ≤ 6)) := by
      rw [Bool.eq_iff_iff]
      simp
      omega
    rw [e1]
    cases e : (decide (1 ≤ s.size) && decide (s.size ≤ 6)) with
    | true =>
      simp only [if_true, Bool.true_and]
      exact Ev.then (spec_l2Kept_ev s) (Ev.now _)
    | false =>
      simp only [Bool.false_eq_true, if_false, Bool.false_and]
      exact Ev.now _
theorem impl_NameOk_ev (s : ByteArray) (hn : s.size ≤ maxLen) : Ev (fun k => impl_NameOk.f k s) (nameS s) := by
  unfold impl_NameOk.f nameS
  refine Ev.run (g := fun k i (_ : Unit) => impl_NameOk.l0 k s i) _ _ ?_ ?_ ()
  · intro i u hi
    have c : (i : Int) < (s.size : Int) := by omega
    have c0 : (0 : Int) ≤ (i : Int) := by omega
    have hw : wrap64 ((i : Int) + 1) = ((i + 1 : Nat) : Int) := wi hi hn
    have hl : impl_isLetter.f (bt s (i : Int)) = some (letS s i) := impl_isLetter_eq _
    cases e : letS s i with
    | true =>
      simp only [if_true]
      intro r hr
      refine Ev.step (fun k => by rw [impl_NameOk.l0]) ?_
      simp only [c, c0, if_true, hl, e, Option.bind_some, hw]
      exact hr
    | false =>
      simp only [Bool.false_eq_true, if_false]
      refine Ev.step (fun k => by rw [impl_NameOk.l0]) ?_
      simp only [c, c0, if_true, hl, e, Option.bind_some, Bool.false_eq_true, if_false]
      exact Ev.now _
  · intro u
    refine Ev.step (fun k => by rw [impl_NameOk.l0]) ?_
    have c : ¬ (s.size : Int) < (s.size : Int) := by omega
    simp only [c, if_false, impl_inRange_eq, Option.bind_some]
    have e1 : (decide ((1 : Int) ≤ (s.size : Int)) && decide ((s.size : Int) ≤ 6)) = (decide (1 ≤ s.size) && decide (s.size ≤ 6)) := by
      rw [Bool.eq_iff_iff]
      simp
      omega
    rw [e1]
    cases e : (decide (1 ≤ s.size) && decide (s.size ≤ 6)) with
    | true =>
      simp only [if_true, Bool.true_and, impl_isKept_eq, Option.bind_some]
      exact Ev.now _
    | false =>
      simp only [Bool.false_eq_true, if_false, Bool.false_and]
      exact Ev.now _

/-! ### trees of sums -/
inductive GoodE : S24 → Prop
  | mk (x : S24) (h2 : x.f2.size ≤ maxLen) (h3 : x.f3.length ≤ maxLen) (hy : ∀ y ∈ x.f3, GoodE y) : GoodE x
inductive SzE : S24 → Prop
  | mk (x : S24) (h2 : x.f2.size ≤ maxLen) (h3 : x.f3.length ≤ 1048576) (hy : ∀ y ∈ x.f3, SzE y) : SzE x
mutual
def cvExp : S24 → S29
  | ⟨a, b, c, l⟩ => ⟨a, b, c, cvExpS l⟩
def cvExpS : List S24 → List S29
  | [] => []
  | x :: xs => cvExp x :: cvExpS xs
end
theorem cvExpS_map (l : List S24) : cvExpS l = l.map cvExp := by
  induction l with
  | nil => rfl
  | cons x xs ih => rw [cvExpS, ih, List.map_cons]
theorem cvExp_f (x : S24) : cvExp x = ⟨x.f0, x.f1, x.f2, x.f3.map cvExp⟩ := by
  obtain ⟨a, b, c, l⟩ := x
  rw [cvExp, cvExpS_map]
theorem szExp_ev {x : S24} (h : GoodE x) : ∀ a : Int, 0 ≤ a → a ≤ 1048576 → ∃ t, Ev (fun k => laws_szExp.f k x.f0 x.f1 x.f2 x.f3 a) t ∧ (t < 0 ∨ 0 ≤ t ∧ t ≤ 1048576 ∧ SzE x) := by
  induction h with
  | mk x h2 h3 hy ih =>
    intro a a0 a1
    have h2' := h2
    have h3' := h3
    simp only [maxLen] at h2' h3'
    have w1 : wrap64 (a - (x.f2.size : Int)) = a - (x.f2.size : Int) := w64 (by omega) (by omega)
    by_cases c : a - (x.f2.size : Int) < 0
    · refine ⟨-1, Ev.step (fun k => by rw [laws_szExp.f]) ?_, .inl (by omega)⟩
      simp only [w1, c, if_true]
      exact Ev.now _
    have key : ∀ d i, i + d = x.f3.length → ∀ b : Int, 0 ≤ b → b ≤ 1048576 → ∃ t, Ev (fun k => laws_szExpS.l0 k x.f3 b (i : Int)) t ∧ (t < 0 ∨ 0 ≤ t ∧ t ≤ 1048576 ∧ ∀ y ∈ x.f3.drop i, SzE y) := by
      intro d
      induction d with
      | zero =>
        intro i hi b hb0 hb1
        refine ⟨b, Ev.step (fun k => by rw [laws_szExpS.l0]) ?_, .inr ⟨hb0, hb1, by rw [List.drop_eq_nil_of_le (by omega)]; simp⟩⟩
        have c : ¬ (i : Int) < (x.f3.length : Int) := by omega
        simp only [c, if_false]
        exact Ev.now _
      | succ d ihd =>
        intro i hi b hb0 hb1
        have c : (i : Int) < (x.f3.length : Int) := by omega
        have c0 : (0 : Int) ≤ (i : Int) := by omega
        have hw : wrap64 ((i : Int) + 1) = ((i + 1 : Nat) : Int) := wi (n := x.f3.length) (by omega) h3
        have hd : x.f3.drop i = rd_T24 x.f3 (i : Int) :: x.f3.drop (i + 1) := drop_cons x.f3 _ (by omega)
        have hm : rd_T24 x.f3 (i : Int) ∈ x.f3 := getD_mem x.f3 _ (by omega)
        obtain ⟨t, ht, h2⟩ := ih _ hm b hb0 hb1
        by_cases c2 : t < 0
        · refine ⟨-1, Ev.step (fun k => by rw [laws_szExpS.l0]) ?_, .inl (by omega)⟩
          simp only [c, c0, if_true]
          refine Ev.then ht ?_
          simp only [c2, if_true]
          exact Ev.now _
        · have h2' := h2.resolve_left c2
          obtain ⟨q, h3, h4⟩ := ihd (i + 1) (by omega) t h2'.1 h2'.2.1
          refine ⟨q, Ev.step (fun k => by rw [laws_szExpS.l0]) ?_, h4.imp id fun h => ⟨h.1, h.2.1, ?_⟩⟩
          · simp only [c, c0, if_true]
            refine Ev.then ht ?_
            simp only [c2, if_false, hw]
            exact h3
          · rw [hd]
            intro y hy
            rcases List.mem_cons.1 hy with rfl | hy
            · exact h2'.2.2
            · exact h.2.2 y hy
    have w2 : wrap64 (a - (x.f2.size : Int) - (x.f3.length : Int)) = a - (x.f2.size : Int) - (x.f3.length : Int) := w64 (by omega) (by omega)
    by_cases c3 : a - (x.f2.size : Int) - (x.f3.length : Int) < 0
    · refine ⟨-1, Ev.step (fun k => by rw [laws_szExp.f]) ?_, .inl (by omega)⟩
      simp only [w1, c, if_false]
      refine Ev.then (Ev.step (fun k => by rw [laws_szExpS.f]) (r := (-1 : Int)) ?_) ?_
      · simp only [w2, c3, if_true]
        exact Ev.now _
      · simp only [show ((-1 : Int) < 0) by omega, if_true]
        exact Ev.now _
    · obtain ⟨t, h4, h5⟩ := key x.f3.length 0 (by omega) (a - (x.f2.size : Int) - (x.f3.length : Int)) (by omega) (by omega)
      have e1 : Ev (fun k => laws_szExpS.f k x.f3 (a - (x.f2.size : Int))) t := by
        refine Ev.step (fun k => by rw [laws_szExpS.f]) ?_
        simp only [w2, c3, if_false]
        exact h4
      by_cases c4 : t < 0
      · refine ⟨-1, Ev.step (fun k => by rw [laws_szExp.f]) ?_, .inl (by omega)⟩
        simp only [w1, c, if_false]
        refine Ev.then e1 ?_
        simp only [c4, if_true]
        exact Ev.now _
      · have h5' := h5.resolve_left c4
        refine ⟨t, Ev.step (fun k => by rw [laws_szExp.f]) ?_, .inr ⟨h5'.1, h5'.2.1, SzE.mk x h2 (by omega) (by simpa using h5'.2.2)⟩⟩
        simp only [w1, c, if_false]
        refine Ev.then e1 ?_
        simp only [c4, if_false]
        exact Ev.now _
theorem toExp_ev {x : S24} (h : SzE x) : Ev (fun k => laws_toExp.f k x.f0 x.f1 x.f2 x.f3) (x.f0, x.f1, x.f2, x.f3.map cvExp) := by
  induction h with
  | mk x h2 hl hy ih =>
    refine Ev.step (fun k => by rw [laws_toExp.f]) ?_
    refine Ev.then (Ev.step (fun k => by rw [laws_toExpS.f]) (r := x.f3.map cvExp) ?_) (Ev.now _)
    generalize x.f3 = l at *
    have c1 : (0 : Int) ≤ (l.length : Int) := by omega
    have c2 : ((l.length : Int) : Int).toNat ≤ 5026338869833 := by omega
    simp only [c1, c2, if_true]
    have key : ∀ d i, i + d = l.length → Ev (fun k => laws_toExpS.l0 k l ((l.take i).map cvExp ++ List.replicate d z29) (i : Int)) (l.map cvExp) := by
      intro d
      induction d with
      | zero =>
        intro i hi
        refine Ev.step (fun k => by rw [laws_toExpS.l0]) ?_
        have c : ¬ (i : Int) < (l.length : Int) := by omega
        simp only [c, if_false]
        have : l.take i = l := List.take_of_length_le (by omega)
        rw [this]
        simpa using Ev.now (List.map cvExp l)
      | succ d ihd =>
        intro i hi
        refine Ev.step (fun k => by rw [laws_toExpS.l0]) ?_
        have c : (i : Int) < (l.length : Int) := by omega
        have c0 : (0 : Int) ≤ (i : Int) := by omega
        have hw : wrap64 ((i : Int) + 1) = ((i + 1 : Nat) : Int) := wi (n := l.length) (by omega) (by simp only [maxLen]; omega)
        have hm : rd_T24 l (i : Int) ∈ l := getD_mem l _ (by omega)
        have c3 : (i : Int) < ((((l.take i).map cvExp ++ List.replicate (d + 1) z29).length : Nat) : Int) := by
          rw [List.length_append, List.length_map, List.length_take, List.length_replicate]
          omega
        simp only [c, c0, if_true, c3, hw]
        refine Ev.then (ih _ hm) ?_
        have e : (((l.take i).map cvExp ++ List.replicate (d + 1) z29).set ((i : Int) : Int).toNat (cvExp (rd_T24 l (i : Int)))) = (l.take (i + 1)).map cvExp ++ List.replicate d z29 := by
          have hg : rd_T24 l (i : Int) = l[i]'(by omega) := by
            simp [rd_T24, List.getElem?_eq_getElem (show i < l.length by omega)]
          rw [hg, Int.toNat_natCast, List.take_add_one, List.getElem?_eq_getElem (show i < l.length by omega)]
          rw [List.set_append_right _ _ (by simp; omega)]
          have : i - ((l.take i).map cvExp).length = 0 := by simp; omega
          rw [this, List.replicate_succ, List.set_cons_zero]
          simp only [Option.toList_some, List.map_append, List.map_cons, List.map_nil, List.append_assoc, List.cons_append, List.nil_append]
        have h2 := ihd (i + 1) (by omega)
        rw [← e, cvExp_f] at h2
        exact h2
    have h0 := key l.length 0 (by omega)
    simpa using h0
theorem eqExp_ev {x : S24} (h : SzE x) : Ev (fun k => laws_eqExp.f k (cvExp x).f0 (cvExp x).f1 (cvExp x).f2 (cvExp x).f3 (cvExp x).f0 (cvExp x).f1 (cvExp x).f2 (cvExp x).f3) true := by
  induction h with
  | mk x h2 hl hy ih =>
    refine Ev.step (fun k => by rw [laws_eqExp.f]) ?_
    simp only [if_true]
    rw [cvExp_f]
    refine Ev.then (Ev.step (fun k => by rw [laws_eqExpS.f]) (r := true) ?_) (by simp only [if_true]; exact Ev.now _)
    simp only [if_true]
    generalize x.f3 = l at *
    have key : ∀ d i, i + d = l.length → Ev (fun k => laws_eqExpS.l0 k (l.map cvExp) (l.map cvExp) (i : Int)) true := by
      intro d
      induction d with
      | zero =>
        intro i hi
        refine Ev.step (fun k => by rw [laws_eqExpS.l0]) ?_
        have c : ¬ (i : Int) < ((l.map cvExp).length : Int) := by rw [List.length_map]; omega
        simp only [c, if_false]
        exact Ev.now _
      | succ d ihd =>
        intro i hi
        refine Ev.step (fun k => by rw [laws_eqExpS.l0]) ?_
        have c : (i : Int) < ((l.map cvExp).length : Int) := by rw [List.length_map]; omega
        have c0 : (0 : Int) ≤ (i : Int) := by omega
        have hw : wrap64 ((i : Int) + 1) = ((i + 1 : Nat) : Int) := wi (n := l.length) (by omega) (by simp only [maxLen]; omega)
        have hm : rd_T24 l (i : Int) ∈ l := getD_mem l _ (by omega)
        have hr : rd_T29 (l.map cvExp) (i : Int) = cvExp (rd_T24 l (i : Int)) := by
          unfold rd_T29 rd_T24
          simp [List.getElem?_eq_getElem (show i < l.length by omega)]
        simp only [c, c0, if_true, hw, hr]
        refine Ev.then (ih _ hm) ?_
        simp only [if_true]
        exact ihd (i + 1) (by omega)
    exact key l.length 0 (by omega)
/-- What may be met in a tree that was made of a sized one. -/
inductive OkE : S29 → Prop
  | mk (x : S29) (h2 : x.f2.size ≤ maxLen) (hl : x.f3.length ≤ maxLen) (hy : ∀ y ∈ x.f3, OkE y) : OkE x
theorem OkE.of {x : S24} (h : SzE x) : OkE (cvExp x) := by
  induction h with
  | mk x h2 hl hy ih =>
    rw [cvExp_f]
    refine OkE.mk _ h2 (by simp only [List.length_map, maxLen]; omega) fun y hy => ?_
    obtain ⟨z, hz, rfl⟩ := List.mem_map.1 hy
    exact ih z hz
theorem rdE_mem {l : List S29} {i : Nat} (hi : i < l.length) : rd_T29 l (i : Int) ∈ l := by
  unfold rd_T29
  rw [Int.toNat_natCast]
  exact getD_mem l _ hi
def partsE (k : Int) : Int := if k = 1 ∨ k = 2 then 0 else if k = 3 then 1 else if 4 ≤ k ∧ k ≤ 8 then 2 else -1
def hereE (x : S29) : Bool := decide (partsE x.f0 = (x.f3.length : Int)) && (decide (x.f0 = 1) || decide (x.f1 = 0)) &&
  (if x.f0 = 1 then decide (0 ≤ x.f1) && decide (x.f1 ≤ 999999) && (x.f2.toList == []) else if x.f0 = 2 ∨ x.f0 = 3 then nameS x.f2 else x.f2.toList == [])
theorem spec_parts_ev (n : Int) : Ev (fun k => spec_l3Parts.f k n) (partsE n) := by
  unfold spec_l3Parts.f partsE
  by_cases h1 : n = 1
  · subst h1
    simp only [if_true, beq_self_eq_true, true_or]
    refine Ev.step (fun k => by rw [spec_l3Parts.j0]) ?_
    simp only [if_true]
    exact Ev.now _
  by_cases h2 : n = 2
  · subst h2
    simp only [beq_self_eq_true, or_true, if_true, show ¬ (2 : Int) = 1 by omega, if_false]
    refine Ev.step (fun k => by rw [spec_l3Parts.j0]) ?_
    simp only [if_true]
    exact Ev.now _
  have b2 : (n == 2) = false := by simpa using h2
  simp only [h1, h2, or_self, if_false, b2]
  refine Ev.step (fun k => by rw [spec_l3Parts.j0]) ?_
  simp only [Bool.false_eq_true, if_false]
  by_cases h3 : n = 3
  · simp only [h3, if_true]
    exact Ev.now _
  simp only [h3, if_false]
  by_cases h4 : 4 ≤ n ∧ n ≤ 8
  · simp only [h4, and_self, if_true]
    have : n = 4 ∨ n = 5 ∨ n = 6 ∨ n = 7 ∨ n = 8 := by omega
    rcases this with rfl | rfl | rfl | rfl | rfl <;> exact Ev.now _
  · have n4 : ¬ n = 4 := by omega
    have n5 : ¬ n = 5 := by omega
    have n6 : ¬ n = 6 := by omega
    have n7 : ¬ n = 7 := by omega
    have n8 : ¬ n = 8 := by omega
    simp only [h4, n4, n5, n6, n7, n8, if_false]
    exact Ev.now _
theorem spec_here_ev (x : S29) (hs : x.f2.size ≤ maxLen) : Ev (fun k => spec_l3Here.f k x.f0 x.f1 x.f2 x.f3) (hereE x) := by
  unfold spec_l3Here.f hereE
  have bad : Ev (fun k => spec_l3Here.j0 k true x.f0 x.f1 x.f2 x.f3) false := by
    refine Ev.step (fun k => by rw [spec_l3Here.j0]) ?_
    simp only [if_true]
    exact Ev.now _
  refine Ev.then (spec_parts_ev x.f0) ?_
  by_cases e : partsE x.f0 = (x.f3.length : Int)
  · simp only [e, if_true, decide_true, Bool.true_and]
    by_cases h1 : x.f0 = 1
    · simp only [h1, if_true, decide_true, Bool.true_or, Bool.true_and]
      refine Ev.step (fun k => by rw [spec_l3Here.j0]) ?_
      simp only [Bool.false_eq_true, if_false, if_true, spec_l1In_eq, Option.bind_some]
      cases hb : (decide ((0 : Int) ≤ x.f1) && decide (x.f1 ≤ 999999)) with
      | false =>
        simp only [Bool.false_eq_true, if_false, Bool.false_and]
        exact Ev.now _
      | true =>
        simp only [if_true, Bool.true_and]
        exact Ev.now _
    · simp only [h1, if_false, decide_false, Bool.false_or]
      by_cases h2 : x.f1 = 0
      · have b : (x.f1 != 0) = false := by simp [h2]
        simp only [b]
        refine Ev.step (fun k => by rw [spec_l3Here.j0]) ?_
        simp only [Bool.false_eq_true, if_false, h1, h2, decide_true, Bool.true_and]
        by_cases h3 : x.f0 = 2
        · simp only [h3, true_or, if_true]
          exact Ev.then (spec_NameOk_ev _ hs) (Ev.now _)
        by_cases h4 : x.f0 = 3
        · simp only [h4, or_true, if_true, show ¬ (3 : Int) = 2 by omega, if_false]
          exact Ev.then (spec_NameOk_ev _ hs) (Ev.now _)
        simp only [h3, h4, or_self, if_false]
        exact Ev.now _
      · have b : (x.f1 != 0) = true := by simp [h2]
        simp only [b, h2, decide_false, Bool.false_and]
        exact bad
  · simp only [e, if_false, decide_false, Bool.false_and]
    exact bad
theorem impl_parts_ev (x : S29) (hs : x.f2.size ≤ maxLen) : Ev (fun k => impl_Exp_partsOk.f k x.f0 x.f1 x.f2 x.f3) (hereE x) := by
  unfold impl_Exp_partsOk.f hereE partsE
  by_cases h1 : x.f0 = 1
  · simp only [h1, if_true, true_or, decide_true, Bool.true_or, Bool.and_true, impl_inRange_eq, Option.bind_some]
    have z : decide ((0 : Int) = (x.f3.length : Int)) = ((x.f3.length : Int) == 0) := by rw [Bool.eq_iff_iff, decide_eq_true_iff, beq_iff_eq]; exact eq_comm
    cases hb : (decide ((0 : Int) ≤ x.f1) && decide (x.f1 ≤ 999999)) with
    | false =>
      simp only [Bool.false_eq_true, if_false, Bool.false_and, Bool.and_false]
      exact Ev.now _
    | true =>
      simp only [if_true, Bool.true_and]
      by_cases h2 : x.f2.toList = []
      · simp only [h2, if_true, beq_self_eq_true, Bool.and_true, z]
        exact Ev.now _
      · have b : (x.f2.toList == []) = false := by simpa using h2
        simp only [h2, if_false, b, Bool.and_false]
        exact Ev.now _
  have z0 : decide ((0 : Int) = (x.f3.length : Int)) = ((x.f3.length : Int) == 0) := by rw [Bool.eq_iff_iff, decide_eq_true_iff, beq_iff_eq]; exact eq_comm
  have z1 : decide ((1 : Int) = (x.f3.length : Int)) = ((x.f3.length : Int) == 1) := by rw [Bool.eq_iff_iff, decide_eq_true_iff, beq_iff_eq]; exact eq_comm
  have z2 : decide ((2 : Int) = (x.f3.length : Int)) = ((x.f3.length : Int) == 2) := by rw [Bool.eq_iff_iff, decide_eq_true_iff, beq_iff_eq]; exact eq_comm
  by_cases h2 : x.f0 = 2
  · simp only [h2, show ¬ (2 : Int) = 1 by omega, if_true, if_false, or_true, true_or, decide_false, Bool.false_or]
    refine Ev.then (impl_NameOk_ev _ hs) ?_
    cases nameS x.f2 with
    | false =>
      simp only [Bool.false_eq_true, if_false, Bool.and_false]
      exact Ev.now _
    | true =>
      by_cases h3 : x.f1 = 0
      · simp only [h3, if_true, decide_true, Bool.and_true, z0]
        exact Ev.now _
      · simp only [h3, if_true, if_false, decide_false, Bool.and_false, Bool.false_and]
        exact Ev.now _
  by_cases h3 : x.f0 = 3
  · simp only [h3, show ¬ (3 : Int) = 1 by omega, show ¬ (3 : Int) = 2 by omega, or_self, if_true, if_false, or_true, decide_false, Bool.false_or]
    refine Ev.then (impl_NameOk_ev _ hs) ?_
    cases nameS x.f2 with
    | false =>
      simp only [Bool.false_eq_true, if_false, Bool.and_false]
      exact Ev.now _
    | true =>
      by_cases h4 : x.f1 = 0
      · simp only [h4, if_true, decide_true, Bool.and_true, z1]
        exact Ev.now _
      · simp only [h4, if_true, if_false, decide_false, Bool.and_false, Bool.false_and]
        exact Ev.now _
  simp only [h1, h2, h3, or_self, if_false, decide_false, Bool.false_or]
  unfold impl_isTwo.f
  simp only [impl_inRange_eq, Option.bind_some]
  by_cases h4 : 4 ≤ x.f0 ∧ x.f0 ≤ 8
  · simp only [h4, and_self, decide_true, Bool.and_true, if_true]
    by_cases h5 : x.f1 = 0
    · by_cases h6 : x.f2.toList = []
      · simp only [h5, h6, if_true, decide_true, Bool.and_true, beq_self_eq_true, z2]
        exact Ev.now _
      · have b : (x.f2.toList == []) = false := by simpa using h6
        simp only [h5, h6, if_true, if_false, b, Bool.and_false]
        exact Ev.now _
    · simp only [h5, if_false, decide_false, Bool.and_false, Bool.false_and]
      exact Ev.now _
  · have b : (decide ((4 : Int) ≤ x.f0) && decide (x.f0 ≤ 8)) = false := by
      rw [Bool.and_eq_false_iff]
      simp only [decide_eq_false_iff_not]
      omega
    have b2 : decide ((-1 : Int) = (x.f3.length : Int)) = false := by
      rw [decide_eq_false_iff_not]
      omega
    simp only [b, h4, if_false, Bool.false_eq_true, b2, Bool.false_and]
    exact Ev.now _
theorem here_two {x : S29} (h : hereE x = true) : x.f3.length ≤ 2 := by
  simp only [hereE, Bool.and_eq_true, decide_eq_true_eq] at h
  have := h.1.1
  unfold partsE at this
  split at this
  · omega
  · split at this
    · omega
    · split at this <;> omega
def cntL (g : S29 → Int) : List S29 → Int → Int
  | [], n => n
  | y :: ys, n => if n ≤ 60 then cntL g ys (n + g y) else n
/-- How many there are, as the reference counts: above 60 something is not right. -/
def cntE : Nat → S29 → Int
  | 0, _ => 100
  | r + 1, x => if hereE x = true then cntL (cntE r) x.f3 1 else 100
def mesL (g : S29 → Int) : List S29 → Int → Int
  | [], n => n
  | y :: ys, n => if g y < 0 then -1 else mesL g ys (n + g y)
/-- How many there are, as the program counts: -1 where something is not right. -/
def mesE : Nat → S29 → Int
  | 0, _ => -1
  | r + 1, x => if hereE x = true then mesL (mesE r) x.f3 1 else -1
theorem cntL_bd (g : S29 → Int) (B : Int) (hB : 0 ≤ B) : ∀ (l : List S29), (∀ y ∈ l, 1 ≤ g y ∧ g y ≤ B) → ∀ n, 1 ≤ n → 1 ≤ cntL g l n ∧ (cntL g l n ≤ n ∨ cntL g l n ≤ 60 + B)
  | [], _, n, hn => ⟨hn, .inl (Int.le_refl _)⟩
  | y :: ys, h, n, hn => by
    unfold cntL
    have h1 := h y List.mem_cons_self
    by_cases c : n ≤ 60
    · rw [if_pos c]
      have := cntL_bd g B hB ys (fun z hz => h z (List.mem_cons_of_mem _ hz)) (n + g y) (by omega)
      omega
    · rw [if_neg c]
      omega
theorem cntE_bd : ∀ (r : Nat) (x : S29), 1 ≤ cntE r x ∧ cntE r x ≤ 100 + 60 * r
  | 0, x => by simp [cntE]
  | r + 1, x => by
    unfold cntE
    split
    · have := cntL_bd (cntE r) (100 + 60 * r) (by omega) x.f3 (fun y _ => cntE_bd r y) 1 (by omega)
      omega
    · omega
def bnd : Nat → Int
  | 0 => 0
  | r + 1 => 1 + 2 * bnd r
theorem bnd_nn : ∀ r, 0 ≤ bnd r
  | 0 => by simp [bnd]
  | r + 1 => by
    have := bnd_nn r
    simp only [bnd]
    omega
theorem mesL_bd (g : S29 → Int) (B : Int) (hB : 0 ≤ B) : ∀ (l : List S29), (∀ y ∈ l, (g y = -1 ∨ 1 ≤ g y) ∧ g y ≤ B) → ∀ n, 1 ≤ n → (mesL g l n = -1 ∨ n ≤ mesL g l n) ∧ mesL g l n ≤ n + l.length * B
  | [], _, n, hn => ⟨.inr (Int.le_refl _), by simp [mesL]⟩
  | y :: ys, h, n, hn => by
    unfold mesL
    have h1 := h y List.mem_cons_self
    have hm : ((ys.length + 1 : Nat) : Int) * B = ys.length * B + B := by
      rw [Int.natCast_add, Int.add_mul]
      simp
    have hp : 0 ≤ (ys.length : Int) * B := Int.mul_nonneg (by omega) hB
    rw [List.length_cons, hm]
    by_cases c : g y < 0
    · rw [if_pos c]
      omega
    · rw [if_neg c]
      have := mesL_bd g B hB ys (fun z hz => h z (List.mem_cons_of_mem _ hz)) (n + g y) (by omega)
      omega
theorem mesE_bd : ∀ (r : Nat) (x : S29), (mesE r x = -1 ∨ 1 ≤ mesE r x) ∧ mesE r x ≤ bnd r
  | 0, x => by simp [mesE, bnd]
  | r + 1, x => by
    have hb := bnd_nn r
    unfold mesE
    split
    · rename_i hh
      have h2 := here_two hh
      have := mesL_bd (mesE r) (bnd r) hb x.f3 (fun y _ => mesE_bd r y) 1 (by omega)
      have hm : (x.f3.length : Int) * bnd r ≤ 2 * bnd r := Int.mul_le_mul_of_nonneg_right (by omega) hb
      generalize (x.f3.length : Int) * bnd r = q at *
      simp only [bnd]
      omega
    · simp only [bnd]
      exact ⟨.inl trivial, by omega⟩
theorem cntL_big (g : S29 → Int) : ∀ (l : List S29) (n : Int), 60 < n → cntL g l n = n
  | [], n, _ => rfl
  | y :: ys, n, h => by
    unfold cntL
    rw [if_neg (by omega)]
theorem mesL_big (g : S29 → Int) : ∀ (l : List S29), (∀ y ∈ l, g y = -1 ∨ 1 ≤ g y) → ∀ n, 60 < n → mesL g l n = -1 ∨ 60 < mesL g l n
  | [], _, n, h => .inr h
  | y :: ys, hg, n, h => by
    unfold mesL
    have h1 := hg y List.mem_cons_self
    by_cases c : g y < 0
    · rw [if_pos c]
      exact .inl rfl
    · rw [if_neg c]
      exact mesL_big g ys (fun z hz => hg z (List.mem_cons_of_mem _ hz)) _ (by omega)
/-- What the two counts of a tree have to do with each other. -/
def RelC (c m : Int) : Prop := (m = -1 ∧ 60 < c) ∨ (1 ≤ m ∧ (c = m ∨ 60 < m ∧ 60 < c))
theorem relL (g g' : S29 → Int) : ∀ (l : List S29), (∀ y ∈ l, RelC (g y) (g' y)) → ∀ n, 1 ≤ n → RelC (cntL g l n) (mesL g' l n)
  | [], _, n, hn => .inr ⟨hn, .inl rfl⟩
  | y :: ys, h, n, hn => by
    have h1 := h y List.mem_cons_self
    have hys : ∀ z ∈ ys, RelC (g z) (g' z) := fun z hz => h z (List.mem_cons_of_mem _ hz)
    have hg : ∀ z ∈ ys, g' z = -1 ∨ 1 ≤ g' z := fun z hz => by
      rcases hys z hz with k | k
      · exact .inl k.1
      · exact .inr k.1
    by_cases c : n ≤ 60
    · unfold cntL mesL
      rw [if_pos c]
      rcases h1 with ⟨h2, h3⟩ | ⟨h2, h3⟩
      · rw [if_pos (by omega), cntL_big g ys _ (by omega)]
        exact .inl ⟨rfl, by omega⟩
      · rw [if_neg (by omega)]
        rcases h3 with h3 | h3
        · rw [h3]
          exact relL g g' ys hys _ (by omega)
        · rw [cntL_big g ys _ (by omega)]
          rcases mesL_big g' ys hg (n + g' y) (by omega) with k | k
          · exact .inl ⟨k, by omega⟩
          · exact .inr ⟨by omega, .inr ⟨k, by omega⟩⟩
    · rw [cntL_big g _ _ (by omega)]
      have hg' : ∀ z ∈ y :: ys, g' z = -1 ∨ 1 ≤ g' z := fun z hz => by
        rcases h z hz with k | k
        · exact .inl k.1
        · exact .inr k.1
      rcases mesL_big g' (y :: ys) hg' n (by omega) with k | k
      · exact .inl ⟨k, by omega⟩
      · exact .inr ⟨by omega, .inr ⟨k, by omega⟩⟩
theorem relE : ∀ (r : Nat) (x : S29), RelC (cntE r x) (mesE r x)
  | 0, x => .inl ⟨rfl, by simp [cntE]⟩
  | r + 1, x => by
    unfold cntE mesE
    by_cases hh : hereE x = true
    · rw [if_pos hh, if_pos hh]
      exact relL _ _ x.f3 (fun y _ => relE r y) 1 (by omega)
    · rw [if_neg hh, if_neg hh]
      exact .inl ⟨rfl, by omega⟩
theorem count_ev : ∀ (r : Nat) (x : S29), OkE x → ∀ d : Int, d + r = 9 → 1 ≤ d → Ev (fun k => spec_l3Count.f k x.f0 x.f1 x.f2 x.f3 d) (cntE r x)
  | 0, x, hx, d, hd, _ => by
    have c : d > 8 := by omega
    refine Ev.step (fun k => by rw [spec_l3Count.f]) ?_
    simp only [c, if_true]
    refine Ev.step (fun k => by rw [spec_l3Count.j0]) ?_
    simp only [if_true]
    exact Ev.now _
  | r + 1, x, hx, d, hd, hd1 => by
    obtain ⟨_, h2, _, hy⟩ := hx
    have cd : ¬ d > 8 := by omega
    have hw : wrap64 (d + 1) = d + 1 := w64 (by omega) (by omega)
    have e1 := spec_here_ev x h2
    unfold cntE
    refine Ev.step (fun k => by rw [spec_l3Count.f]) ?_
    simp only [cd, if_false]
    refine Ev.then e1 (Ev.step (fun k => by rw [spec_l3Count.j0]) ?_)
    cases hh : hereE x with
    | false =>
      simp only [Bool.not_false, if_true, Bool.false_eq_true, if_false]
      exact Ev.now _
    | true =>
      simp only [Bool.not_true, Bool.false_eq_true, if_false, if_true]
      have l2 := here_two hh
      have key : ∀ (q i : Nat), i + q = x.f3.length → ∀ n : Int, 1 ≤ n → n ≤ 10000 → Ev (fun k => spec_l3Count.l0 k d n (i : Int) x.f0 x.f1 x.f2 x.f3) (cntL (cntE r) (x.f3.drop i) n) := by
        intro q
        induction q with
        | zero =>
          intro i hi n hn hn2
          have c : ¬ (i : Int) < (x.f3.length : Int) := by omega
          refine Ev.step (fun k => by rw [spec_l3Count.l0]) ?_
          simp only [c, if_false]
          rw [List.drop_eq_nil_of_le (by omega)]
          exact Ev.now _
        | succ q ihq =>
          intro i hi n hn hn2
          have c : (i : Int) < (x.f3.length : Int) := by omega
          have c0 : (0 : Int) ≤ (i : Int) := by omega
          have hwi : wrap64 ((i : Int) + 1) = ((i + 1 : Nat) : Int) := wi (n := x.f3.length) (by omega) (by simp only [maxLen]; omega)
          have hdr : x.f3.drop i = rd_T29 x.f3 (i : Int) :: x.f3.drop (i + 1) := drop_cons x.f3 _ (by omega)
          refine Ev.step (fun k => by rw [spec_l3Count.l0]) ?_
          rw [hdr]
          unfold cntL
          by_cases c6 : n ≤ 60
          · have bd := cntE_bd r (rd_T29 x.f3 (i : Int))
            have hwn : wrap64 (n + cntE r (rd_T29 x.f3 (i : Int))) = n + cntE r (rd_T29 x.f3 (i : Int)) := w64 (by omega) (by omega)
            simp only [c, c0, c6, if_true, hw]
            refine Ev.then (count_ev r _ (hy _ (rdE_mem (by omega))) (d + 1) (by omega) (by omega)) ?_
            simp only [hwn, hwi]
            exact ihq (i + 1) (by omega) _ (by omega) (by omega)
          · simp only [c, c6, if_true, if_false]
            exact Ev.now _
      simpa using key x.f3.length 0 (by omega) 1 (by omega) (by omega)
theorem measure_ev : ∀ (r : Nat) (x : S29), OkE x → ∀ d : Int, d + r = 9 → 1 ≤ d → Ev (fun k => impl_Exp_measure.f k x.f0 x.f1 x.f2 x.f3 d) (mesE r x)
  | 0, x, hx, d, hd, _ => by
    have c : d > 8 := by omega
    refine Ev.step (fun k => by rw [impl_Exp_measure.f]) ?_
    simp only [c, if_true]
    refine Ev.step (fun k => by rw [impl_Exp_measure.j0]) ?_
    simp only [if_true]
    exact Ev.now _
  | r + 1, x, hx, d, hd, hd1 => by
    obtain ⟨_, h2, _, hy⟩ := hx
    have cd : ¬ d > 8 := by omega
    have hw : wrap64 (d + 1) = d + 1 := w64 (by omega) (by omega)
    have e1 := impl_parts_ev x h2
    have hr : r ≤ 8 := by omega
    have b8 : bnd r ≤ 255 := by
      have : r = 0 ∨ r = 1 ∨ r = 2 ∨ r = 3 ∨ r = 4 ∨ r = 5 ∨ r = 6 ∨ r = 7 ∨ r = 8 := by omega
      rcases this with rfl | rfl | rfl | rfl | rfl | rfl | rfl | rfl | rfl <;> decide
    unfold mesE
    refine Ev.step (fun k => by rw [impl_Exp_measure.f]) ?_
    simp only [cd, if_false]
    refine Ev.then e1 (Ev.step (fun k => by rw [impl_Exp_measure.j0]) ?_)
    cases hh : hereE x with
    | false =>
      simp only [Bool.not_false, if_true, Bool.false_eq_true, if_false]
      exact Ev.now _
    | true =>
      simp only [Bool.not_true, Bool.false_eq_true, if_false, if_true]
      have l2 := here_two hh
      have key : ∀ (q i : Nat), i + q = x.f3.length → ∀ n : Int, 1 ≤ n → n + q * 255 ≤ 10000 → Ev (fun k => impl_Exp_measure.l0 k d n x.f3 (x.f3.length : Int) (i : Int)) (mesL (mesE r) (x.f3.drop i) n) := by
        intro q
        induction q with
        | zero =>
          intro i hi n hn hn2
          have c : ¬ (i : Int) < (x.f3.length : Int) := by omega
          refine Ev.step (fun k => by rw [impl_Exp_measure.l0]) ?_
          simp only [c, if_false]
          rw [List.drop_eq_nil_of_le (by omega)]
          exact Ev.now _
        | succ q ihq =>
          intro i hi n hn hn2
          have c : (i : Int) < (x.f3.length : Int) := by omega
          have c0 : (0 : Int) ≤ (i : Int) := by omega
          have hwi : wrap64 ((i : Int) + 1) = ((i + 1 : Nat) : Int) := wi (n := x.f3.length) (by omega) (by simp only [maxLen]; omega)
          have hdr : x.f3.drop i = rd_T29 x.f3 (i : Int) :: x.f3.drop (i + 1) := drop_cons x.f3 _ (by omega)
          have bd := mesE_bd r (rd_T29 x.f3 (i : Int))
          refine Ev.step (fun k => by rw [impl_Exp_measure.l0]) ?_
          rw [hdr]
          unfold mesL
          simp only [c, c0, if_true, hw]
          refine Ev.then (measure_ev r _ (hy _ (rdE_mem (by omega))) (d + 1) (by omega) (by omega)) ?_
          by_cases c6 : mesE r (rd_T29 x.f3 (i : Int)) < 0
          · simp only [c6, if_true]
            exact Ev.now _
          · have hwn : wrap64 (n + mesE r (rd_T29 x.f3 (i : Int))) = n + mesE r (rd_T29 x.f3 (i : Int)) := w64 (by omega) (by omega)
            simp only [c6, if_false, hwn, hwi]
            exact ihq (i + 1) (by omega) _ (by omega) (by omega)
      simpa using key x.f3.length 0 (by omega) 1 (by omega) (by omega)
def expOkS (x : S29) : Bool := decide (cntE 8 x ≤ 60)
theorem spec_ExpOk_ev {x : S29} (hx : OkE x) : Ev (fun k => spec_ExpOk.f k x.f0 x.f1 x.f2 x.f3) (expOkS x) := by
  unfold spec_ExpOk.f
  exact Ev.then (count_ev 8 x hx 1 (by omega) (by omega)) (Ev.now _)
theorem impl_ExpOk_ev {x : S29} (hx : OkE x) : Ev (fun k => impl_ExpOk.f k x.f0 x.f1 x.f2 x.f3) (expOkS x) := by
  unfold impl_ExpOk.f
  refine Ev.then (measure_ev 8 x hx 1 (by omega) (by omega)) ?_
  simp only [impl_inRange_eq, Option.bind_some]
  have h := relE 8 x
  have e : (decide ((1 : Int) ≤ mesE 8 x) && decide (mesE 8 x ≤ 60)) = expOkS x := by
    unfold expOkS
    rw [Bool.eq_iff_iff]
    simp only [Bool.and_eq_true, decide_eq_true_eq]
    unfold RelC at h
    omega
  rw [e]
  exact Ev.now _
open Go.Lib
/-! ### numerals -/
def finN (n : Int) (l : List UInt8) : ByteArray := if n < 0 then ⟨(45 :: l).toArray⟩ else ⟨l.toArray⟩
theorem strOne (d : Nat) (l : List UInt8) (h : d < 10) : strOfNums [wrap64 (48 + (d : Int)) % 256] ++ (⟨l.toArray⟩ : ByteArray) = ⟨(UInt8.ofNat (48 + d) :: l).toArray⟩ := by
  have e : wrap64 (48 + (d : Int)) % 256 = ((48 + d : Nat) : Int) := by
    rw [w64 (by omega) (by omega)]
    omega
  rw [e]
  apply ByteArray.ext
  rw [ByteArray.data_append]
  simp only [strOfNums, List.map_cons, List.map_nil, Int.toNat_natCast]
  simp
theorem strOne_size (x : Int) : (strOfNums [x]).size = 1 := by simp [strOfNums, ByteArray.size]
theorem digits_step (m : Nat) (h : m ≠ 0) (l : List UInt8) : (if m / 10 = 0 then UInt8.ofNat (48 + m % 10) :: l else decDigits (m / 10) ++ UInt8.ofNat (48 + m % 10) :: l) = decDigits m ++ l := by
  by_cases c : m < 10
  · rw [if_pos (by omega), decDigits_one c, Nat.mod_eq_of_lt c]
    rfl
  · rw [if_neg (by omega), decDigits.eq_1 m, dif_neg c, List.append_assoc]
    rfl
theorem spec_NumText_l0 (n : Int) : ∀ (j : Nat) (x : Int) (l : List UInt8), x.natAbs < 10 ^ j → l.length + j ≤ 100 → -9223372036854775808 ≤ x → x ≤ 9223372036854775807 → Ev (fun k => spec_NumText.l0 k n (⟨l.toArray⟩ : ByteArray) x) (finN n (if x.natAbs = 0 then l else decDigits x.natAbs ++ l)) := by
  have zero : ∀ (l : List UInt8), l.length ≤ 100 → Ev (fun k => spec_NumText.l0 k n (⟨l.toArray⟩ : ByteArray) 0) (finN n l) := by
    intro l hl
    refine Ev.step (fun k => by rw [spec_NumText.l0]) ?_
    have hs : (⟨l.toArray⟩ : ByteArray).size = l.length := by simp [ByteArray.size]
    have c : 1 + (⟨l.toArray⟩ : ByteArray).size ≤ 9223372036854775807 := by omega
    unfold finN
    by_cases hn : n < 0
    · simp only [hn, c, if_true]
      have e : (⟨#[45]⟩ : ByteArray) ++ (⟨l.toArray⟩ : ByteArray) = ⟨(45 :: l).toArray⟩ := by
        apply ByteArray.ext
        rw [ByteArray.data_append]
        simp
      rw [e]
      exact Ev.now _
    · simp only [hn, if_true, if_false]
      exact Ev.now _
  intro j
  induction j with
  | zero =>
    intro x l hx hl h0 h1
    have e : x = 0 := by
      have : x.natAbs = 0 := by simpa using hx
      omega
    subst e
    exact zero l (by omega)
  | succ j ih =>
    intro x l hx hl h0 h1
    by_cases e : x = 0
    · subst e
      exact zero l (by omega)
    have hm : x.natAbs ≠ 0 := by omega
    have hsz : (⟨l.toArray⟩ : ByteArray).size = l.length := by simp [ByteArray.size]
    have ht : (Int.tdiv x 10).natAbs = x.natAbs / 10 := Int.natAbs_tdiv x 10
    have hr : (Int.tmod x 10).natAbs = x.natAbs % 10 := Int.natAbs_tmod x 10
    have hd : x.natAbs % 10 < 10 := Nat.mod_lt _ (by omega)
    have tb : -9223372036854775808 ≤ Int.tdiv x 10 ∧ Int.tdiv x 10 ≤ 9223372036854775807 := by omega
    have hw : wrap64 (Int.tdiv x 10) = Int.tdiv x 10 := w64 (by omega) (by omega)
    have next := ih (Int.tdiv x 10) (UInt8.ofNat (48 + x.natAbs % 10) :: l) (by
      rw [ht]
      rw [Nat.pow_succ] at hx
      exact Nat.div_lt_of_lt_mul (by omega)) (by simp; omega) tb.1 tb.2
    rw [ht, digits_step _ hm] at next
    rw [if_neg hm]
    refine Ev.step (fun k => by rw [spec_NumText.l0]) ?_
    by_cases c : Int.tmod x 10 < 0
    · have e1 : wrap64 (-(Int.tmod x 10)) = ((x.natAbs % 10 : Nat) : Int) := by
        rw [w64 (by omega) (by omega), ← hr]
        omega
      have c2 : (strOfNums [wrap64 (48 + ((x.natAbs % 10 : Nat) : Int)) % 256]).size + (⟨l.toArray⟩ : ByteArray).size ≤ 9223372036854775807 := by
        rw [strOne_size]
        omega
      simp only [e, c, if_true, if_false, Option.bind_some, e1, c2, hw, strOne _ l hd]
      exact next
    · have e1 : Int.tmod x 10 = ((x.natAbs % 10 : Nat) : Int) := by
        rw [← hr]
        omega
      have c2 : (strOfNums [wrap64 (48 + ((x.natAbs % 10 : Nat) : Int)) % 256]).size + (⟨l.toArray⟩ : ByteArray).size ≤ 9223372036854775807 := by
        rw [strOne_size]
        omega
      rw [e1] at c
      simp only [e, if_false, Option.bind_some, e1, c, c2, if_true, hw, strOne _ l hd]
      exact next
def numS (n : Int) : ByteArray := ⟨(itoa n).toArray⟩
theorem spec_NumText_ev (n : Int) (h0 : -9223372036854775808 ≤ n) (h1 : n ≤ 9223372036854775807) : Ev (fun k => spec_NumText.f k n) (numS n) := by
  unfold spec_NumText.f
  by_cases e : n = 0
  · subst e
    simp only [if_true]
    have : numS 0 = (⟨#[48]⟩ : ByteArray) := by
      unfold numS itoa
      rw [if_neg (by omega)]
      have : decDigits (0 : Int).toNat = [48] := by
        rw [show (0 : Int).toNat = 0 from rfl, decDigits_one (by omega)]
        rfl
      rw [this]
    rw [this]
    exact Ev.now _
  · simp only [e, if_false]
    have := spec_NumText_l0 n 19 n [] (by
      have : (10 : Nat) ^ 19 = 10000000000000000000 := by decide
      omega) (by simp) h0 h1
    rw [if_neg (by omega), List.append_nil] at this
    have e2 : finN n (decDigits n.natAbs) = numS n := by
      unfold finN numS itoa
      by_cases c : n < 0
      · rw [if_pos c, if_pos c]
      · rw [if_neg c, if_neg c, show n.natAbs = n.toNat by omega]
    rw [e2] at this
    exact this
theorem impl_NumText_eq (n : Int) (h0 : -9223372036854775808 ≤ n) (h1 : n ≤ 9223372036854775807) : impl_NumText.f n = some (numS n) := by
  unfold impl_NumText.f strconv_Itoa_27.f
  simp only [h0, h1, if_true, Option.bind_some]
  rfl
theorem nDigits_le : ∀ (k u : Nat), 1 ≤ k → u < 10 ^ k → nDigits u ≤ k
  | 0, _, h, _ => by omega
  | k + 1, u, _, h => by
    by_cases c : u < 10
    · rw [nDigits_small c]
      omega
    · rw [nDigits_big c]
      by_cases hk : k = 0
      · subst hk
        simp at h
        omega
      · have := nDigits_le k (u / 10) (by omega) (by rw [Nat.pow_succ] at h; omega)
        omega
theorem len_size (s : ByteArray) : s.toList.length = s.size := by
  rw [Lem.toList_data]
  rfl
theorem toList_mk (l : List UInt8) : (⟨l.toArray⟩ : ByteArray).toList = l := by rw [Lem.toList_data]
theorem num_size (n : Int) (h0 : -9223372036854775808 ≤ n) (h1 : n ≤ 9223372036854775807) : (numS n).size ≤ 21 := by
  have p : (10 : Nat) ^ 19 = 10000000000000000000 := by decide
  rw [← len_size]
  unfold numS itoa
  rw [toList_mk]
  have d : ∀ m : Nat, m ≤ 9223372036854775808 → (decDigits m).length ≤ 19 := fun m hm => by
    rw [decDigits_length]
    exact nDigits_le 19 m (by omega) (by omega)
  split
  · have := d n.natAbs (by omega)
    simp only [List.length_cons]
    omega
  · have := d n.toNat (by omega)
    omega
/-! ### sums as text -/
theorem cntL_each (g : S29 → Int) : ∀ (l : List S29), (∀ y ∈ l, 1 ≤ g y) → ∀ n, 1 ≤ n → cntL g l n ≤ 60 → ∀ y ∈ l, g y ≤ 60
  | [], _, _, _, _, y, hy => by simp at hy
  | z :: zs, hg, n, hn, h, y, hy => by
    have hz := hg z List.mem_cons_self
    unfold cntL at h
    by_cases c : n ≤ 60
    · rw [if_pos c] at h
      by_cases c2 : 60 < n + g z
      · rw [cntL_big g zs _ c2] at h
        omega
      · rcases List.mem_cons.1 hy with rfl | hy
        · omega
        · exact cntL_each g zs (fun q hq => hg q (List.mem_cons_of_mem _ hq)) _ (by omega) h y hy
    · rw [if_neg c] at h
      omega
/-- A tree that is right as far as so many levels go. -/
def RtE : Nat → S29 → Prop
  | 0, _ => False
  | r + 1, x => hereE x = true ∧ ∀ y ∈ x.f3, RtE r y
theorem RtE.of : ∀ (r : Nat) (x : S29), cntE r x ≤ 60 → RtE r x
  | 0, x, h => by simp [cntE] at h
  | r + 1, x, h => by
    unfold cntE at h
    by_cases hh : hereE x = true
    · rw [if_pos hh] at h
      exact ⟨hh, fun y hy => RtE.of r y (cntL_each (cntE r) x.f3 (fun z _ => (cntE_bd r z).1) 1 (by omega) h y hy)⟩
    · rw [if_neg hh] at h
      omega
def wrp (c : Bool) (t : ByteArray) : ByteArray := if c = true then (((⟨#[40]⟩ : ByteArray) ++ t) ++ (⟨#[41]⟩ : ByteArray)) else t
def isS (y : S29) : Bool := decide (y.f0 = 4) || decide (y.f0 = 5)
def txE : Nat → S29 → ByteArray
  | 0, _ => ⟨#[]⟩
  | r + 1, x => if x.f0 = 1 then numS x.f1 else if x.f0 = 2 then x.f2 else if x.f0 = 3 then (((x.f2 ++ (⟨#[91]⟩ : ByteArray)) ++ txE r (rd_T29 x.f3 0)) ++ (⟨#[93]⟩ : ByteArray)) else
    if x.f0 = 4 then ((txE r (rd_T29 x.f3 0) ++ (⟨#[32, 43, 32]⟩ : ByteArray)) ++ wrp (isS (rd_T29 x.f3 1)) (txE r (rd_T29 x.f3 1))) else
    if x.f0 = 5 then ((txE r (rd_T29 x.f3 0) ++ (⟨#[32, 45, 32]⟩ : ByteArray)) ++ wrp (isS (rd_T29 x.f3 1)) (txE r (rd_T29 x.f3 1))) else
    if x.f0 = 6 then ((wrp (isS (rd_T29 x.f3 0)) (txE r (rd_T29 x.f3 0)) ++ (⟨#[32, 42, 32]⟩ : ByteArray)) ++ wrp (isS (rd_T29 x.f3 1) || ((rd_T29 x.f3 1).f0 == 6)) (txE r (rd_T29 x.f3 1))) else
    if x.f0 = 7 then (((((⟨#[109, 105, 110, 40]⟩ : ByteArray) ++ txE r (rd_T29 x.f3 0)) ++ (⟨#[44, 32]⟩ : ByteArray)) ++ txE r (rd_T29 x.f3 1)) ++ (⟨#[41]⟩ : ByteArray)) else
    (((((⟨#[109, 97, 120, 40]⟩ : ByteArray) ++ txE r (rd_T29 x.f3 0)) ++ (⟨#[44, 32]⟩ : ByteArray)) ++ txE r (rd_T29 x.f3 1)) ++ (⟨#[41]⟩ : ByteArray))
theorem sizA (a b : ByteArray) : (a ++ b).size = a.size + b.size := ByteArray.size_append
theorem wrp_size (c : Bool) (t : ByteArray) : (wrp c t).size ≤ t.size + 2 := by
  unfold wrp
  split
  · rw [sizA, sizA]
    have : (⟨#[40]⟩ : ByteArray).size = 1 := rfl
    have : (⟨#[41]⟩ : ByteArray).size = 1 := rfl
    omega
  · omega
def bdT : Nat → Nat
  | 0 => 0
  | r + 1 => 100 + 2 * bdT r
theorem bdT_le {r : Nat} (h : r ≤ 8) : bdT r ≤ 40000000000000000 := by
  have : r = 0 ∨ r = 1 ∨ r = 2 ∨ r = 3 ∨ r = 4 ∨ r = 5 ∨ r = 6 ∨ r = 7 ∨ r = 8 := by omega
  rcases this with rfl | rfl | rfl | rfl | rfl | rfl | rfl | rfl | rfl <;> decide
theorem nameS_run (s : ByteArray) : ∀ (d i : Nat), runL (fun i (_ : Unit) => if letS s i then .inr () else .inl false) (fun _ => decide (1 ≤ s.size) && decide (s.size ≤ 6) && !keptS s) d i () = true → s.size ≤ 6
  | 0, i, h => by
    simp only [runL, Bool.and_eq_true, decide_eq_true_eq] at h
    omega
  | d + 1, i, h => by
    unfold runL at h
    by_cases c : letS s i = true
    · simp only [c, if_true] at h
      exact nameS_run s d (i + 1) h
    · simp only [c, if_false, Bool.false_eq_true] at h
theorem nameS_size {s : ByteArray} (h : nameS s = true) : s.size ≤ 6 := nameS_run s s.size 0 h
/-- What is known of a right tree's top. -/
theorem here_inv {x : S29} (h : hereE x = true) : (x.f0 = 1 ∧ 0 ≤ x.f1 ∧ x.f1 ≤ 999999) ∨ (x.f0 = 2 ∧ x.f2.size ≤ 6) ∨ (x.f0 = 3 ∧ x.f3.length = 1 ∧ x.f2.size ≤ 6) ∨ (4 ≤ x.f0 ∧ x.f0 ≤ 8 ∧ x.f3.length = 2) := by
  simp only [hereE, Bool.and_eq_true, decide_eq_true_eq] at h
  obtain ⟨⟨h1, _⟩, h2⟩ := h
  unfold partsE at h1
  by_cases c1 : x.f0 = 1
  · rw [if_pos c1] at h2
    simp only [Bool.and_eq_true, decide_eq_true_eq] at h2
    exact .inl ⟨c1, h2.1.1, h2.1.2⟩
  rw [if_neg c1] at h2
  by_cases c2 : x.f0 = 2
  · rw [if_pos (.inl c2)] at h2
    exact .inr (.inl ⟨c2, nameS_size h2⟩)
  rw [if_neg (by omega)] at h1
  by_cases c3 : x.f0 = 3
  · rw [if_pos c3] at h1
    rw [if_pos (.inr c3)] at h2
    exact .inr (.inr (.inl ⟨c3, by omega, nameS_size h2⟩))
  rw [if_neg c3] at h1
  by_cases c4 : 4 ≤ x.f0 ∧ x.f0 ≤ 8
  · rw [if_pos c4] at h1
    exact .inr (.inr (.inr ⟨c4.1, c4.2, by omega⟩))
  · rw [if_neg c4] at h1
    omega
theorem rdE0 {x : S29} (h : 0 < x.f3.length) : rd_T29 x.f3 0 ∈ x.f3 := rdE_mem (i := 0) h
theorem rdE1 {x : S29} (h : 1 < x.f3.length) : rd_T29 x.f3 1 ∈ x.f3 := rdE_mem (i := 1) h
theorem txE_size : ∀ (r : Nat) (x : S29), OkE x → RtE r x → (txE r x).size ≤ bdT r
  | 0, _, _, h => h.elim
  | r + 1, x, ho, h => by
    obtain ⟨hh, hc⟩ := h
    obtain ⟨_, h2, _, hy⟩ := ho
    have ih : ∀ y ∈ x.f3, (txE r y).size ≤ bdT r := fun y m => txE_size r y (hy y m) (hc y m)
    have l1 : (⟨#[91]⟩ : ByteArray).size = 1 := rfl
    have l2 : (⟨#[93]⟩ : ByteArray).size = 1 := rfl
    have l3 : (⟨#[32, 43, 32]⟩ : ByteArray).size = 3 := rfl
    have l4 : (⟨#[32, 45, 32]⟩ : ByteArray).size = 3 := rfl
    have l5 : (⟨#[32, 42, 32]⟩ : ByteArray).size = 3 := rfl
    have l6 : (⟨#[109, 105, 110, 40]⟩ : ByteArray).size = 4 := rfl
    have l7 : (⟨#[109, 97, 120, 40]⟩ : ByteArray).size = 4 := rfl
    have l8 : (⟨#[44, 32]⟩ : ByteArray).size = 2 := rfl
    have l9 : (⟨#[41]⟩ : ByteArray).size = 1 := rfl
    simp only [bdT]
    unfold txE
    rcases here_inv hh with ⟨k, b0, b1⟩ | ⟨k, hn⟩ | ⟨k, hl, hn⟩ | ⟨k0, k1, hl⟩
    · rw [if_pos k]
      have := num_size x.f1 (by omega) (by omega)
      omega
    · rw [if_neg (by omega), if_pos k]
      omega
    · rw [if_neg (by omega), if_neg (by omega), if_pos k]
      have := ih _ (rdE0 (x := x) (by omega))
      rw [sizA, sizA, sizA]
      omega
    · rw [if_neg (by omega), if_neg (by omega), if_neg (by omega)]
      have s0 := ih _ (rdE0 (x := x) (by omega))
      have s1 := ih _ (rdE1 (x := x) (by omega))
      have w0 := wrp_size (isS (rd_T29 x.f3 0)) (txE r (rd_T29 x.f3 0))
      have w1 := wrp_size (isS (rd_T29 x.f3 1)) (txE r (rd_T29 x.f3 1))
      have w2 := wrp_size (isS (rd_T29 x.f3 1) || ((rd_T29 x.f3 1).f0 == 6)) (txE r (rd_T29 x.f3 1))
      repeat' split
      all_goals simp only [sizA]; omega
def lvS (y : S29) : Int := if y.f0 = 4 ∨ y.f0 = 5 then 1 else if y.f0 = 6 then 2 else 3
theorem spec_level_ev (y : S29) : Ev (fun k => spec_l6Level.f k y.f0 y.f1 y.f2 y.f3) (lvS y) := by
  unfold spec_l6Level.f lvS
  by_cases h4 : y.f0 = 4
  · simp only [h4, if_true, beq_self_eq_true, true_or]
    refine Ev.step (fun k => by rw [spec_l6Level.j0]) ?_
    simp only [if_true]
    exact Ev.now _
  by_cases h5 : y.f0 = 5
  · simp only [h5, show ¬ (5 : Int) = 4 by omega, if_false, beq_self_eq_true, or_true, if_true]
    refine Ev.step (fun k => by rw [spec_l6Level.j0]) ?_
    simp only [if_true]
    exact Ev.now _
  have b5 : (y.f0 == 5) = false := by simpa using h5
  simp only [h4, h5, if_false, b5, or_self]
  refine Ev.step (fun k => by rw [spec_l6Level.j0]) ?_
  simp only [Bool.false_eq_true, if_false]
  by_cases h6 : y.f0 = 6
  · simp only [h6, if_true]
    exact Ev.now _
  · simp only [h6, if_false]
    exact Ev.now _
theorem spec_at_ev (y : S29) (t : ByteArray) (lev : Int) (ht : Ev (fun k => spec_l6Exp.f k y.f0 y.f1 y.f2 y.f3) t) (hs : t.size ≤ 4611686018427387904) : Ev (fun k => spec_l6At.f k y.f0 y.f1 y.f2 y.f3 lev) (wrp (decide (lvS y < lev)) t) := by
  refine Ev.step (fun k => by rw [spec_l6At.f]) ?_
  refine Ev.then ht (Ev.then (spec_level_ev y) ?_)
  unfold wrp
  by_cases c : lvS y < lev
  · have c1 : 1 + t.size ≤ 9223372036854775807 := by omega
    have c2 : ((⟨#[40]⟩ : ByteArray) ++ t).size + 1 ≤ 9223372036854775807 := by
      rw [sizA]
      have : (⟨#[40]⟩ : ByteArray).size = 1 := rfl
      omega
    simp only [c, c1, c2, if_true, decide_true]
    exact Ev.now _
  · simp only [c, if_false, decide_false, Bool.false_eq_true]
    exact Ev.now _
theorem lv1 (y : S29) : decide (lvS y < 1) = false := by
  unfold lvS
  rw [decide_eq_false_iff_not]
  repeat' split
  all_goals omega
theorem lv2 (y : S29) : decide (lvS y < 2) = isS y := by
  unfold lvS isS
  by_cases h4 : y.f0 = 4
  · simp [h4]
  by_cases h5 : y.f0 = 5
  · simp [h5]
  by_cases h6 : y.f0 = 6
  · simp [h6]
  · simp [h4, h5, h6]
theorem lv3 (y : S29) : decide (lvS y < 3) = (isS y || (y.f0 == 6)) := by
  unfold lvS isS
  by_cases h4 : y.f0 = 4
  · simp [h4]
  by_cases h5 : y.f0 = 5
  · simp [h5]
  by_cases h6 : y.f0 = 6
  · simp [h6]
  · simp [h4, h5, h6]
theorem wrp_f (t : ByteArray) : wrp false t = t := by simp [wrp]
theorem specText_ev : ∀ (r : Nat) (x : S29), r ≤ 8 → OkE x → RtE r x → Ev (fun k => spec_l6Exp.f k x.f0 x.f1 x.f2 x.f3) (txE r x)
  | 0, _, _, _, h => h.elim
  | r + 1, x, hr, ho, h => by
    obtain ⟨hh, hc⟩ := h
    obtain ⟨_, h2, _, hy⟩ := ho
    have hb := bdT_le (r := r) (by omega)
    have sz : ∀ y ∈ x.f3, (txE r y).size ≤ 40000000000000000 := fun y m => Nat.le_trans (txE_size r y (hy y m) (hc y m)) hb
    have ih : ∀ y ∈ x.f3, Ev (fun k => spec_l6Exp.f k y.f0 y.f1 y.f2 y.f3) (txE r y) := fun y m => specText_ev r y (by omega) (hy y m) (hc y m)
    have at_ : ∀ y ∈ x.f3, ∀ lev : Int, Ev (fun k => spec_l6At.f k y.f0 y.f1 y.f2 y.f3 lev) (wrp (decide (lvS y < lev)) (txE r y)) := fun y m lev => spec_at_ev y _ lev (ih y m) (by have := sz y m; omega)
    have l1 : (⟨#[91]⟩ : ByteArray).size = 1 := rfl
    have l3 : (⟨#[32, 43, 32]⟩ : ByteArray).size = 3 := rfl
    have l4 : (⟨#[32, 45, 32]⟩ : ByteArray).size = 3 := rfl
    have l5 : (⟨#[32, 42, 32]⟩ : ByteArray).size = 3 := rfl
    have l6 : (⟨#[109, 105, 110, 40]⟩ : ByteArray).size = 4 := rfl
    have l7 : (⟨#[109, 97, 120, 40]⟩ : ByteArray).size = 4 := rfl
    have l8 : (⟨#[44, 32]⟩ : ByteArray).size = 2 := rfl
    refine Ev.step (fun k => by rw [spec_l6Exp.f]) ?_
    unfold txE
    rcases here_inv hh with ⟨k, b0, b1⟩ | ⟨k, hn⟩ | ⟨k, hl, hn⟩ | ⟨k0, k1, hl⟩
    · simp only [k, if_true]
      exact Ev.then (spec_NumText_ev x.f1 (by omega) (by omega)) (Ev.now _)
    · simp only [k, show ¬ (2 : Int) = 1 by omega, if_true, if_false]
      exact Ev.now _
    · have m0 := rdE0 (x := x) (by omega)
      have s0 := sz _ m0
      have c0 : 0 < (x.f3.length : Int) := by omega
      have c1 : x.f2.size + 1 ≤ 9223372036854775807 := by omega
      have c2 : (x.f2 ++ (⟨#[91]⟩ : ByteArray)).size + (txE r (rd_T29 x.f3 0)).size ≤ 9223372036854775807 := by
        rw [sizA]
        omega
      have c3 : ((x.f2 ++ (⟨#[91]⟩ : ByteArray)) ++ txE r (rd_T29 x.f3 0)).size + 1 ≤ 9223372036854775807 := by
        rw [sizA, sizA]
        omega
      simp only [k, show ¬ (3 : Int) = 1 by omega, show ¬ (3 : Int) = 2 by omega, if_true, if_false, c0, c1]
      refine Ev.then (ih _ m0) ?_
      simp only [c2, c3, if_true]
      exact Ev.now _
    · have m0 := rdE0 (x := x) (by omega)
      have m1 := rdE1 (x := x) (by omega)
      have s0 := sz _ m0
      have s1 := sz _ m1
      have w0 := wrp_size (isS (rd_T29 x.f3 0)) (txE r (rd_T29 x.f3 0))
      have w1 := wrp_size (isS (rd_T29 x.f3 1)) (txE r (rd_T29 x.f3 1))
      have w2 := wrp_size (isS (rd_T29 x.f3 1) || ((rd_T29 x.f3 1).f0 == 6)) (txE r (rd_T29 x.f3 1))
      have c0 : 0 < (x.f3.length : Int) := by omega
      have c1 : 1 < (x.f3.length : Int) := by omega
      have n1 : ¬ x.f0 = 1 := by omega
      have n2 : ¬ x.f0 = 2 := by omega
      have n3 : ¬ x.f0 = 3 := by omega
      simp only [n1, n2, n3, if_false]
      by_cases k4 : x.f0 = 4
      · have d1 : (txE r (rd_T29 x.f3 0)).size + 3 ≤ 9223372036854775807 := by omega
        have d2 : (txE r (rd_T29 x.f3 0) ++ (⟨#[32, 43, 32]⟩ : ByteArray)).size + (wrp (isS (rd_T29 x.f3 1)) (txE r (rd_T29 x.f3 1))).size ≤ 9223372036854775807 := by
          rw [sizA]
          omega
        simp only [k4, if_true, c0]
        refine Ev.then (at_ _ m0 1) ?_
        simp only [lv1, wrp_f, d1, c1, if_true]
        refine Ev.then (at_ _ m1 2) ?_
        simp only [lv2, d2, if_true]
        exact Ev.now _
      by_cases k5 : x.f0 = 5
      · have d1 : (txE r (rd_T29 x.f3 0)).size + 3 ≤ 9223372036854775807 := by omega
        have d2 : (txE r (rd_T29 x.f3 0) ++ (⟨#[32, 45, 32]⟩ : ByteArray)).size + (wrp (isS (rd_T29 x.f3 1)) (txE r (rd_T29 x.f3 1))).size ≤ 9223372036854775807 := by
          rw [sizA]
          omega
        simp only [k5, show ¬ (5 : Int) = 4 by omega, if_true, if_false, c0]
        refine Ev.then (at_ _ m0 1) ?_
        simp only [lv1, wrp_f, d1, c1, if_true]
        refine Ev.then (at_ _ m1 2) ?_
        simp only [lv2, d2, if_true]
        exact Ev.now _
      by_cases k6 : x.f0 = 6
      · have d1 : (wrp (isS (rd_T29 x.f3 0)) (txE r (rd_T29 x.f3 0))).size + 3 ≤ 9223372036854775807 := by omega
        have d2 : (wrp (isS (rd_T29 x.f3 0)) (txE r (rd_T29 x.f3 0)) ++ (⟨#[32, 42, 32]⟩ : ByteArray)).size + (wrp (isS (rd_T29 x.f3 1) || ((rd_T29 x.f3 1).f0 == 6)) (txE r (rd_T29 x.f3 1))).size ≤ 9223372036854775807 := by
          rw [sizA]
          omega
        simp only [k6, show ¬ (6 : Int) = 4 by omega, show ¬ (6 : Int) = 5 by omega, if_true, if_false, c0]
        refine Ev.then (at_ _ m0 2) ?_
        simp only [lv2, d1, c1, if_true]
        refine Ev.then (at_ _ m1 3) ?_
        simp only [lv3, d2, if_true]
        exact Ev.now _
      by_cases k7 : x.f0 = 7
      · have d1 : 4 + (txE r (rd_T29 x.f3 0)).size ≤ 9223372036854775807 := by omega
        have d2 : ((⟨#[109, 105, 110, 40]⟩ : ByteArray) ++ txE r (rd_T29 x.f3 0)).size + 2 ≤ 9223372036854775807 := by
          rw [sizA]
          omega
        have d3 : (((⟨#[109, 105, 110, 40]⟩ : ByteArray) ++ txE r (rd_T29 x.f3 0)) ++ (⟨#[44, 32]⟩ : ByteArray)).size + (txE r (rd_T29 x.f3 1)).size ≤ 9223372036854775807 := by
          rw [sizA, sizA]
          omega
        have d4 : ((((⟨#[109, 105, 110, 40]⟩ : ByteArray) ++ txE r (rd_T29 x.f3 0)) ++ (⟨#[44, 32]⟩ : ByteArray)) ++ txE r (rd_T29 x.f3 1)).size + 1 ≤ 9223372036854775807 := by
          rw [sizA, sizA, sizA]
          omega
        simp only [k7, show ¬ (7 : Int) = 4 by omega, show ¬ (7 : Int) = 5 by omega, show ¬ (7 : Int) = 6 by omega, if_true, if_false, c0]
        refine Ev.then (ih _ m0) ?_
        simp only [d1, d2, c1, if_true]
        refine Ev.then (ih _ m1) ?_
        simp only [d3, d4, if_true]
        exact Ev.now _
      · have d1 : 4 + (txE r (rd_T29 x.f3 0)).size ≤ 9223372036854775807 := by omega
        have d2 : ((⟨#[109, 97, 120, 40]⟩ : ByteArray) ++ txE r (rd_T29 x.f3 0)).size + 2 ≤ 9223372036854775807 := by
          rw [sizA]
          omega
        have d3 : (((⟨#[109, 97, 120, 40]⟩ : ByteArray) ++ txE r (rd_T29 x.f3 0)) ++ (⟨#[44, 32]⟩ : ByteArray)).size + (txE r (rd_T29 x.f3 1)).size ≤ 9223372036854775807 := by
          rw [sizA, sizA]
          omega
        have d4 : ((((⟨#[109, 97, 120, 40]⟩ : ByteArray) ++ txE r (rd_T29 x.f3 0)) ++ (⟨#[44, 32]⟩ : ByteArray)) ++ txE r (rd_T29 x.f3 1)).size + 1 ≤ 9223372036854775807 := by
          rw [sizA, sizA, sizA]
          omega
        simp only [k4, k5, k6, k7, if_true, if_false, c0]
        refine Ev.then (ih _ m0) ?_
        simp only [d1, d2, c1, if_true]
        refine Ev.then (ih _ m1) ?_
        simp only [d3, d4, if_true]
        exact Ev.now _
theorem impl_isSum_eq (y : S29) : impl_isSum.f y.f0 y.f1 y.f2 y.f3 = some (isS y) := by
  unfold impl_isSum.f isS
  by_cases h4 : y.f0 = 4
  · simp [h4]
  · by_cases h5 : y.f0 = 5
    · simp [h5]
    · simp [h4, h5]
theorem impl_within_eq (t : ByteArray) (b : Bool) (hs : t.size ≤ 4611686018427387904) : impl_within.f t b = some (wrp b t) := by
  unfold impl_within.f wrp
  cases b with
  | false => simp
  | true =>
    have c1 : 1 + t.size ≤ 9223372036854775807 := by omega
    have c2 : ((⟨#[40]⟩ : ByteArray) ++ t).size + 1 ≤ 9223372036854775807 := by
      rw [sizA]
      have : (⟨#[40]⟩ : ByteArray).size = 1 := rfl
      omega
    simp only [c1, c2, if_true]
theorem implText_ev : ∀ (r : Nat) (x : S29), r ≤ 8 → OkE x → RtE r x → Ev (fun k => impl_expText.f k x.f0 x.f1 x.f2 x.f3) (txE r x)
  | 0, _, _, _, h => h.elim
  | r + 1, x, hr, ho, h => by
    obtain ⟨hh, hc⟩ := h
    obtain ⟨_, h2, _, hy⟩ := ho
    have hb := bdT_le (r := r) (by omega)
    have sz : ∀ y ∈ x.f3, (txE r y).size ≤ 40000000000000000 := fun y m => Nat.le_trans (txE_size r y (hy y m) (hc y m)) hb
    have ih : ∀ y ∈ x.f3, Ev (fun k => impl_expText.f k y.f0 y.f1 y.f2 y.f3) (txE r y) := fun y m => implText_ev r y (by omega) (hy y m) (hc y m)
    have l1 : (⟨#[91]⟩ : ByteArray).size = 1 := rfl
    have l3 : (⟨#[32, 43, 32]⟩ : ByteArray).size = 3 := rfl
    have l4 : (⟨#[32, 45, 32]⟩ : ByteArray).size = 3 := rfl
    have l5 : (⟨#[32, 42, 32]⟩ : ByteArray).size = 3 := rfl
    have l6 : (⟨#[109, 105, 110, 40]⟩ : ByteArray).size = 4 := rfl
    have l7 : (⟨#[109, 97, 120, 40]⟩ : ByteArray).size = 4 := rfl
    have l8 : (⟨#[44, 32]⟩ : ByteArray).size = 2 := rfl
    refine Ev.step (fun k => by rw [impl_expText.f]) ?_
    unfold txE
    rcases here_inv hh with ⟨k, b0, b1⟩ | ⟨k, hn⟩ | ⟨k, hl, hn⟩ | ⟨k0, k1, hl⟩
    · simp only [k, if_true, impl_NumText_eq x.f1 (show -9223372036854775808 ≤ x.f1 by omega) (show x.f1 ≤ 9223372036854775807 by omega), Option.bind_some]
      exact Ev.now _
    · simp only [k, show ¬ (2 : Int) = 1 by omega, if_true, if_false]
      exact Ev.now _
    · have m0 := rdE0 (x := x) (by omega)
      have s0 := sz _ m0
      have c0 : 0 < (x.f3.length : Int) := by omega
      have c1 : x.f2.size + 1 ≤ 9223372036854775807 := by omega
      have c2 : (x.f2 ++ (⟨#[91]⟩ : ByteArray)).size + (txE r (rd_T29 x.f3 0)).size ≤ 9223372036854775807 := by
        rw [sizA]
        omega
      have c3 : ((x.f2 ++ (⟨#[91]⟩ : ByteArray)) ++ txE r (rd_T29 x.f3 0)).size + 1 ≤ 9223372036854775807 := by
        rw [sizA, sizA]
        omega
      simp only [k, show ¬ (3 : Int) = 1 by omega, show ¬ (3 : Int) = 2 by omega, if_true, if_false, c0, c1]
      refine Ev.then (ih _ m0) ?_
      simp only [c2, c3, if_true]
      exact Ev.now _
    · have m0 := rdE0 (x := x) (by omega)
      have m1 := rdE1 (x := x) (by omega)
      have s0 := sz _ m0
      have s1 := sz _ m1
      have i0 := fun b => impl_within_eq (txE r (rd_T29 x.f3 0)) b (by omega)
      have i1 := fun b => impl_within_eq (txE r (rd_T29 x.f3 1)) b (by omega)
      have w0 := wrp_size (isS (rd_T29 x.f3 0)) (txE r (rd_T29 x.f3 0))
      have w1 := wrp_size (isS (rd_T29 x.f3 1)) (txE r (rd_T29 x.f3 1))
      have w2 := fun b => wrp_size b (txE r (rd_T29 x.f3 1))
      have c0 : 0 < (x.f3.length : Int) := by omega
      have c1 : 1 < (x.f3.length : Int) := by omega
      have n1 : ¬ x.f0 = 1 := by omega
      have n2 : ¬ x.f0 = 2 := by omega
      have n3 : ¬ x.f0 = 3 := by omega
      simp only [n1, n2, n3, if_false, c0, if_true]
      refine Ev.then (ih _ m0) ?_
      simp only [c1, if_true]
      refine Ev.then (ih _ m1) ?_
      by_cases k4 : x.f0 = 4
      · have d1 : (txE r (rd_T29 x.f3 0)).size + 3 ≤ 9223372036854775807 := by omega
        have d2 : (txE r (rd_T29 x.f3 0) ++ (⟨#[32, 43, 32]⟩ : ByteArray)).size + (wrp (isS (rd_T29 x.f3 1)) (txE r (rd_T29 x.f3 1))).size ≤ 9223372036854775807 := by
          rw [sizA]
          omega
        simp only [k4, if_true, d1, impl_isSum_eq, Option.bind_some, i1, d2]
        exact Ev.now _
      by_cases k5 : x.f0 = 5
      · have d1 : (txE r (rd_T29 x.f3 0)).size + 3 ≤ 9223372036854775807 := by omega
        have d2 : (txE r (rd_T29 x.f3 0) ++ (⟨#[32, 45, 32]⟩ : ByteArray)).size + (wrp (isS (rd_T29 x.f3 1)) (txE r (rd_T29 x.f3 1))).size ≤ 9223372036854775807 := by
          rw [sizA]
          omega
        simp only [k5, show ¬ (5 : Int) = 4 by omega, if_true, if_false, d1, impl_isSum_eq, Option.bind_some, i1, d2]
        exact Ev.now _
      by_cases k6 : x.f0 = 6
      · have d1 : (wrp (isS (rd_T29 x.f3 0)) (txE r (rd_T29 x.f3 0))).size + 3 ≤ 9223372036854775807 := by omega
        have d2 : ∀ b, (wrp (isS (rd_T29 x.f3 0)) (txE r (rd_T29 x.f3 0)) ++ (⟨#[32, 42, 32]⟩ : ByteArray)).size + (wrp b (txE r (rd_T29 x.f3 1))).size ≤ 9223372036854775807 := by
          intro b
          have := w2 b
          rw [sizA]
          omega
        simp only [k6, show ¬ (6 : Int) = 4 by omega, show ¬ (6 : Int) = 5 by omega, if_true, if_false, impl_isSum_eq, Option.bind_some, i0, d1]
        cases hb1 : isS (rd_T29 x.f3 1) with
        | true =>
          simp only [if_true, i1, Option.bind_some, d2, Bool.true_or]
          exact Ev.now _
        | false =>
          simp only [Bool.false_eq_true, if_false, i1, Option.bind_some, d2, if_true, Bool.false_or]
          exact Ev.now _
      by_cases k7 : x.f0 = 7
      · have d1 : 4 + (txE r (rd_T29 x.f3 0)).size ≤ 9223372036854775807 := by omega
        have d2 : ((⟨#[109, 105, 110, 40]⟩ : ByteArray) ++ txE r (rd_T29 x.f3 0)).size + 2 ≤ 9223372036854775807 := by
          rw [sizA]
          omega
        have d3 : (((⟨#[109, 105, 110, 40]⟩ : ByteArray) ++ txE r (rd_T29 x.f3 0)) ++ (⟨#[44, 32]⟩ : ByteArray)).size + (txE r (rd_T29 x.f3 1)).size ≤ 9223372036854775807 := by
          rw [sizA, sizA]
          omega
        have d4 : ((((⟨#[109, 105, 110, 40]⟩ : ByteArray) ++ txE r (rd_T29 x.f3 0)) ++ (⟨#[44, 32]⟩ : ByteArray)) ++ txE r (rd_T29 x.f3 1)).size + 1 ≤ 9223372036854775807 := by
          rw [sizA, sizA, sizA]
          omega
        simp only [k7, show ¬ (7 : Int) = 4 by omega, show ¬ (7 : Int) = 5 by omega, show ¬ (7 : Int) = 6 by omega, if_true, if_false, d1, d2, d3, d4]
        exact Ev.now _
      · have d1 : 4 + (txE r (rd_T29 x.f3 0)).size ≤ 9223372036854775807 := by omega
        have d2 : ((⟨#[109, 97, 120, 40]⟩ : ByteArray) ++ txE r (rd_T29 x.f3 0)).size + 2 ≤ 9223372036854775807 := by
          rw [sizA]
          omega
        have d3 : (((⟨#[109, 97, 120, 40]⟩ : ByteArray) ++ txE r (rd_T29 x.f3 0)) ++ (⟨#[44, 32]⟩ : ByteArray)).size + (txE r (rd_T29 x.f3 1)).size ≤ 9223372036854775807 := by
          rw [sizA, sizA]
          omega
        have d4 : ((((⟨#[109, 97, 120, 40]⟩ : ByteArray) ++ txE r (rd_T29 x.f3 0)) ++ (⟨#[44, 32]⟩ : ByteArray)) ++ txE r (rd_T29 x.f3 1)).size + 1 ≤ 9223372036854775807 := by
          rw [sizA, sizA, sizA]
          omega
        simp only [k4, k5, k6, k7, if_true, if_false, d1, d2, d3, d4]
        exact Ev.now _
def exTx (x : S29) : ByteArray := if expOkS x = true then txE 8 x else ⟨#[]⟩
theorem spec_ExpText_ev {x : S29} (hx : OkE x) : Ev (fun k => spec_ExpText.f k x.f0 x.f1 x.f2 x.f3) (exTx x) := by
  unfold spec_ExpText.f exTx
  refine Ev.then (spec_ExpOk_ev hx) ?_
  cases h : expOkS x with
  | false =>
    simp only [Bool.false_eq_true, if_false]
    exact Ev.now _
  | true =>
    simp only [if_true]
    exact Ev.then (specText_ev 8 x (by omega) hx (RtE.of 8 x (of_decide_eq_true h))) (Ev.now _)
theorem impl_ExpText_ev {x : S29} (hx : OkE x) : Ev (fun k => impl_ExpText.f k x.f0 x.f1 x.f2 x.f3) (exTx x) := by
  unfold impl_ExpText.f exTx
  refine Ev.then (impl_ExpOk_ev hx) ?_
  cases h : expOkS x with
  | false =>
    simp only [Bool.false_eq_true, if_false]
    exact Ev.now _
  | true =>
    simp only [if_true]
    exact Ev.then (implText_ev 8 x (by omega) hx (RtE.of 8 x (of_decide_eq_true h))) (Ev.now _)
theorem FnExactExpText (x : S24) (hx : GoodE x) : ∃ k, laws_FnExactExpText.f k x.f0 x.f1 x.f2 x.f3 = some true := by
  apply Ev.rounds
  unfold laws_FnExactExpText.f
  obtain ⟨t, h1, h2⟩ := szExp_ev hx 1048576 (by omega) (by omega)
  refine Ev.then h1 ?_
  by_cases e : t < 0
  · simp only [e, if_true]
    exact Ev.now _
  · simp only [e, if_false]
    have hs := (h2.resolve_left e).2.2
    have ta := toExp_ev hs
    have ho := OkE.of hs
    have ea := eqExp_ev hs
    have s1 := spec_ExpText_ev ho
    have s2 := impl_ExpText_ev ho
    rw [cvExp_f] at s1 s2 ea
    refine Ev.then ta (Ev.then s1 (Ev.then ta (Ev.then s2 ?_)))
    simp only [if_true]
    refine Ev.then ta (Ev.then ea ?_)
    simp only [if_true]
    exact Ev.now _

end Go.Proofs.YtmmdgciefehbcaaDoor.Pure
