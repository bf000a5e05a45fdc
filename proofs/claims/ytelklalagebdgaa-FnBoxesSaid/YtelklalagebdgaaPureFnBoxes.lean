/- The pure statement of FnBoxes: what the printed functions compute makes the law answer true. Conditions: those in the statement. -/
import Derived.Test.YtelklalagebdgaaLem
import Derived.Test.YtelklalagebdgaaPFnBoxesx0
import Derived.Test.YtelklalagebdgaaPFnBoxesx1
import Derived.Test.YtelklalagebdgaaPFnBoxesx2
import Derived.Test.YtelklalagebdgaaPFnBoxesx3
import Derived.Test.YtelklalagebdgaaPFnBoxesx4
import Derived.Test.YtelklalagebdgaaPFnBoxesx5
namespace Go.Proofs.Ytelklalagebdgaa.Pure
open Go.RowKit Go.Proofs.Ytelklalagebdgaa.PFnBoxes Go.Proofs.YtelklalagebdgaaW.PrintWords Go.Proofs.YtelklalagebdgaaW.PrintLast Go.Proofs.YtelklalagebdgaaW.PrintMore Go.Proofs.Ytelklalagebdgaa.Lem
set_option linter.unusedVariables false
set_option linter.unusedSimpArgs false

theorem impl_inRange_eq (a b c : Int) : impl_inRange.f a b c = some (decide (b ≤ a) && decide (a ≤ c)) := by
  unfold impl_inRange.f
  by_cases h : a ≥ b
  · have h' : b ≤ a := h
    simp [h']
  · have h' : ¬ b ≤ a := h
    simp [h']
theorem impl_isLetter_eq (a : Int) : impl_isLetter.f a = some (decide (97 ≤ a) && decide (a ≤ 122)) := by
  unfold impl_isLetter.f
  by_cases h : a ≥ 97
  · have h' : 97 ≤ a := h
    simp [h']
  · have h' : ¬ 97 ≤ a := h
    simp [h']
theorem impl_isKept_eq (s : ByteArray) : impl_isKept.f s = some (keptS s) := by
  unfold impl_isKept.f keptS keptL
  have hb : ∀ l : List UInt8, decide (s.toList = l) = (l == s.toList) := fun l => by
    by_cases h : s.toList = l
    · rw [decide_eq_true h, ← h, beq_self_eq_true]
    · rw [decide_eq_false h, beq_eq_false_iff_ne.mpr (fun e => h e.symm)]
  simp only [if_or, hb, List.any_cons, List.any_nil]
theorem impl_NameOk_ev (s : ByteArray) (hn : s.size ≤ maxLen) : Ev (fun k => impl_NameOk.f k s) (nameS s) := by
  unfold impl_NameOk.f nameS
  refine Ev.run (g := fun k i (_ : Unit) => impl_NameOk.l0 k s i) _ _ ?_ ?_ ()
  · intro i u hi
    have c : (i : Int) < (s.size : Int) := by omega
    have c0 : (0 : Int) ≤ (i : Int) := by omega
    have hw : wrap64 ((i : Int) + 1) = ((i + 1 : Nat) : Int) := wi hi hn
    have hl : impl_isLetter.f (bt s (i : Int)) = some (letS s i) := impl_isLetter_eq _
    cases e : letS s i with
    | true =>
      simp only [if_true]
      intro r hr
      refine Ev.step (fun k => by rw [impl_NameOk.l0]) ?_
      simp only [c, c0, if_true, hl, e, Option.bind_some, hw]
      exact hr
    | false =>
      simp only [Bool.false_eq_true, if_false]
      refine Ev.step (fun k => by rw [impl_NameOk.l0]) ?_
      simp only [c, c0, if_true, hl, e, Option.bind_some, Bool.false_eq_true, if_false]
      exact Ev.now _
  · intro u
    refine Ev.step (fun k => by rw [impl_NameOk.l0]) ?_
    have c : ¬ (s.size : Int) < (s.size : Int) := by omega
    simp only [c, if_false, impl_inRange_eq, Option.bind_some]
    have e1 : (decide ((1 : Int) ≤ (s.size : Int)) && decide ((s.size : Int) ≤ 6)) = (decide (1 ≤ s.size) && decide (s.size ≤ 6)) := by
      rw [Bool.eq_iff_iff]
      simp
      omega
    rw [e1]
    cases e : (decide (1 ≤ s.size) && decide (s.size ≤ 6)) with
    | true =>
      simp only [if_true, Bool.true_and, impl_isKept_eq, Option.bind_some]
      exact Ev.now _
    | false =>
      simp only [Bool.false_eq_true, if_false, Bool.false_and]
      exact Ev.now _

theorem impl_isCoef_eq (n : Int) : impl_isCoef.f n = some (coefOk n) := by
  unfold impl_isCoef.f
  rw [impl_inRange_eq]
  rfl
def prevT (l : List S73) (i : Nat) : Option ByteArray := if i = 0 then none else some (rd_T73 l ((i - 1 : Nat) : Int)).f0
theorem prevT_succ (l : List S73) (i : Nat) : prevT l (i + 1) = some (rd_T73 l (i : Int)).f0 := by
  unfold prevT
  rw [if_neg (by omega)]
  rfl
theorem impl_AffOk_ev (c : Int) (l : List S73) (hl : l.length ≤ maxLen) (hs : ∀ x ∈ l, x.f0.size ≤ maxLen) : Ev (fun k => impl_AffOk.f k c l) (affOkS S73.f0 S73.f1 c l) := by
  unfold impl_AffOk.f
  have key : ∀ d i, i + d = l.length → Ev (fun k => impl_AffOk.l0 k l (l.length : Int) (i : Int) c l) (affOkL S73.f0 S73.f1 (prevT l i) (l.drop i) && coefOk c) := by
    intro d
    induction d with
    | zero =>
      intro i hi
      refine Ev.step (fun k => by rw [impl_AffOk.l0]) ?_
      have c : ¬ (i : Int) < (l.length : Int) := by omega
      simp only [c, if_false]
      rw [List.drop_eq_nil_of_le (by omega)]
      simp only [impl_isCoef_eq, Option.bind_some, affOkL, Bool.true_and]
      exact Ev.now _
    | succ d ih =>
      intro i hi
      refine Ev.step (fun k => by rw [impl_AffOk.l0]) ?_
      have c : (i : Int) < (l.length : Int) := by omega
      have c0 : (0 : Int) ≤ (i : Int) := by omega
      have hw : wrap64 ((i : Int) + 1) = ((i + 1 : Nat) : Int) := wi (n := l.length) (by omega) hl
      have hd : l.drop i = rd_T73 l (i : Int) :: l.drop (i + 1) := drop_cons l _ (by omega)
      have hm : rd_T73 l (i : Int) ∈ l := getD_mem l _ (by omega)
      have ih' := ih (i + 1) (by omega)
      rw [prevT_succ] at ih'
      rw [hd]
      simp only [c, c0, if_true, hw, affOkL, impl_isCoef_eq, Option.bind_some]
      refine Ev.then (impl_NameOk_ev _ (hs _ hm)) ?_
      cases e1 : nameS (rd_T73 l (i : Int)).f0 with
      | false =>
        simp only [Bool.false_eq_true, if_false, Bool.false_and]
        exact Ev.now _
      | true =>
        by_cases e2 : (rd_T73 l (i : Int)).f1 = 0
        · simp only [e2, if_true, decide_true, Bool.not_true, Bool.false_and, Bool.and_false]
          exact Ev.now _
        · cases e3 : coefOk (rd_T73 l (i : Int)).f1 with
          | false =>
            simp only [e2, if_true, if_false, decide_false, Bool.not_false, Bool.and_false, Bool.false_and, Bool.false_eq_true]
            exact Ev.now _
          | true =>
            simp only [e2, if_true, if_false, decide_false, Bool.not_false, Bool.true_and]
            by_cases e4 : i = 0
            · subst e4
              have c4 : ¬ ((0 : Nat) : Int) > 0 := by omega
              simp only [c4, if_false, prevT, if_true, lessO, Bool.true_and]
              exact ih'
            · have c4 : (i : Int) > 0 := by omega
              have c5 : wrap64 ((i : Int) - 1) = ((i - 1 : Nat) : Int) := by
                simp only [maxLen] at hl
                rw [w64 (by omega) (by omega)]
                omega
              have c6 : (0 : Int) ≤ ((i - 1 : Nat) : Int) := by omega
              have c7 : ((i - 1 : Nat) : Int) < (l.length : Int) := by omega
              simp only [c4, c5, c6, c7, if_true, prevT, e4, if_false, lessO]
              cases e5 : Op.bytesLess (rd_T73 l ((i - 1 : Nat) : Int)).f0.toList (rd_T73 l (i : Int)).f0.toList with
              | false =>
                simp only [Bool.false_eq_true, if_false, Bool.false_and]
                exact Ev.now _
              | true =>
                simp only [if_true, Bool.true_and]
                exact ih'
  exact key l.length 0 (by omega)
theorem impl_rngAt_ev (l : List S33) (s : ByteArray) (hl : l.length ≤ maxLen) : Ev (fun k => impl_rngAt.f k l s) (idxL S33.f0 0 l s) := by
  unfold impl_rngAt.f
  have key : ∀ d i, i + d = l.length → Ev (fun k => impl_rngAt.l0 k l s (i : Int)) (idxL S33.f0 i (l.drop i) s) := by
    intro d
    induction d with
    | zero =>
      intro i hi
      refine Ev.step (fun k => by rw [impl_rngAt.l0]) ?_
      have c : ¬ (i : Int) < (l.length : Int) := by omega
      simp only [c, if_false]
      rw [List.drop_eq_nil_of_le (by omega)]
      exact Ev.now _
    | succ d ih =>
      intro i hi
      refine Ev.step (fun k => by rw [impl_rngAt.l0]) ?_
      have c : (i : Int) < (l.length : Int) := by omega
      have c0 : (0 : Int) ≤ (i : Int) := by omega
      have hw : wrap64 ((i : Int) + 1) = ((i + 1 : Nat) : Int) := wi (n := l.length) (by omega) hl
      have hd : l.drop i = rd_T33 l (i : Int) :: l.drop (i + 1) := drop_cons l _ (by omega)
      rw [hd]
      simp only [c, c0, if_true, hw, idxL]
      by_cases e : (rd_T33 l (i : Int)).f0.toList = s.toList
      · simp only [e, if_true]
        exact Ev.now _
      · simp only [e, if_false]
        exact ih (i + 1) (by omega)
  exact key l.length 0 (by omega)
theorem impl_BoxOk_ev (l : List S33) (hl : l.length ≤ maxLen) (hs : ∀ x ∈ l, x.f0.size ≤ maxLen) : Ev (fun k => impl_BoxOk.f k l) (boxOkS S33.f0 S33.f1 S33.f2 l) := by
  unfold impl_BoxOk.f boxOkS
  have key : ∀ d i, i + d = l.length → Ev (fun k => impl_BoxOk.l0 k l l (l.length : Int) (i : Int)) (boxOkL S33.f0 S33.f1 S33.f2 l i (l.drop i)) := by
    intro d
    induction d with
    | zero =>
      intro i hi
      refine Ev.step (fun k => by rw [impl_BoxOk.l0]) ?_
      have c : ¬ (i : Int) < (l.length : Int) := by omega
      simp only [c, if_false]
      rw [List.drop_eq_nil_of_le (by omega)]
      have e : decide ((l.length : Int) ≤ 8) = decide (l.length ≤ 8) := by
        rw [decide_eq_decide]
        omega
      simp only [e, boxOkL]
      exact Ev.now _
    | succ d ih =>
      intro i hi
      refine Ev.step (fun k => by rw [impl_BoxOk.l0]) ?_
      have c : (i : Int) < (l.length : Int) := by omega
      have c0 : (0 : Int) ≤ (i : Int) := by omega
      have hw : wrap64 ((i : Int) + 1) = ((i + 1 : Nat) : Int) := wi (n := l.length) (by omega) hl
      have hd : l.drop i = rd_T33 l (i : Int) :: l.drop (i + 1) := drop_cons l _ (by omega)
      have hm : rd_T33 l (i : Int) ∈ l := getD_mem l _ (by omega)
      rw [hd]
      simp only [c, c0, if_true, hw, boxOkL, impl_inRange_eq, Option.bind_some]
      refine Ev.then (impl_NameOk_ev _ (hs _ hm)) ?_
      cases e1 : nameS (rd_T33 l (i : Int)).f0 with
      | false =>
        simp only [Bool.false_eq_true, if_false, Bool.false_and]
        exact Ev.now _
      | true =>
        rw [show (decide ((-10000 : Int) ≤ (rd_T33 l (i : Int)).f1) && decide ((rd_T33 l (i : Int)).f1 ≤ 10000)) = bndOk (rd_T33 l (i : Int)).f1 from rfl]
        rw [show (decide ((-10000 : Int) ≤ (rd_T33 l (i : Int)).f2) && decide ((rd_T33 l (i : Int)).f2 ≤ 10000)) = bndOk (rd_T33 l (i : Int)).f2 from rfl]
        cases e2 : bndOk (rd_T33 l (i : Int)).f1 with
        | false =>
          simp only [Bool.false_eq_true, if_true, if_false, Bool.false_and, Bool.true_and]
          exact Ev.now _
        | true =>
          cases e3 : bndOk (rd_T33 l (i : Int)).f2 with
          | false =>
            simp only [Bool.false_eq_true, if_true, if_false, Bool.false_and, Bool.true_and]
            exact Ev.now _
          | true =>
            simp only [if_true, Bool.true_and]
            refine Ev.then (impl_rngAt_ev l _ hl) ?_
            by_cases e4 : idxL S33.f0 0 l (rd_T33 l (i : Int)).f0 = (i : Int)
            · simp only [e4, if_true, decide_true, Bool.true_and]
              exact ih (i + 1) (by omega)
            · simp only [e4, if_false, decide_false, Bool.false_and]
              exact Ev.now _
  exact key l.length 0 (by omega)
theorem impl_isRight_ev (l : List S33) (hl : l.length ≤ maxLen) (hs : ∀ x ∈ l, x.f0.size ≤ maxLen) : Ev (fun k => impl_isRight.f k l) (fullS S33.f0 S33.f1 S33.f2 l) := by
  unfold impl_isRight.f
  have key : ∀ d i, i + d = l.length → Ev (fun k => impl_isRight.l0 k l l (l.length : Int) (i : Int)) (((l.drop i).all fun r => decide (r.f1 ≤ r.f2)) && boxOkS S33.f0 S33.f1 S33.f2 l) := by
    intro d
    induction d with
    | zero =>
      intro i hi
      refine Ev.step (fun k => by rw [impl_isRight.l0]) ?_
      have c : ¬ (i : Int) < (l.length : Int) := by omega
      simp only [c, if_false]
      rw [List.drop_eq_nil_of_le (by omega)]
      simp only [List.all_nil, Bool.true_and]
      exact Ev.then (impl_BoxOk_ev l hl hs) (Ev.now _)
    | succ d ih =>
      intro i hi
      refine Ev.step (fun k => by rw [impl_isRight.l0]) ?_
      have c : (i : Int) < (l.length : Int) := by omega
      have c0 : (0 : Int) ≤ (i : Int) := by omega
      have hw : wrap64 ((i : Int) + 1) = ((i + 1 : Nat) : Int) := wi (n := l.length) (by omega) hl
      have hd : l.drop i = rd_T33 l (i : Int) :: l.drop (i + 1) := drop_cons l _ (by omega)
      rw [hd, List.all_cons]
      by_cases e : (rd_T33 l (i : Int)).f1 > (rd_T33 l (i : Int)).f2
      · have e' : ¬ (rd_T33 l (i : Int)).f1 ≤ (rd_T33 l (i : Int)).f2 := by omega
        simp only [c, c0, if_true, hw, e, e', decide_false, Bool.false_and]
        exact Ev.now _
      · have e' : (rd_T33 l (i : Int)).f1 ≤ (rd_T33 l (i : Int)).f2 := by omega
        simp only [c, c0, if_true, hw, e, e', if_false, decide_true, Bool.true_and]
        exact ih (i + 1) (by omega)
  exact key l.length 0 (by omega)
abbrev extT (c : Int) (l : List S73) (box : List S33) : Option (Int × Int) := extS S73.f0 S73.f1 S33.f0 S33.f1 S33.f2 c l box
theorem impl_extremes_ev (c : Int) (l : List S73) (box : List S33) (hl : l.length ≤ maxLen) (hs : ∀ x ∈ l, x.f0.size ≤ maxLen) (hb : box.length ≤ maxLen) (hbs : ∀ x ∈ box, x.f0.size ≤ maxLen) :
    Ev (fun k => impl_extremes.f k c l box) (ext3 (extT c l box)) := by
  unfold impl_extremes.f extT extS
  have bad : Ev (fun k => impl_extremes.j0 k box true c l) (ext3 none) := by
    refine Ev.step (fun k => by rw [impl_extremes.j0]) ?_
    simp only [if_true]
    exact Ev.now _
  refine Ev.then (impl_AffOk_ev c l hl hs) ?_
  cases e1 : affOkS S73.f0 S73.f1 c l with
  | false =>
    simp only [Bool.false_eq_true, if_false, Bool.false_and]
    exact bad
  | true =>
    simp only [if_true, Bool.true_and]
    refine Ev.then (impl_isRight_ev box hb hbs) ?_
    cases e2 : fullS S33.f0 S33.f1 S33.f2 box with
    | false =>
      simp only [Bool.false_eq_true, if_false, Bool.not_false]
      exact bad
    | true =>
      simp only [if_true, Bool.not_true]
      refine Ev.step (fun k => by rw [impl_extremes.j0]) ?_
      simp only [Bool.false_eq_true, if_false]
      have key : ∀ d i, i + d = l.length → ∀ x y, Ev (fun k => impl_extremes.l0 k box x y l (l.length : Int) (i : Int)) (ext3 (pairO (endL S73.f0 S33.f0 (lowT S73.f1 S33.f1 S33.f2) box (l.drop i) x) (endL S73.f0 S33.f0 (highT S73.f1 S33.f1 S33.f2) box (l.drop i) y))) := by
        intro d
        induction d with
        | zero =>
          intro i hi x y
          refine Ev.step (fun k => by rw [impl_extremes.l0]) ?_
          have c : ¬ (i : Int) < (l.length : Int) := by omega
          simp only [c, if_false]
          rw [List.drop_eq_nil_of_le (by omega)]
          exact Ev.now _
        | succ d ih =>
          intro i hi x y
          refine Ev.step (fun k => by rw [impl_extremes.l0]) ?_
          have c : (i : Int) < (l.length : Int) := by omega
          have c0 : (0 : Int) ≤ (i : Int) := by omega
          have hw : wrap64 ((i : Int) + 1) = ((i + 1 : Nat) : Int) := wi (n := l.length) (by omega) hl
          have hd : l.drop i = rd_T73 l (i : Int) :: l.drop (i + 1) := drop_cons l _ (by omega)
          rw [hd]
          simp only [c, c0, if_true, hw, endL]
          refine Ev.then (impl_rngAt_ev box _ hb) ?_
          rcases idx_find S33.f0 z33 box 0 (rd_T73 l (i : Int)).f0 with ⟨h1, h2⟩ | ⟨j, hj, h1, h2⟩
          · have c2 : (-1 : Int) < 0 := by omega
            simp only [h1, h2, c2, if_true]
            exact Ev.now _
          · have c2 : ¬ ((0 + j : Nat) : Int) < 0 := by omega
            have c3 : (0 : Int) ≤ ((0 + j : Nat) : Int) := by omega
            have c4 : ((0 + j : Nat) : Int) < (box.length : Int) := by omega
            have hr : rd_T33 box ((0 + j : Nat) : Int) = box.getD j z33 := by
              unfold rd_T33
              rw [Int.toNat_natCast, Nat.zero_add]
            simp only [h1, h2, c2, c3, c4, if_true, if_false, hr]
            exact ih (i + 1) (by omega) _ _
      exact key l.length 0 (by omega) c c
theorem impl_Least_ev (c : Int) (l : List S73) (box : List S33) (hl : l.length ≤ maxLen) (hs : ∀ x ∈ l, x.f0.size ≤ maxLen) (hb : box.length ≤ maxLen) (hbs : ∀ x ∈ box, x.f0.size ≤ maxLen) :
    Ev (fun k => impl_Least.f k c l box) (extA (extT c l box)) := by
  unfold impl_Least.f
  refine Ev.then (impl_extremes_ev c l box hl hs hb hbs) ?_
  rcases extT c l box with _ | ⟨a, b⟩ <;> exact Ev.now _
theorem impl_Most_ev (c : Int) (l : List S73) (box : List S33) (hl : l.length ≤ maxLen) (hs : ∀ x ∈ l, x.f0.size ≤ maxLen) (hb : box.length ≤ maxLen) (hbs : ∀ x ∈ box, x.f0.size ≤ maxLen) :
    Ev (fun k => impl_Most.f k c l box) (extB (extT c l box)) := by
  unfold impl_Most.f
  refine Ev.then (impl_extremes_ev c l box hl hs hb hbs) ?_
  rcases extT c l box with _ | ⟨a, b⟩ <;> exact Ev.now _
def inArrB (e : Option (Int × Int)) (size : Int) : Bool := match e with
  | some (a, b) => decide (0 ≤ a) && decide (b < size)
  | none => false
theorem impl_InArr_ev (c : Int) (l : List S73) (box : List S33) (n : Int) (hl : l.length ≤ maxLen) (hs : ∀ x ∈ l, x.f0.size ≤ maxLen) (hb : box.length ≤ maxLen) (hbs : ∀ x ∈ box, x.f0.size ≤ maxLen) :
    Ev (fun k => impl_InArr.f k c l box n) (inArrB (extT c l box) n) := by
  unfold impl_InArr.f
  refine Ev.then (impl_extremes_ev c l box hl hs hb hbs) ?_
  rcases extT c l box with _ | ⟨a, b⟩
  · simp only [ext3, Bool.false_eq_true, if_false]
    exact Ev.now _
  · simp only [ext3, if_true]
    exact Ev.const (fun k => if_and _)
theorem impl_Rounds_ev (l : List S33) (hl : l.length ≤ maxLen) (hs : ∀ x ∈ l, x.f0.size ≤ maxLen) : Ev (fun k => impl_Rounds.f k l) (rndS S33.f0 S33.f1 S33.f2 l) := by
  unfold impl_Rounds.f rndS
  refine Ev.then (impl_isRight_ev l hl hs) ?_
  cases e2 : fullS S33.f0 S33.f1 S33.f2 l with
  | false =>
    simp only [Bool.false_eq_true, if_false]
    exact Ev.now _
  | true =>
    simp only [if_true]
    have hfu := (fullS_mem S33.f0 S33.f1 S33.f2 e2).1
    have key : ∀ d i, i + d = l.length → ∀ x : Int, 1 ≤ x → x ≤ 1000000 → Ev (fun k => impl_Rounds.l0 k x l (l.length : Int) (i : Int)) (rndL S33.f1 S33.f2 (l.drop i) x) := by
      intro d
      induction d with
      | zero =>
        intro i hi x h1 h2
        refine Ev.step (fun k => by rw [impl_Rounds.l0]) ?_
        have c : ¬ (i : Int) < (l.length : Int) := by omega
        simp only [c, if_false]
        rw [List.drop_eq_nil_of_le (by omega)]
        exact Ev.now _
      | succ d ih =>
        intro i hi x h1 h2
        refine Ev.step (fun k => by rw [impl_Rounds.l0]) ?_
        have c : (i : Int) < (l.length : Int) := by omega
        have c0 : (0 : Int) ≤ (i : Int) := by omega
        have hw : wrap64 ((i : Int) + 1) = ((i + 1 : Nat) : Int) := wi (n := l.length) (by omega) hl
        have hd : l.drop i = rd_T33 l (i : Int) :: l.drop (i + 1) := drop_cons l _ (by omega)
        have hm : rd_T33 l (i : Int) ∈ l := getD_mem l _ (by omega)
        obtain ⟨r1, r2, r3, r4, r5⟩ := hfu _ hm
        have w1 : wrap64 ((rd_T33 l (i : Int)).f2 - (rd_T33 l (i : Int)).f1) = (rd_T33 l (i : Int)).f2 - (rd_T33 l (i : Int)).f1 := w64 (by omega) (by omega)
        have w2 : wrap64 ((rd_T33 l (i : Int)).f2 - (rd_T33 l (i : Int)).f1 + 1) = (rd_T33 l (i : Int)).f2 - (rd_T33 l (i : Int)).f1 + 1 := w64 (by omega) (by omega)
        have b1 : 0 ≤ (x - 1) * ((rd_T33 l (i : Int)).f2 - (rd_T33 l (i : Int)).f1) := Int.mul_nonneg (by omega) (by omega)
        have b2 : 0 ≤ x * (20000 - ((rd_T33 l (i : Int)).f2 - (rd_T33 l (i : Int)).f1)) := Int.mul_nonneg (by omega) (by omega)
        have b3 : 1 ≤ x * ((rd_T33 l (i : Int)).f2 - (rd_T33 l (i : Int)).f1 + 1) ∧ x * ((rd_T33 l (i : Int)).f2 - (rd_T33 l (i : Int)).f1 + 1) ≤ 20001000000 := by
          have hy : 0 ≤ (rd_T33 l (i : Int)).f2 - (rd_T33 l (i : Int)).f1 := by omega
          generalize (rd_T33 l (i : Int)).f2 - (rd_T33 l (i : Int)).f1 = y at b1 b2 hy ⊢
          simp only [Int.sub_mul, Int.add_mul, Int.mul_sub, Int.mul_add] at b1 b2 ⊢
          omega
        have w3 : wrap64 (x * ((rd_T33 l (i : Int)).f2 - (rd_T33 l (i : Int)).f1 + 1)) = x * ((rd_T33 l (i : Int)).f2 - (rd_T33 l (i : Int)).f1 + 1) := w64 (by omega) (by omega)
        rw [hd]
        simp only [c, c0, if_true, w1, w2, w3, hw, rndL]
        refine ih (i + 1) (by omega) _ ?_ ?_ <;> (unfold mn; split <;> omega)
    exact key l.length 0 (by omega) 1 (by omega) (by omega)
theorem impl_boundTo_ev (bs : List S36) (s : ByteArray) (hl : bs.length ≤ maxLen) : ∃ b, Ev (fun k => impl_boundTo.f k bs s) (boundS S36.f0 S36.f1 bs s, b) := by
  unfold impl_boundTo.f boundS
  have key : ∀ d, d ≤ bs.length → ∃ b, Ev (fun k => impl_boundTo.l0 k bs s ((d : Int) - 1)) (lastR S36.f0 S36.f1 (bs.take d).reverse s, b) := by
    intro d
    induction d with
    | zero =>
      intro _
      refine ⟨false, Ev.step (fun k => by rw [impl_boundTo.l0]) ?_⟩
      have c : ¬ ((0 : Nat) : Int) - 1 ≥ 0 := by omega
      simp only [c, if_false]
      exact Ev.now _
    | succ d ih =>
      intro hd
      have e0 : (((d + 1 : Nat) : Int) - 1) = (d : Int) := by omega
      have c : (d : Int) ≥ 0 := by omega
      have c0 : (0 : Int) ≤ (d : Int) := by omega
      have c1 : (d : Int) < (bs.length : Int) := by omega
      have hw : wrap64 ((d : Int) - 1) = (d : Int) - 1 := by
        simp only [maxLen] at hl
        exact w64 (by omega) (by omega)
      have ht : (bs.take (d + 1)).reverse = rd_T36 bs (d : Int) :: (bs.take d).reverse := by
        rw [List.take_add_one, List.getElem?_eq_getElem (show d < bs.length by omega)]
        simp [rd_T36, List.getElem?_eq_getElem (show d < bs.length by omega)]
      rw [ht, e0]
      by_cases e : (rd_T36 bs (d : Int)).f0.toList = s.toList
      · refine ⟨true, Ev.step (fun k => by rw [impl_boundTo.l0]) ?_⟩
        simp only [c, c0, c1, if_true, e, lastR]
        exact Ev.now _
      · obtain ⟨b, hb⟩ := ih (by omega)
        refine ⟨b, Ev.step (fun k => by rw [impl_boundTo.l0]) ?_⟩
        simp only [c, c0, c1, if_true, e, if_false, lastR, hw]
        exact hb
  have hw : wrap64 ((bs.length : Int) - 1) = (bs.length : Int) - 1 := by
    simp only [maxLen] at hl
    exact w64 (by omega) (by omega)
  rw [hw]
  have := key bs.length (Nat.le_refl _)
  rwa [List.take_length] at this
theorem impl_AffAt_ev (c : Int) (l : List S73) (bs : List S36) (hl : l.length ≤ maxLen) (hb : bs.length ≤ maxLen) :
    Ev (fun k => impl_AffAt.f k c l bs) (affAtL S73.f0 S73.f1 S36.f0 S36.f1 bs l c) := by
  unfold impl_AffAt.f
  have key : ∀ d i, i + d = l.length → ∀ x, Ev (fun k => impl_AffAt.l0 k bs x l (l.length : Int) (i : Int)) (affAtL S73.f0 S73.f1 S36.f0 S36.f1 bs (l.drop i) x) := by
    intro d
    induction d with
    | zero =>
      intro i hi x
      refine Ev.step (fun k => by rw [impl_AffAt.l0]) ?_
      have c : ¬ (i : Int) < (l.length : Int) := by omega
      simp only [c, if_false]
      rw [List.drop_eq_nil_of_le (by omega)]
      exact Ev.now _
    | succ d ih =>
      intro i hi x
      refine Ev.step (fun k => by rw [impl_AffAt.l0]) ?_
      have c : (i : Int) < (l.length : Int) := by omega
      have c0 : (0 : Int) ≤ (i : Int) := by omega
      have hw : wrap64 ((i : Int) + 1) = ((i + 1 : Nat) : Int) := wi (n := l.length) (by omega) hl
      have hd : l.drop i = rd_T73 l (i : Int) :: l.drop (i + 1) := drop_cons l _ (by omega)
      obtain ⟨b, hbd⟩ := impl_boundTo_ev bs (rd_T73 l (i : Int)).f0 hb
      rw [hd]
      simp only [c, c0, if_true, hw, affAtL]
      exact Ev.then hbd (ih (i + 1) (by omega) _)
  exact key l.length 0 (by omega) c
theorem bits_and8 (a : Int) : Go.bits .and .i64 a 255 = a % 256 := by
  have h : (255 : Int) = ((2 ^ 8 - 1 : Nat) : Int) := by decide
  unfold Go.bits
  simp only [Go.IntKind.wrap_i64]
  rw [h]
  simp only [BitVec.toNat_and, BitVec.ofInt_natCast, BitVec.toNat_ofInt, BitVec.toNat_ofNat]
  have e : (2 ^ 8 - 1) % 2 ^ Go.IntKind.bits .i64 = 2 ^ 8 - 1 := by decide
  rw [e, Nat.and_two_pow_sub_one_eq_mod]
  have e2 : Go.IntKind.bits .i64 = 64 := rfl
  rw [e2]
  omega
theorem spec_l1New_ev (l : List Int) (hl : l.length ≤ maxLen) : ∃ h, Ev (fun k => spec_l1New.f k l) (l, 0, h) := by
  have key : ∀ d i, i + d = l.length → ∀ x, ∃ h, Ev (fun k => spec_l1New.l0 k l x (i : Int)) (l, 0, h) := by
    intro d
    induction d with
    | zero =>
      intro i hi x
      refine ⟨x, Ev.step (fun k => by rw [spec_l1New.l0]) ?_⟩
      have c : ¬ (i : Int) < (l.length : Int) := by omega
      simp only [c, if_false]
      exact Ev.now _
    | succ d ih =>
      intro i hi x
      have c : (i : Int) < (l.length : Int) := by omega
      have c0 : (0 : Int) ≤ (i : Int) := by omega
      have hw : wrap64 ((i : Int) + 1) = ((i + 1 : Nat) : Int) := wi (n := l.length) (by omega) hl
      by_cases e : (i : Int) < 4000
      · obtain ⟨h, hh⟩ := ih (i + 1) (by omega) (Go.bits .and .i64 (wrap64 ((wrap64 ((wrap64 (x * 137)) + (wrap64 (rd l (i : Int))))) + 11)) 1073741823)
        refine ⟨h, Ev.step (fun k => by rw [spec_l1New.l0]) ?_⟩
        simp only [c, c0, e, if_true, hw]
        exact hh
      · refine ⟨x, Ev.step (fun k => by rw [spec_l1New.l0]) ?_⟩
        simp only [c, e, if_true, if_false]
        exact Ev.now _
  exact key l.length 0 (by omega) _
/-- Where a cursor may stand. -/
def At (l : List Int) (i : Int) : Prop := l.length ≤ maxLen ∧ 0 ≤ i ∧ i ≤ (l.length : Int)
theorem spec_l1Byte_ex {l : List Int} {i : Int} (h : Int) (hi : At l i) : ∃ b i' h', spec_l1Byte.f l i h = some (b, i', h') ∧ 0 ≤ b ∧ b ≤ 255 ∧ At l i' := by
  obtain ⟨hl, h0, h1⟩ := hi
  have hm := hl
  unfold maxLen at hm
  unfold spec_l1Byte.f
  by_cases c : i < (l.length : Int)
  · simp only [c, h0, if_true]
    have hw : wrap64 (i + 1) = i + 1 := w64 (by omega) (by omega)
    refine ⟨_, _, _, rfl, ?_, ?_, hl, ?_, ?_⟩
    · rw [bits_and8]; omega
    · rw [bits_and8]; omega
    · omega
    · omega
  · simp only [c, if_false]
    refine ⟨_, _, _, rfl, ?_, ?_, hl, h0, h1⟩
    · rw [bits_and8]; omega
    · rw [bits_and8]; omega
theorem spec_l1Below_ex {l : List Int} {i : Int} (h : Int) (n : Int) (hi : At l i) (hn : 0 < n) (hn2 : n ≤ 256) : ∃ b i' h', spec_l1Below.f l i h n = some (b, i', h') ∧ 0 ≤ b ∧ b < n ∧ At l i' := by
  unfold spec_l1Below.f
  obtain ⟨b, i', h', e, b0, b1, c⟩ := spec_l1Byte_ex h hi
  have c1 : ¬ n ≤ 0 := by omega
  have c2 : ¬ n = 0 := by omega
  simp only [c1, c2, hn2, e, if_true, if_false, Option.bind_some]
  refine ⟨_, _, _, rfl, ?_, ?_, c⟩
  · exact Int.tmod_nonneg _ b0
  · exact Int.tmod_lt_of_pos _ hn
theorem spec_l1Int_ex {l : List Int} {i : Int} (h : Int) (q : List Int) (hi : At l i) (hn : 0 < q.length) (hn2 : q.length ≤ 256) : ∃ x i' h', spec_l1Int.f l i h q = some (x, i', h') ∧ x ∈ q ∧ At l i' := by
  unfold spec_l1Int.f
  obtain ⟨b, i', h', e, b0, b1, c⟩ := spec_l1Below_ex h (q.length : Int) hi (by omega) (by omega)
  simp only [e, b0, b1, if_true, Option.bind_some]
  refine ⟨_, _, _, rfl, ?_, c⟩
  obtain ⟨j, rfl⟩ : ∃ j : Nat, b = (j : Int) := ⟨b.toNat, by omega⟩
  exact getD_mem q _ (by omega)
theorem spec_l1Once_ex {l : List Int} {i : Int} (h : Int) (n : Int) (hi : At l i) (hn : 0 < n) (hn2 : n ≤ 256) : ∃ b i' h', spec_l1Once.f l i h n = some (b, i', h') ∧ At l i' := by
  unfold spec_l1Once.f
  obtain ⟨b, i', h', e, b0, b1, c⟩ := spec_l1Below_ex h n hi hn hn2
  simp only [e, Option.bind_some]
  exact ⟨_, _, _, rfl, c⟩
abbrev sI : ByteArray := ⟨#[105]⟩
abbrev sJ : ByteArray := ⟨#[106]⟩
abbrev sK : ByteArray := ⟨#[107]⟩
/-- A drawn range. -/
def RngD (x : S33) (s : ByteArray) : Prop := x.f0 = s ∧ -1 ≤ x.f1 ∧ x.f1 ≤ 3 ∧ x.f1 ≤ x.f2 ∧ x.f2 ≤ x.f1 + 4
theorem spec_l9Draw_ex {l : List Int} {i : Int} (h : Int) (hi : At l i) : ∃ x y z i' h', Ev (fun k => spec_l9Draw.f k l i h) ([x, y, z], i', h') ∧ RngD x sI ∧ RngD y sJ ∧ RngD z sK ∧ At l i' := by
  unfold spec_l9Draw.f
  obtain ⟨a1, i1, h1, e1, p1, q1, c1⟩ := spec_l1Below_ex h 5 hi (by omega) (by omega)
  obtain ⟨b1, i2, h2, e2, p2, q2, c2⟩ := spec_l1Below_ex h1 5 c1 (by omega) (by omega)
  obtain ⟨a2, i3, h3, e3, p3, q3, c3⟩ := spec_l1Below_ex h2 5 c2 (by omega) (by omega)
  obtain ⟨b2, i4, h4, e4, p4, q4, c4⟩ := spec_l1Below_ex h3 5 c3 (by omega) (by omega)
  obtain ⟨a3, i5, h5, e5, p5, q5, c5⟩ := spec_l1Below_ex h4 5 c4 (by omega) (by omega)
  obtain ⟨b3, i6, h6, e6, p6, q6, c6⟩ := spec_l1Below_ex h5 5 c5 (by omega) (by omega)
  have r1 : wrap64 (a1 - 1) = a1 - 1 := w64 (by omega) (by omega)
  have r2 : wrap64 (a2 - 1) = a2 - 1 := w64 (by omega) (by omega)
  have r3 : wrap64 (a3 - 1) = a3 - 1 := w64 (by omega) (by omega)
  have s1 : wrap64 (a1 - 1 + b1) = a1 - 1 + b1 := w64 (by omega) (by omega)
  have s2 : wrap64 (a2 - 1 + b2) = a2 - 1 + b2 := w64 (by omega) (by omega)
  have s3 : wrap64 (a3 - 1 + b3) = a3 - 1 + b3 := w64 (by omega) (by omega)
  refine ⟨⟨sI, a1 - 1, a1 - 1 + b1⟩, ⟨sJ, a2 - 1, a2 - 1 + b2⟩, ⟨sK, a3 - 1, a3 - 1 + b3⟩, i6, h6, ?_, ⟨rfl, by simp only; omega, by simp only; omega, by simp only; omega, by simp only; omega⟩, ⟨rfl, by simp only; omega, by simp only; omega, by simp only; omega, by simp only; omega⟩, ⟨rfl, by simp only; omega, by simp only; omega, by simp only; omega, by simp only; omega⟩, c6⟩
  have w1 : wrap64 ((0 : Int) + 1) = 1 := w64 (by omega) (by omega)
  have w2 : wrap64 ((1 : Int) + 1) = 2 := w64 (by omega) (by omega)
  have w3 : wrap64 ((2 : Int) + 1) = 3 := w64 (by omega) (by omega)
  have n0 : rdOf ByteArray.empty [sI, sJ, sK] 0 = sI := rfl
  have n1 : rdOf ByteArray.empty [sI, sJ, sK] 1 = sJ := rfl
  have n2 : rdOf ByteArray.empty [sI, sJ, sK] 2 = sK := rfl
  refine ⟨4, fun k hk => ?_⟩
  obtain ⟨k, rfl⟩ : ∃ d, k = d + 4 := ⟨k - 4, by omega⟩
  simp only [spec_l9Draw.l0, e1, e2, e3, e4, e5, e6, Option.bind_some, r1, r2, r3, s1, s2, s3, w1, w2, w3, n0, n1, n2, List.length_cons, List.length_nil, List.nil_append, List.cons_append]
  simp
/-- A drawn term of a name, or none. -/
def optT (s : ByteArray) : Option Int → List S73
  | none => []
  | some n => [⟨s, n⟩]
def TermD (o : Option Int) : Prop := ∀ n, o = some n → n ∈ [1, 1, 2, 3, (-1), (-2), 4]
theorem l8_round {l : List Int} {i : Int} (h : Int) (hi : At l i) (j : Nat) (s : ByteArray) (hj : j < 3) (hs : rdOf ByteArray.empty [sI, sJ, sK] (j : Int) = s) (c : Int) (t : List S73) (ht : t.length ≤ 3) :
    ∃ o i' h', TermD o ∧ At l i' ∧ ∀ r, Ev (fun k => spec_l8Draw.l0 k [sI, sJ, sK] ((j + 1 : Nat) : Int) l i' h' c (t ++ optT s o)) r → Ev (fun k => spec_l8Draw.l0 k [sI, sJ, sK] (j : Int) l i h c t) r := by
  obtain ⟨b, i1, h1, e1, c1⟩ := spec_l1Once_ex h 2 hi (by omega) (by omega)
  have hw : wrap64 ((j : Int) + 1) = ((j + 1 : Nat) : Int) := by rw [w64 (by omega) (by omega)]; omega
  have g1 : (j : Int) < 3 := by omega
  have g2 : (0 : Int) ≤ (j : Int) := by omega
  have g3 : (j : Int) < (([sI, sJ, sK] : List ByteArray).length : Int) := by
    have : ([sI, sJ, sK] : List ByteArray).length = 3 := rfl
    omega
  cases b with
  | false =>
    refine ⟨none, i1, h1, (by intro n hn; cases hn), c1, fun r hr => Ev.step (fun k => by rw [spec_l8Draw.l0]) ?_⟩
    simp only [g1, e1, Option.bind_some, if_true, if_false, Bool.false_eq_true, hw]
    simpa [optT] using hr
  | true =>
    obtain ⟨v, i2, h2, e2, hv, c2⟩ := spec_l1Int_ex h1 [1, 1, 2, 3, (-1), (-2), 4] c1 (by decide) (by decide)
    have g4 : t.length < 5864062014805 := by omega
    refine ⟨some v, i2, h2, (by intro n hn; cases hn; exact hv), c2, fun r hr => Ev.step (fun k => by rw [spec_l8Draw.l0]) ?_⟩
    simp only [g1, g2, g3, g4, e1, e2, Option.bind_some, if_true, hw, hs]
    exact hr
theorem spec_l8Draw_ex {l : List Int} {i : Int} (h : Int) (hi : At l i) : ∃ c o1 o2 o3 i' h', Ev (fun k => spec_l8Draw.f k l i h) (c, optT sI o1 ++ optT sJ o2 ++ optT sK o3, i', h') ∧ -4 ≤ c ∧ c ≤ 8 ∧ TermD o1 ∧ TermD o2 ∧ TermD o3 ∧ At l i' := by
  unfold spec_l8Draw.f
  obtain ⟨a, i1, h1, e1, p1, q1, c1⟩ := spec_l1Below_ex h 13 hi (by omega) (by omega)
  have r1 : wrap64 (a - 4) = a - 4 := w64 (by omega) (by omega)
  have len : ∀ s o, (optT s o).length ≤ 1 := by
    intro s o
    cases o <;> simp [optT]
  obtain ⟨o1, i2, h2, t1, c2, k1⟩ := l8_round h1 c1 0 sI (by omega) rfl (a - 4) [] (by simp)
  obtain ⟨o2, i3, h3, t2, c3, k2⟩ := l8_round h2 c2 1 sJ (by omega) rfl (a - 4) ([] ++ optT sI o1) (by have := len sI o1; simp; omega)
  obtain ⟨o3, i4, h4, t3, c4, k3⟩ := l8_round h3 c3 2 sK (by omega) rfl (a - 4) ([] ++ optT sI o1 ++ optT sJ o2) (by have := len sI o1; have := len sJ o2; simp; omega)
  refine ⟨a - 4, o1, o2, o3, i4, h4, ?_, by omega, by omega, t1, t2, t3, c4⟩
  simp only [e1, Option.bind_some, r1]
  refine k1 _ (k2 _ (k3 _ (Ev.step (fun k => by rw [spec_l8Draw.l0]) ?_)))
  have g : ¬ ((2 + 1 : Nat) : Int) < 3 := by omega
  simp only [g, if_false, List.nil_append]
  exact Ev.now _
theorem optT_size {s : ByteArray} (hs : s.size ≤ 3) (o : Option Int) : (optT s o).length ≤ 1 ∧ ∀ x ∈ optT s o, x.f0.size ≤ 3 := by
  cases o with
  | none => exact ⟨by simp [optT], by simp [optT]⟩
  | some n =>
    refine ⟨by simp [optT], ?_⟩
    intro x hx
    simp only [optT, List.mem_cons, List.not_mem_nil, or_false] at hx
    rw [hx]
    exact hs
theorem drawn_size (o1 o2 o3 : Option Int) : (optT sI o1 ++ optT sJ o2 ++ optT sK o3).length ≤ 3 ∧ ∀ x ∈ optT sI o1 ++ optT sJ o2 ++ optT sK o3, x.f0.size ≤ 3 := by
  obtain ⟨a1, b1⟩ := optT_size (s := sI) (by decide) o1
  obtain ⟨a2, b2⟩ := optT_size (s := sJ) (by decide) o2
  obtain ⟨a3, b3⟩ := optT_size (s := sK) (by decide) o3
  refine ⟨by simp only [List.length_append]; omega, fun x hx => ?_⟩
  simp only [List.mem_append] at hx
  rcases hx with (hx | hx) | hx
  · exact b1 x hx
  · exact b2 x hx
  · exact b3 x hx
/-- What a drawn term may be, or 0. -/
def vO (o : Option Int) : Int := o.getD 0
theorem vO_bd {o : Option Int} (h : TermD o) : -2 ≤ vO o ∧ vO o ≤ 4 := by
  cases o with
  | none => decide
  | some n =>
    have := h n rfl
    simp only [List.mem_cons, List.not_mem_nil, or_false] at this
    simp only [vO, Option.getD_some]
    omega
theorem drawn_ok (o1 o2 o3 : Option Int) (t1 : TermD o1) (t2 : TermD o2) (t3 : TermD o3) (c : Int) (c1 : -4 ≤ c) (c2 : c ≤ 8) :
    affOkS S73.f0 S73.f1 c (optT sI o1 ++ optT sJ o2 ++ optT sK o3) = true := by
  have nI : nameS sI = true := by decide +kernel
  have nJ : nameS sJ = true := by decide +kernel
  have nK : nameS sK = true := by decide +kernel
  have bIJ : Op.bytesLess sI.toList sJ.toList = true := by decide +kernel
  have bIK : Op.bytesLess sI.toList sK.toList = true := by decide +kernel
  have bJK : Op.bytesLess sJ.toList sK.toList = true := by decide +kernel
  have hc : coefOk c = true := by
    simp only [coefOk, Bool.and_eq_true, decide_eq_true_eq]
    omega
  have hk : ∀ n, n ∈ [1, 1, 2, 3, (-1), (-2), (4 : Int)] → decide (n = 0) = false ∧ coefOk n = true := by decide +kernel
  cases o1 with
  | none => cases o2 with
    | none => cases o3 with
      | none => simp only [optT, List.nil_append, List.append_nil, affOkS, affOkL, hc, Bool.and_true]
      | some n3 => simp only [optT, List.nil_append, List.append_nil, affOkS, affOkL, lessO, hc, nK, hk _ (t3 n3 rfl), Bool.and_true, Bool.not_false]
    | some n2 => cases o3 with
      | none => simp only [optT, List.nil_append, List.append_nil, affOkS, affOkL, lessO, hc, nJ, hk _ (t2 n2 rfl), Bool.and_true, Bool.not_false]
      | some n3 => simp only [optT, List.nil_append, List.append_nil, List.cons_append, affOkS, affOkL, lessO, hc, nJ, nK, bJK, hk _ (t2 n2 rfl), hk _ (t3 n3 rfl), Bool.and_true, Bool.not_false]
  | some n1 => cases o2 with
    | none => cases o3 with
      | none => simp only [optT, List.nil_append, List.append_nil, affOkS, affOkL, lessO, hc, nI, hk _ (t1 n1 rfl), Bool.and_true, Bool.not_false]
      | some n3 => simp only [optT, List.nil_append, List.append_nil, List.cons_append, affOkS, affOkL, lessO, hc, nI, nK, bIK, hk _ (t1 n1 rfl), hk _ (t3 n3 rfl), Bool.and_true, Bool.not_false]
    | some n2 => cases o3 with
      | none => simp only [optT, List.nil_append, List.append_nil, List.cons_append, affOkS, affOkL, lessO, hc, nI, nJ, bIJ, hk _ (t1 n1 rfl), hk _ (t2 n2 rfl), Bool.and_true, Bool.not_false]
      | some n3 => simp only [optT, List.nil_append, List.append_nil, List.cons_append, affOkS, affOkL, lessO, hc, nI, nJ, nK, bIJ, bJK, hk _ (t1 n1 rfl), hk _ (t2 n2 rfl), hk _ (t3 n3 rfl), Bool.and_true, Bool.not_false]
theorem box_full {x y z : S33} (px : RngD x sI) (py : RngD y sJ) (pz : RngD z sK) : fullS S33.f0 S33.f1 S33.f2 [x, y, z] = true := by
  obtain ⟨a0, a1, a2, a3, a4⟩ := px
  obtain ⟨b0, b1, b2, b3, b4⟩ := py
  obtain ⟨d0, d1, d2, d3, d4⟩ := pz
  have nI : nameS sI = true := by decide +kernel
  have nJ : nameS sJ = true := by decide +kernel
  have nK : nameS sK = true := by decide +kernel
  have q1 : ¬ sI.toList = sJ.toList := by decide +kernel
  have q2 : ¬ sI.toList = sK.toList := by decide +kernel
  have q3 : ¬ sJ.toList = sK.toList := by decide +kernel
  have hb : ∀ n : Int, -10000 ≤ n → n ≤ 10000 → bndOk n = true := by
    intro n h1 h2
    simp only [bndOk, Bool.and_eq_true, decide_eq_true_eq]
    exact ⟨h1, h2⟩
  have e1 := hb x.f1 (by omega) (by omega)
  have e2 := hb x.f2 (by omega) (by omega)
  have e3 := hb y.f1 (by omega) (by omega)
  have e4 := hb y.f2 (by omega) (by omega)
  have e5 := hb z.f1 (by omega) (by omega)
  have e6 := hb z.f2 (by omega) (by omega)
  have i1 : idxL S33.f0 0 [x, y, z] sI = 0 := by
    simp only [idxL, a0, if_true]
    rfl
  have i2 : idxL S33.f0 0 [x, y, z] sJ = 1 := by
    simp only [idxL, a0, b0, q1, if_true, if_false]
    rfl
  have i3 : idxL S33.f0 0 [x, y, z] sK = 2 := by
    simp only [idxL, a0, b0, d0, q2, q3, if_true, if_false]
    rfl
  simp [fullS, boxOkS, boxOkL, a0, b0, d0, a3, b3, d3, nI, nJ, nK, e1, e2, e3, e4, e5, e6, i1, i2, i3]
def selO (sel : S73 → S33 → Int) (s : ByteArray) (r : S33) : Option Int → Int
  | none => 0
  | some n => sel ⟨s, n⟩ r
theorem endL_opt (sel : S73 → S33 → Int) (box : List S33) (s : ByteArray) (r : S33) (o : Option Int) (rest : List S73) (a : Int) (hf : findR S33.f0 box s = some r) (h1 : -1000 ≤ a + selO sel s r o) (h2 : a + selO sel s r o ≤ 1000) :
    endL S73.f0 S33.f0 sel box (optT s o ++ rest) a = endL S73.f0 S33.f0 sel box rest (a + selO sel s r o) := by
  cases o with
  | none => simp [optT, selO]
  | some n =>
    simp only [selO] at h1 h2
    simp only [optT, List.cons_append, List.nil_append, endL, hf, selO]
    rw [w64 (by omega) (by omega)]
/-- Where a term is least. -/
def lowAt (r : S33) (n : Int) : Int := if n > 0 then r.f1 else r.f2
def highAt (r : S33) (n : Int) : Int := if n > 0 then r.f2 else r.f1
theorem selO_low {r : S33} {s s' : ByteArray} (hr : RngD r s') {o : Option Int} (t : TermD o) : selO (lowT S73.f1 S33.f1 S33.f2) s r o = vO o * lowAt r (vO o) := by
  obtain ⟨a0, a1, a2, a3, a4⟩ := hr
  cases o with
  | none => simp [selO, vO]
  | some n =>
    have hn := vO_bd t
    simp only [vO, Option.getD_some] at hn
    simp only [selO, vO, Option.getD_some, lowAt]
    exact lowT_eq S73.f1 S33.f1 S33.f2 (x := ⟨s, n⟩) (by simp only; omega) (by simp only; omega) a3 (by omega) (by omega)
theorem selO_high {r : S33} {s s' : ByteArray} (hr : RngD r s') {o : Option Int} (t : TermD o) : selO (highT S73.f1 S33.f1 S33.f2) s r o = vO o * highAt r (vO o) := by
  obtain ⟨a0, a1, a2, a3, a4⟩ := hr
  cases o with
  | none => simp [selO, vO]
  | some n =>
    have hn := vO_bd t
    simp only [vO, Option.getD_some] at hn
    simp only [selO, vO, Option.getD_some, highAt]
    exact highT_eq S73.f1 S33.f1 S33.f2 (x := ⟨s, n⟩) (by simp only; omega) (by simp only; omega) a3 (by omega) (by omega)
theorem small_mul {n i : Int} (h1 : -2 ≤ n) (h2 : n ≤ 4) (h3 : -1 ≤ i) (h4 : i ≤ 7) : -28 ≤ n * i ∧ n * i ≤ 28 := by
  have a : n = -2 ∨ n = -1 ∨ n = 0 ∨ n = 1 ∨ n = 2 ∨ n = 3 ∨ n = 4 := by omega
  rcases a with rfl | rfl | rfl | rfl | rfl | rfl | rfl <;> omega
theorem low_le {r : S33} {s : ByteArray} (hr : RngD r s) {n i : Int} (h1 : -2 ≤ n) (h2 : n ≤ 4) (h3 : r.f1 ≤ i) (h4 : i ≤ r.f2) : n * lowAt r n ≤ n * i ∧ n * i ≤ n * highAt r n := by
  have a : n = -2 ∨ n = -1 ∨ n = 0 ∨ n = 1 ∨ n = 2 ∨ n = 3 ∨ n = 4 := by omega
  rcases a with rfl | rfl | rfl | rfl | rfl | rfl | rfl <;> simp [lowAt, highAt] <;> omega
theorem lowAt_in {r : S33} {s : ByteArray} (hr : RngD r s) (n : Int) : (r.f1 ≤ lowAt r n ∧ lowAt r n ≤ r.f2) ∧ r.f1 ≤ highAt r n ∧ highAt r n ≤ r.f2 := by
  obtain ⟨a0, a1, a2, a3, a4⟩ := hr
  unfold lowAt highAt
  by_cases h : n > 0
  · simp only [h, if_true]
    omega
  · simp only [h, if_false]
    omega
theorem drawn_ext {x y z : S33} (px : RngD x sI) (py : RngD y sJ) (pz : RngD z sK) (o1 o2 o3 : Option Int) (t1 : TermD o1) (t2 : TermD o2) (t3 : TermD o3) (c : Int) (c1 : -4 ≤ c) (c2 : c ≤ 8) :
    extT c (optT sI o1 ++ optT sJ o2 ++ optT sK o3) [x, y, z] = some (c + vO o1 * lowAt x (vO o1) + vO o2 * lowAt y (vO o2) + vO o3 * lowAt z (vO o3), c + vO o1 * highAt x (vO o1) + vO o2 * highAt y (vO o2) + vO o3 * highAt z (vO o3)) := by
  have q1 : ¬ sI.toList = sJ.toList := by decide +kernel
  have q2 : ¬ sI.toList = sK.toList := by decide +kernel
  have q3 : ¬ sJ.toList = sK.toList := by decide +kernel
  have f1 : findR S33.f0 [x, y, z] sI = some x := by simp only [findR, px.1, if_true]
  have f2 : findR S33.f0 [x, y, z] sJ = some y := by simp only [findR, px.1, py.1, q1, if_true, if_false]
  have f3 : findR S33.f0 [x, y, z] sK = some z := by simp only [findR, px.1, py.1, pz.1, q2, q3, if_true, if_false]
  have b1 := vO_bd t1
  have b2 := vO_bd t2
  have b3 := vO_bd t3
  have k1 := lowAt_in px (vO o1)
  have k2 := lowAt_in py (vO o2)
  have k3 := lowAt_in pz (vO o3)
  have m1 := small_mul b1.1 b1.2 (i := lowAt x (vO o1)) (by have := px.2; omega) (by have := px.2; omega)
  have m2 := small_mul b2.1 b2.2 (i := lowAt y (vO o2)) (by have := py.2; omega) (by have := py.2; omega)
  have m3 := small_mul b3.1 b3.2 (i := lowAt z (vO o3)) (by have := pz.2; omega) (by have := pz.2; omega)
  have u1 := small_mul b1.1 b1.2 (i := highAt x (vO o1)) (by have := px.2; omega) (by have := px.2; omega)
  have u2 := small_mul b2.1 b2.2 (i := highAt y (vO o2)) (by have := py.2; omega) (by have := py.2; omega)
  have u3 := small_mul b3.1 b3.2 (i := highAt z (vO o3)) (by have := pz.2; omega) (by have := pz.2; omega)
  have l1 := selO_low (s := sI) px t1
  have l2 := selO_low (s := sJ) py t2
  have l3 := selO_low (s := sK) pz t3
  have g1 := selO_high (s := sI) px t1
  have g2 := selO_high (s := sJ) py t2
  have g3 := selO_high (s := sK) pz t3
  have e1 : endL S73.f0 S33.f0 (lowT S73.f1 S33.f1 S33.f2) [x, y, z] (optT sI o1 ++ optT sJ o2 ++ optT sK o3) c = some (c + vO o1 * lowAt x (vO o1) + vO o2 * lowAt y (vO o2) + vO o3 * lowAt z (vO o3)) := by
    rw [List.append_assoc, endL_opt _ _ sI x o1 _ c f1 (by omega) (by omega), endL_opt _ _ sJ y o2 _ _ f2 (by omega) (by omega), ← List.append_nil (optT sK o3), endL_opt _ _ sK z o3 _ _ f3 (by omega) (by omega), l1, l2, l3]
    rfl
  have e2 : endL S73.f0 S33.f0 (highT S73.f1 S33.f1 S33.f2) [x, y, z] (optT sI o1 ++ optT sJ o2 ++ optT sK o3) c = some (c + vO o1 * highAt x (vO o1) + vO o2 * highAt y (vO o2) + vO o3 * highAt z (vO o3)) := by
    rw [List.append_assoc, endL_opt _ _ sI x o1 _ c f1 (by omega) (by omega), endL_opt _ _ sJ y o2 _ _ f2 (by omega) (by omega), ← List.append_nil (optT sK o3), endL_opt _ _ sK z o3 _ _ f3 (by omega) (by omega), g1, g2, g3]
    rfl
  unfold extT extS
  rw [drawn_ok o1 o2 o3 t1 t2 t3 c c1 c2, box_full px py pz, e1, e2]
  rfl
theorem affAt_opt (bs : List S36) (s : ByteArray) (o : Option Int) (rest : List S73) (a i : Int) (hf : boundS S36.f0 S36.f1 bs s = i) (h : -28 ≤ vO o * i ∧ vO o * i ≤ 28) (h1 : -1000 ≤ a) (h2 : a ≤ 1000) :
    affAtL S73.f0 S73.f1 S36.f0 S36.f1 bs (optT s o ++ rest) a = affAtL S73.f0 S73.f1 S36.f0 S36.f1 bs rest (a + vO o * i) := by
  cases o with
  | none => simp [optT, vO]
  | some n =>
    simp only [vO, Option.getD_some] at h
    simp only [optT, List.cons_append, List.nil_append, affAtL, hf, vO, Option.getD_some]
    rw [w64 (x := n * i) (by omega) (by omega), w64 (by omega) (by omega)]
theorem drawn_at {x y z : S33} (px : RngD x sI) (py : RngD y sJ) (pz : RngD z sK) (o1 o2 o3 : Option Int) (t1 : TermD o1) (t2 : TermD o2) (t3 : TermD o3) (c : Int) (c1 : -4 ≤ c) (c2 : c ≤ 8) (i j k : Int) (i1 : x.f1 ≤ i) (i2 : i ≤ x.f2) (j1 : y.f1 ≤ j) (j2 : j ≤ y.f2) (k1 : z.f1 ≤ k) (k2 : k ≤ z.f2) :
    Ev (fun q => impl_AffAt.f q c (optT sI o1 ++ optT sJ o2 ++ optT sK o3) [⟨x.f0, i⟩, ⟨y.f0, j⟩, ⟨z.f0, k⟩]) (c + vO o1 * i + vO o2 * j + vO o3 * k) := by
  have wd : 4 ≤ maxLen := by decide
  have sz := (drawn_size o1 o2 o3).1
  have h := impl_AffAt_ev c (optT sI o1 ++ optT sJ o2 ++ optT sK o3) [⟨x.f0, i⟩, ⟨y.f0, j⟩, ⟨z.f0, k⟩] (by omega) (by simp only [List.length_cons, List.length_nil]; omega)
  have q1 : ¬ sJ.toList = sI.toList := by decide +kernel
  have q2 : ¬ sK.toList = sI.toList := by decide +kernel
  have q3 : ¬ sK.toList = sJ.toList := by decide +kernel
  have f1 : boundS S36.f0 S36.f1 [⟨x.f0, i⟩, ⟨y.f0, j⟩, ⟨z.f0, k⟩] sI = i := by simp [boundS, lastR, px.1, py.1, pz.1, q1, q2]
  have f2 : boundS S36.f0 S36.f1 [⟨x.f0, i⟩, ⟨y.f0, j⟩, ⟨z.f0, k⟩] sJ = j := by simp [boundS, lastR, px.1, py.1, pz.1, q3]
  have f3 : boundS S36.f0 S36.f1 [⟨x.f0, i⟩, ⟨y.f0, j⟩, ⟨z.f0, k⟩] sK = k := by simp [boundS, lastR, px.1, py.1, pz.1]
  have b1 := vO_bd t1
  have b2 := vO_bd t2
  have b3 := vO_bd t3
  have ax := px.2
  have ay := py.2
  have az := pz.2
  have m1 := small_mul b1.1 b1.2 (i := i) (by omega) (by omega)
  have m2 := small_mul b2.1 b2.2 (i := j) (by omega) (by omega)
  have m3 := small_mul b3.1 b3.2 (i := k) (by omega) (by omega)
  have e : affAtL S73.f0 S73.f1 S36.f0 S36.f1 [⟨x.f0, i⟩, ⟨y.f0, j⟩, ⟨z.f0, k⟩] (optT sI o1 ++ optT sJ o2 ++ optT sK o3) c = c + vO o1 * i + vO o2 * j + vO o3 * k := by
    rw [List.append_assoc, affAt_opt _ sI o1 _ c i f1 m1 (by omega) (by omega), affAt_opt _ sJ o2 _ _ j f2 m2 (by omega) (by omega), ← List.append_nil (optT sK o3), affAt_opt _ sK o3 _ _ k f3 m3 (by omega) (by omega)]
    rfl
  rw [e] at h
  exact h
/-- All that the walk over a box needs. -/
structure Boxy (x y z : S33) (c : Int) (t : List S73) (lo hi i1 j1 k1 i2 j2 k2 : Int) : Prop where
  bx : -1 ≤ x.f1 ∧ x.f1 ≤ 3 ∧ x.f1 ≤ x.f2 ∧ x.f2 ≤ x.f1 + 4
  by_ : -1 ≤ y.f1 ∧ y.f1 ≤ 3 ∧ y.f1 ≤ y.f2 ∧ y.f2 ≤ y.f1 + 4
  bz : -1 ≤ z.f1 ∧ z.f1 ≤ 3 ∧ z.f1 ≤ z.f2 ∧ z.f2 ≤ z.f1 + 4
  m1 : x.f1 ≤ i1 ∧ i1 ≤ x.f2 ∧ y.f1 ≤ j1 ∧ j1 ≤ y.f2 ∧ z.f1 ≤ k1 ∧ k1 ≤ z.f2
  m2 : x.f1 ≤ i2 ∧ i2 ≤ x.f2 ∧ y.f1 ≤ j2 ∧ j2 ≤ y.f2 ∧ z.f1 ≤ k2 ∧ k2 ≤ z.f2
  at_ : ∀ i j k, x.f1 ≤ i → i ≤ x.f2 → y.f1 ≤ j → j ≤ y.f2 → z.f1 ≤ k → k ≤ z.f2 → ∃ e, Ev (fun q => impl_AffAt.f q c t [⟨x.f0, i⟩, ⟨y.f0, j⟩, ⟨z.f0, k⟩]) e ∧ lo ≤ e ∧ e ≤ hi ∧ (i = i1 → j = j1 → k = k1 → e = lo) ∧ (i = i2 → j = j2 → k = k2 → e = hi)
section
variable {x y z : S33} {c : Int} {t : List S73} {lo hi i1 j1 k1 i2 j2 k2 : Int}
theorem boxes_l2 (B : Boxy x y z c t lo hi i1 j1 k1 i2 j2 k2) (l0 : List Int) (i j : Int) (hi1 : x.f1 ≤ i) (hi2 : i ≤ x.f2) (hj1 : y.f1 ≤ j) (hj2 : j ≤ y.f2) (r : Bool) (m : Int)
    (H : ∀ s9 s10, (s9 = true ∨ i < i1 ∨ i = i1 ∧ j + 1 ≤ j1) → (s10 = true ∨ i < i2 ∨ i = i2 ∧ j + 1 ≤ j2) → Ev (fun q => laws_FnBoxes.l1 q l0 [x, y, z] lo hi s9 s10 m i (j + 1) c t) r) :
    ∀ (d : Nat) (k : Int) (s9 s10 : Bool) (n : Int), k + d = z.f2 + 1 → z.f1 ≤ k → 0 ≤ n → n + d = m → m ≤ 1000 → (s9 = true ∨ i < i1 ∨ i = i1 ∧ (j < j1 ∨ j = j1 ∧ k ≤ k1)) → (s10 = true ∨ i < i2 ∨ i = i2 ∧ (j < j2 ∨ j = j2 ∧ k ≤ k2)) →
      Ev (fun q => laws_FnBoxes.l2 q l0 [x, y, z] lo hi s9 s10 n i j k c t) r := by
  have bz := B.bz
  have by_ := B.by_
  have m1 := B.m1
  have m2 := B.m2
  have g0 : (0 : Int) < (([x, y, z] : List S33).length : Int) := by simp only [List.length_cons, List.length_nil]; omega
  have g1 : (1 : Int) < (([x, y, z] : List S33).length : Int) := by simp only [List.length_cons, List.length_nil]; omega
  have g2 : (2 : Int) < (([x, y, z] : List S33).length : Int) := by simp only [List.length_cons, List.length_nil]; omega
  have r0 : rd_T33 [x, y, z] 0 = x := rfl
  have r1 : rd_T33 [x, y, z] 1 = y := rfl
  have r2 : rd_T33 [x, y, z] 2 = z := rfl
  intro d
  induction d with
  | zero =>
    intro k s9 s10 n hk hk1 hn hm hm2 p9 p10
    refine Ev.step (fun q => by rw [laws_FnBoxes.l2]) ?_
    have c1 : ¬ k ≤ z.f2 := by omega
    have hw : wrap64 (j + 1) = j + 1 := w64 (by omega) (by omega)
    have hnm : n = m := by omega
    simp only [g2, r2, c1, if_true, if_false, hw, hnm]
    exact H s9 s10 (by rcases p9 with h | h; exact .inl h; right; omega) (by rcases p10 with h | h; exact .inl h; right; omega)
  | succ d ih =>
    intro k s9 s10 n hk hk1 hn hm hm2 p9 p10
    refine Ev.step (fun q => by rw [laws_FnBoxes.l2]) ?_
    have c1 : k ≤ z.f2 := by omega
    have hw : wrap64 (k + 1) = k + 1 := w64 (by omega) (by omega)
    have hwn : wrap64 (n + 1) = n + 1 := w64 (by omega) (by omega)
    obtain ⟨e, he, elo, ehi, ec1, ec2⟩ := B.at_ i j k hi1 hi2 hj1 hj2 hk1 c1
    simp only [g0, g1, g2, r0, r1, r2, c1, if_true, hw, hwn]
    refine Ev.then he ?_
    have n1 : ¬ e < lo := by omega
    have n2 : ¬ e > hi := by omega
    simp only [n1, n2, if_false]
    have q9 : (s9 || (e == lo)) = true ∨ i < i1 ∨ i = i1 ∧ (j < j1 ∨ j = j1 ∧ k + 1 ≤ k1) := by
      rcases p9 with h | h
      · left; simp [h]
      · by_cases hc : i = i1 ∧ j = j1 ∧ k = k1
        · left; simp [ec1 hc.1 hc.2.1 hc.2.2]
        · right; omega
    have q10 : (s10 || (e == hi)) = true ∨ i < i2 ∨ i = i2 ∧ (j < j2 ∨ j = j2 ∧ k + 1 ≤ k2) := by
      rcases p10 with h | h
      · left; simp [h]
      · by_cases hc : i = i2 ∧ j = j2 ∧ k = k2
        · left; simp [ec2 hc.1 hc.2.1 hc.2.2]
        · right; omega
    have := ih (k + 1) (s9 || (e == lo)) (s10 || (e == hi)) (n + 1) (by omega) (by omega) (by omega) (by omega) hm2 q9 q10
    cases s9 <;> cases s10 <;> simp only [if_true, if_false, Bool.false_eq_true, Bool.true_or, Bool.false_or] at this ⊢ <;> exact this
theorem boxes_l1 (B : Boxy x y z c t lo hi i1 j1 k1 i2 j2 k2) (l0 : List Int) (i : Int) (hi1 : x.f1 ≤ i) (hi2 : i ≤ x.f2) (nz : Nat) (hnz : z.f1 + nz = z.f2 + 1) (r : Bool) (m : Int)
    (H : ∀ s9 s10, (s9 = true ∨ i + 1 ≤ i1) → (s10 = true ∨ i + 1 ≤ i2) → Ev (fun q => laws_FnBoxes.l0 q l0 [x, y, z] lo hi s9 s10 m (i + 1) c t) r) :
    ∀ (d : Nat) (j : Int) (s9 s10 : Bool) (n : Int), j + d = y.f2 + 1 → y.f1 ≤ j → 0 ≤ n → n + ((d * nz : Nat) : Int) = m → m ≤ 1000 → (s9 = true ∨ i < i1 ∨ i = i1 ∧ j ≤ j1) → (s10 = true ∨ i < i2 ∨ i = i2 ∧ j ≤ j2) →
      Ev (fun q => laws_FnBoxes.l1 q l0 [x, y, z] lo hi s9 s10 n i j c t) r := by
  have bz := B.bz
  have bx := B.bx
  have by_ := B.by_
  have m1 := B.m1
  have m2 := B.m2
  have g1 : (1 : Int) < (([x, y, z] : List S33).length : Int) := by simp only [List.length_cons, List.length_nil]; omega
  have g2 : (2 : Int) < (([x, y, z] : List S33).length : Int) := by simp only [List.length_cons, List.length_nil]; omega
  have r1 : rd_T33 [x, y, z] 1 = y := rfl
  have r2 : rd_T33 [x, y, z] 2 = z := rfl
  intro d
  induction d with
  | zero =>
    intro j s9 s10 n hj hj1 hn hm hm2 p9 p10
    refine Ev.step (fun q => by rw [laws_FnBoxes.l1]) ?_
    have c1 : ¬ j ≤ y.f2 := by omega
    have hw : wrap64 (i + 1) = i + 1 := w64 (by omega) (by omega)
    have hnm : n = m := by simp only [Nat.zero_mul] at hm; omega
    simp only [g1, r1, c1, if_true, if_false, hw, hnm]
    exact H s9 s10 (by rcases p9 with h | h; exact .inl h; right; omega) (by rcases p10 with h | h; exact .inl h; right; omega)
  | succ d ih =>
    intro j s9 s10 n hj hj1 hn hm hm2 p9 p10
    rw [Nat.succ_mul] at hm
    refine Ev.step (fun q => by rw [laws_FnBoxes.l1]) ?_
    have c1 : j ≤ y.f2 := by omega
    simp only [g1, g2, r1, r2, c1, if_true]
    refine boxes_l2 B l0 i j hi1 hi2 hj1 c1 r (n + nz) (fun s9' s10' p9' p10' => ?_) nz z.f1 s9 s10 n hnz (Int.le_refl _) hn rfl (by omega) (by rcases p9 with h | h; exact .inl h; right; omega) (by rcases p10 with h | h; exact .inl h; right; omega)
    exact ih (j + 1) s9' s10' (n + nz) (by omega) (by omega) (by omega) (by omega) hm2 p9' p10'
theorem boxes_l0 (B : Boxy x y z c t lo hi i1 j1 k1 i2 j2 k2) (l0 : List Int) (ny nz : Nat) (hny : y.f1 + ny = y.f2 + 1) (hnz : z.f1 + nz = z.f2 + 1) (r : Bool) (m : Int)
    (H : Ev (fun q => laws_FnBoxes.l0 q l0 [x, y, z] lo hi true true m (x.f2 + 1) c t) r) :
    ∀ (d : Nat) (i : Int) (s9 s10 : Bool) (n : Int), i + d = x.f2 + 1 → x.f1 ≤ i → 0 ≤ n → n + ((d * (ny * nz) : Nat) : Int) = m → m ≤ 1000 → (s9 = true ∨ i ≤ i1) → (s10 = true ∨ i ≤ i2) →
      Ev (fun q => laws_FnBoxes.l0 q l0 [x, y, z] lo hi s9 s10 n i c t) r := by
  have bz := B.bz
  have bx := B.bx
  have by_ := B.by_
  have m1 := B.m1
  have m2 := B.m2
  have g0 : (0 : Int) < (([x, y, z] : List S33).length : Int) := by simp only [List.length_cons, List.length_nil]; omega
  have g1 : (1 : Int) < (([x, y, z] : List S33).length : Int) := by simp only [List.length_cons, List.length_nil]; omega
  have r0 : rd_T33 [x, y, z] 0 = x := rfl
  have r1 : rd_T33 [x, y, z] 1 = y := rfl
  intro d
  induction d with
  | zero =>
    intro i s9 s10 n hi_ hi1 hn hm hm2 p9 p10
    have e9 : s9 = true := by rcases p9 with h | h; exact h; omega
    have e10 : s10 = true := by rcases p10 with h | h; exact h; omega
    have ei : i = x.f2 + 1 := by omega
    have hnm : n = m := by simp only [Nat.zero_mul] at hm; omega
    rw [e9, e10, ei, hnm]
    exact H
  | succ d ih =>
    intro i s9 s10 n hi_ hi1 hn hm hm2 p9 p10
    rw [Nat.succ_mul] at hm
    refine Ev.step (fun q => by rw [laws_FnBoxes.l0]) ?_
    have c1 : i ≤ x.f2 := by omega
    simp only [g0, g1, r0, r1, c1, if_true]
    refine boxes_l1 B l0 i hi1 c1 nz hnz r (n + ((ny * nz : Nat) : Int)) (fun s9' s10' p9' p10' => ?_) ny y.f1 s9 s10 n hny (Int.le_refl _) hn rfl (by omega) (by rcases p9 with h | h; exact .inl h; right; omega) (by rcases p10 with h | h; exact .inl h; right; omega)
    exact ih (i + 1) s9' s10' _ (by omega) (by omega) (by omega) (by omega) hm2 p9' p10'
end
theorem FnBoxes : laws_FnBoxes.Pure := by
  intro l hl _ _
  apply Ev.rounds
  unfold laws_FnBoxes.f laws_big.f
  by_cases big : (l.length : Int) > 1048576
  · simp only [Option.bind_some, big, decide_true, if_true]
    exact Ev.now _
  simp only [Option.bind_some, big, decide_false, Bool.false_eq_true, if_false]
  obtain ⟨h, e0⟩ := spec_l1New_ev l hl
  have h0 : At l 0 := ⟨hl, by omega, by omega⟩
  have wd : 4 ≤ maxLen := by decide
  obtain ⟨c, o1, o2, o3, i2, h2, e2, cl, ch, t1, t2, t3, c2⟩ := spec_l8Draw_ex h h0
  obtain ⟨x, y, z, i3, h3, e3, px, py, pz, _⟩ := spec_l9Draw_ex h2 c2
  have D : Ev (fun k => spec_DrawBox.f k l) (c, optT sI o1 ++ optT sJ o2 ++ optT sK o3, [x, y, z]) := by
    unfold spec_DrawBox.f
    exact Ev.then e0 (Ev.then e2 (Ev.then e3 (Ev.now _)))
  obtain ⟨d1, d2⟩ := drawn_size o1 o2 o3
  have T1 : (optT sI o1 ++ optT sJ o2 ++ optT sK o3).length ≤ maxLen := by omega
  have T2 : ∀ x ∈ optT sI o1 ++ optT sJ o2 ++ optT sK o3, x.f0.size ≤ maxLen := fun x hx => Nat.le_trans (d2 x hx) (by omega)
  have M1 : ([x, y, z] : List S33).length ≤ maxLen := by simp only [List.length_cons, List.length_nil]; omega
  have M2 : ∀ u ∈ [x, y, z], u.f0.size ≤ maxLen := by
    have s1 : sI.size = 1 := rfl
    have s2 : sJ.size = 1 := rfl
    have s3 : sK.size = 1 := rfl
    intro u hu
    simp only [List.mem_cons, List.not_mem_nil, or_false] at hu
    rcases hu with rfl | rfl | rfl
    · rw [px.1]; omega
    · rw [py.1]; omega
    · rw [pz.1]; omega
  have X := drawn_ext px py pz o1 o2 o3 t1 t2 t3 c cl ch
  have A := drawn_at px py pz o1 o2 o3 t1 t2 t3 c cl ch
  have full := box_full px py pz
  have lev := impl_Least_ev c _ [x, y, z] T1 T2 M1 M2
  have mev := impl_Most_ev c _ [x, y, z] T1 T2 M1 M2
  have iev := fun n => impl_InArr_ev c _ [x, y, z] n T1 T2 M1 M2
  have rev := impl_Rounds_ev [x, y, z] M1 M2
  have bev := impl_BoxOk_ev [x, y, z] M1 M2
  rw [X] at lev mev
  simp only [X] at iev
  refine Ev.then D ?_
  generalize optT sI o1 ++ optT sJ o2 ++ optT sK o3 = t at *
  refine Ev.then lev (Ev.then mev ?_)
  have b1 := vO_bd t1
  have b2 := vO_bd t2
  have b3 := vO_bd t3
  generalize vO o1 = v1 at *
  generalize vO o2 = v2 at *
  generalize vO o3 = v3 at *
  have k1 := lowAt_in px v1
  have k2 := lowAt_in py v2
  have k3 := lowAt_in pz v3
  have ax := px.2
  have ay := py.2
  have az := pz.2
  have B : Boxy x y z c t (c + v1 * lowAt x v1 + v2 * lowAt y v2 + v3 * lowAt z v3) (c + v1 * highAt x v1 + v2 * highAt y v2 + v3 * highAt z v3) (lowAt x v1) (lowAt y v2) (lowAt z v3) (highAt x v1) (highAt y v2) (highAt z v3) := by
    refine ⟨ax, ay, az, by omega, by omega, fun i j k p1 p2 p3 p4 p5 p6 => ⟨_, A i j k p1 p2 p3 p4 p5 p6, ?_, ?_, ?_, ?_⟩⟩
    · have := low_le px b1.1 b1.2 p1 p2
      have := low_le py b2.1 b2.2 p3 p4
      have := low_le pz b3.1 b3.2 p5 p6
      omega
    · have := low_le px b1.1 b1.2 p1 p2
      have := low_le py b2.1 b2.2 p3 p4
      have := low_le pz b3.1 b3.2 p5 p6
      omega
    · rintro rfl rfl rfl
      rfl
    · rintro rfl rfl rfl
      rfl
  have ord : c + v1 * lowAt x v1 + v2 * lowAt y v2 + v3 * lowAt z v3 ≤ c + v1 * highAt x v1 + v2 * highAt y v2 + v3 * highAt z v3 := by
    have := low_le px b1.1 b1.2 (Int.le_refl _) ax.2.2.1
    have := low_le py b2.1 b2.2 (Int.le_refl _) ay.2.2.1
    have := low_le pz b3.1 b3.2 (Int.le_refl _) az.2.2.1
    omega
  generalize c + v1 * lowAt x v1 + v2 * lowAt y v2 + v3 * lowAt z v3 = lo at *
  generalize c + v1 * highAt x v1 + v2 * highAt y v2 + v3 * highAt z v3 = hi at *
  have no : ¬ lo > hi := by omega
  simp only [extA, extB, if_true, no, decide_false]
  refine Ev.step (fun q => by rw [laws_FnBoxes.j0]) ?_
  have g0 : (0 : Int) < (([x, y, z] : List S33).length : Int) := by simp only [List.length_cons, List.length_nil]; omega
  have r0 : rd_T33 [x, y, z] 0 = x := rfl
  simp only [Bool.false_eq_true, if_false, g0, if_true, r0]
  obtain ⟨nx, hnx⟩ : ∃ n : Nat, x.f1 + n = x.f2 + 1 := ⟨(x.f2 + 1 - x.f1).toNat, by omega⟩
  obtain ⟨ny, hny⟩ : ∃ n : Nat, y.f1 + n = y.f2 + 1 := ⟨(y.f2 + 1 - y.f1).toNat, by omega⟩
  obtain ⟨nz, hnz⟩ : ∃ n : Nat, z.f1 + n = z.f2 + 1 := ⟨(z.f2 + 1 - z.f1).toNat, by omega⟩
  have u1 : ny * nz ≤ 5 * 5 := Nat.mul_le_mul (by omega) (by omega)
  have u2 : nx * (ny * nz) ≤ 5 * 25 := Nat.mul_le_mul (by omega) u1
  have rnd : rndS S33.f0 S33.f1 S33.f2 [x, y, z] = ((nx * (ny * nz) : Nat) : Int) := by
    have v1 : nx * ny ≤ 5 * 5 := Nat.mul_le_mul (by omega) (by omega)
    have v2 : nx * ny * nz ≤ 25 * 5 := Nat.mul_le_mul v1 (by omega)
    have w1 : x.f2 - x.f1 + 1 = (nx : Int) := by omega
    have w2 : y.f2 - y.f1 + 1 = (ny : Int) := by omega
    have w3 : z.f2 - z.f1 + 1 = (nz : Int) := by omega
    have mnl : ∀ a : Int, a ≤ 1000 → mn a 1000000 = a := by
      intro a ha
      unfold mn
      split <;> omega
    unfold rndS
    rw [full]
    simp only [if_true, rndL, w1, w2, w3, Int.one_mul]
    rw [mnl (nx : Int) (by omega), ← Int.natCast_mul, mnl ((nx * ny : Nat) : Int) (by omega), ← Int.natCast_mul, mnl ((nx * ny * nz : Nat) : Int) (by omega), Nat.mul_assoc]
  refine boxes_l0 B l ny nz hny hnz true ((nx * (ny * nz) : Nat) : Int) ?_ nx x.f1 false false 0 hnx (Int.le_refl _) (Int.le_refl _) (by omega) (by omega) (.inr k1.1.1) (.inr k1.2.1)
  refine Ev.step (fun q => by rw [laws_FnBoxes.l0]) ?_
  have cx : ¬ x.f2 + 1 ≤ x.f2 := by omega
  simp only [g0, r0, cx, if_true, if_false]
  obtain ⟨sz, hsz⟩ : ∃ s, laws_at.f l 2 = some s := by
    unfold laws_at.f
    by_cases hq : (2 : Int) < (l.length : Int)
    · exact ⟨_, by simp only [hq, if_true, show (0 : Int) ≤ 2 by omega]; rfl⟩
    · exact ⟨_, by simp only [hq, if_false]; rfl⟩
  have bx : boxOkS S33.f0 S33.f1 S33.f2 [x, y, z] = true := by
    simp only [fullS, Bool.and_eq_true] at full
    exact full.2
  rw [bx] at bev
  rw [rnd] at rev
  simp only [hsz, Option.bind_some]
  refine Ev.then rev ?_
  simp only [if_true]
  refine Ev.then (iev sz) ?_
  simp only [inArrB]
  by_cases hlo : lo ≥ 0
  · have hlo' : 0 ≤ lo := hlo
    simp only [hlo, hlo', if_true, decide_true, Bool.true_and, beq_self_eq_true]
    exact Ev.then bev (Ev.now _)
  · have hlo' : ¬ 0 ≤ lo := by omega
    simp only [hlo, hlo', if_false, decide_false, Bool.false_and, beq_self_eq_true, if_true]
    exact Ev.then bev (Ev.now _)

end Go.Proofs.Ytelklalagebdgaa.Pure
