/- The pure statement of FnAffs: what the printed functions compute makes the law answer true. Conditions: those in the statement. -/
import Derived.Test.YtmomablfmhkppaaLem
import Derived.Test.YtmomablfmhkppaaPFnAffsx0
import Derived.Test.YtmomablfmhkppaaPFnAffsx1
import Derived.Test.YtmomablfmhkppaaPFnAffsx2
import Derived.Test.YtmomablfmhkppaaPFnAffsx3
import Derived.Test.YtmomablfmhkppaaPFnAffsx4
import Derived.Test.YtmomablfmhkppaaPFnAffsx5
import Derived.Test.YtmomablfmhkppaaPFnAffsx6
import Derived.Test.YtmomablfmhkppaaPFnAffsx7
namespace Go.Proofs.Ytmomablfmhkppaa.Pure
open Go.RowKit Go.Proofs.Ytmomablfmhkppaa.PFnAffs Go.Proofs.YtmomablfmhkppaaW.PrintWords Go.Proofs.YtmomablfmhkppaaW.PrintLast Go.Proofs.YtmomablfmhkppaaW.PrintMore Go.Proofs.Ytmomablfmhkppaa.Lem
set_option linter.unusedVariables false
set_option linter.unusedSimpArgs false

theorem impl_inRange_eq (a b c : Int) : impl_inRange.f a b c = some (decide (b ≤ a) && decide (a ≤ c)) := by
  unfold impl_inRange.f
  by_cases h : a ≥ b
  · have h' : b ≤ a := h
    simp [h']
  · have h' : ¬ b ≤ a := h
    simp [h']
theorem impl_isLetter_eq (a : Int) : impl_isLetter.f a = some (decide (97 ≤ a) && decide (a ≤ 122)) := by
  unfold impl_isLetter.f
  by_cases h : a ≥ 97
  · have h' : 97 ≤ a := h
    simp [h']
  · have h' : ¬ 97 ≤ a := h
    simp [h']
theorem impl_isKept_eq (s : ByteArray) : impl_isKept.f s = some (keptS s) := by
  unfold impl_isKept.f keptS keptL
  have hb : ∀ l : List UInt8, decide (s.toList = l) = (l == s.toList) := fun l => by
    by_cases h : s.toList = l
    · rw [decide_eq_true h, ← h, beq_self_eq_true]
    · rw [decide_eq_false h, beq_eq_false_iff_ne.mpr (fun e => h e.symm)]
  simp only [if_or, hb, List.any_cons, List.any_nil]
theorem impl_NameOk_ev (s : ByteArray) (hn : s.size ≤ maxLen) : Ev (fun k => impl_NameOk.f k s) (nameS s) := by
  unfold impl_NameOk.f nameS
  refine Ev.run (g := fun k i (_ : Unit) => impl_NameOk.l0 k s i) _ _ ?_ ?_ ()
  · intro i u hi
    have c : (i : Int) < (s.size : Int) := by omega
    have c0 : (0 : Int) ≤ (i : Int) := by omega
    have hw : wrap64 ((i : Int) + 1) = ((i + 1 : Nat) : Int) := wi hi hn
    have hl : impl_isLetter.f (bt s (i : Int)) = some (letS s i) := impl_isLetter_eq _
    cases e : letS s i with
    | true =>
      simp only [if_true]
      intro r hr
      refine Ev.step (fun k => by rw [impl_NameOk.l0]) ?_
      simp only [c, c0, if_true, hl, e, Option.bind_some, hw]
      exact hr
    | false =>
      simp only [Bool.false_eq_true, if_false]
      refine Ev.step (fun k => by rw [impl_NameOk.l0]) ?_
      simp only [c, c0, if_true, hl, e, Option.bind_some, Bool.false_eq_true, if_false]
      exact Ev.now _
  · intro u
    refine Ev.step (fun k => by rw [impl_NameOk.l0]) ?_
    have c : ¬ (s.size : Int) < (s.size : Int) := by omega
    simp only [c, if_false, impl_inRange_eq, Option.bind_some]
    have e1 : (decide ((1 : Int) ≤ (s.size : Int)) && decide ((s.size : Int) ≤ 6)) = (decide (1 ≤ s.size) && decide (s.size ≤ 6)) := by
      rw [Bool.eq_iff_iff]
      simp
      omega
    rw [e1]
    cases e : (decide (1 ≤ s.size) && decide (s.size ≤ 6)) with
    | true =>
      simp only [if_true, Bool.true_and, impl_isKept_eq, Option.bind_some]
      exact Ev.now _
    | false =>
      simp only [Bool.false_eq_true, if_false, Bool.false_and]
      exact Ev.now _

theorem impl_CoefOf_ev (c : Int) (l : List S70) (s : ByteArray) (hl : l.length ≤ maxLen) : Ev (fun k => impl_CoefOf.f k c l s) (coefL S70.f0 S70.f1 l s) := by
  unfold impl_CoefOf.f
  have key : ∀ d i, i + d = l.length → Ev (fun k => impl_CoefOf.l0 k s l (l.length : Int) (i : Int)) (coefL S70.f0 S70.f1 (l.drop i) s) := by
    intro d
    induction d with
    | zero =>
      intro i hi
      refine Ev.step (fun k => by rw [impl_CoefOf.l0]) ?_
      have c : ¬ (i : Int) < (l.length : Int) := by omega
      simp only [c, if_false]
      rw [List.drop_eq_nil_of_le (by omega)]
      exact Ev.now _
    | succ d ih =>
      intro i hi
      refine Ev.step (fun k => by rw [impl_CoefOf.l0]) ?_
      have c : (i : Int) < (l.length : Int) := by omega
      have c0 : (0 : Int) ≤ (i : Int) := by omega
      have hw : wrap64 ((i : Int) + 1) = ((i + 1 : Nat) : Int) := wi (n := l.length) (by omega) hl
      have hd : l.drop i = rd_T70 l (i : Int) :: l.drop (i + 1) := drop_cons l _ (by omega)
      rw [hd]
      simp only [c, c0, if_true, hw, coefL]
      by_cases e : (rd_T70 l (i : Int)).f0.toList = s.toList
      · simp only [e, if_true]
        exact Ev.now _
      · simp only [e, if_false]
        exact ih (i + 1) (by omega)
  exact key l.length 0 (by omega)
theorem impl_isCoef_eq (n : Int) : impl_isCoef.f n = some (coefOk n) := by
  unfold impl_isCoef.f
  rw [impl_inRange_eq]
  rfl
def prevT (l : List S70) (i : Nat) : Option ByteArray := if i = 0 then none else some (rd_T70 l ((i - 1 : Nat) : Int)).f0
theorem prevT_succ (l : List S70) (i : Nat) : prevT l (i + 1) = some (rd_T70 l (i : Int)).f0 := by
  unfold prevT
  rw [if_neg (by omega)]
  rfl
theorem impl_AffOk_ev (c : Int) (l : List S70) (hl : l.length ≤ maxLen) (hs : ∀ x ∈ l, x.f0.size ≤ maxLen) : Ev (fun k => impl_AffOk.f k c l) (affOkS S70.f0 S70.f1 c l) := by
  unfold impl_AffOk.f
  have key : ∀ d i, i + d = l.length → Ev (fun k => impl_AffOk.l0 k l (l.length : Int) (i : Int) c l) (affOkL S70.f0 S70.f1 (prevT l i) (l.drop i) && coefOk c) := by
    intro d
    induction d with
    | zero =>
      intro i hi
      refine Ev.step (fun k => by rw [impl_AffOk.l0]) ?_
      have c : ¬ (i : Int) < (l.length : Int) := by omega
      simp only [c, if_false]
      rw [List.drop_eq_nil_of_le (by omega)]
      simp only [impl_isCoef_eq, Option.bind_some, affOkL, Bool.true_and]
      exact Ev.now _
    | succ d ih =>
      intro i hi
      refine Ev.step (fun k => by rw [impl_AffOk.l0]) ?_
      have c : (i : Int) < (l.length : Int) := by omega
      have c0 : (0 : Int) ≤ (i : Int) := by omega
      have hw : wrap64 ((i : Int) + 1) = ((i + 1 : Nat) : Int) := wi (n := l.length) (by omega) hl
      have hd : l.drop i = rd_T70 l (i : Int) :: l.drop (i + 1) := drop_cons l _ (by omega)
      have hm : rd_T70 l (i : Int) ∈ l := getD_mem l _ (by omega)
      have ih' := ih (i + 1) (by omega)
      rw [prevT_succ] at ih'
      rw [hd]
      simp only [c, c0, if_true, hw, affOkL, impl_isCoef_eq, Option.bind_some]
      refine Ev.then (impl_NameOk_ev _ (hs _ hm)) ?_
      cases e1 : nameS (rd_T70 l (i : Int)).f0 with
      | false =>
        simp only [Bool.false_eq_true, if_false, Bool.false_and]
        exact Ev.now _
      | true =>
        by_cases e2 : (rd_T70 l (i : Int)).f1 = 0
        · simp only [e2, if_true, decide_true, Bool.not_true, Bool.false_and, Bool.and_false]
          exact Ev.now _
        · cases e3 : coefOk (rd_T70 l (i : Int)).f1 with
          | false =>
            simp only [e2, if_true, if_false, decide_false, Bool.not_false, Bool.and_false, Bool.false_and, Bool.false_eq_true]
            exact Ev.now _
          | true =>
            simp only [e2, if_true, if_false, decide_false, Bool.not_false, Bool.true_and]
            by_cases e4 : i = 0
            · subst e4
              have c4 : ¬ ((0 : Nat) : Int) > 0 := by omega
              simp only [c4, if_false, prevT, if_true, lessO, Bool.true_and]
              exact ih'
            · have c4 : (i : Int) > 0 := by omega
              have c5 : wrap64 ((i : Int) - 1) = ((i - 1 : Nat) : Int) := by
                simp only [maxLen] at hl
                rw [w64 (by omega) (by omega)]
                omega
              have c6 : (0 : Int) ≤ ((i - 1 : Nat) : Int) := by omega
              have c7 : ((i - 1 : Nat) : Int) < (l.length : Int) := by omega
              simp only [c4, c5, c6, c7, if_true, prevT, e4, if_false, lessO]
              cases e5 : Op.bytesLess (rd_T70 l ((i - 1 : Nat) : Int)).f0.toList (rd_T70 l (i : Int)).f0.toList with
              | false =>
                simp only [Bool.false_eq_true, if_false, Bool.false_and]
                exact Ev.now _
              | true =>
                simp only [if_true, Bool.true_and]
                exact ih'
  exact key l.length 0 (by omega)
theorem impl_boundTo_ev (bs : List S76) (s : ByteArray) (hl : bs.length ≤ maxLen) : ∃ b, Ev (fun k => impl_boundTo.f k bs s) (boundS S76.f0 S76.f1 bs s, b) := by
  unfold impl_boundTo.f boundS
  have key : ∀ d, d ≤ bs.length → ∃ b, Ev (fun k => impl_boundTo.l0 k bs s ((d : Int) - 1)) (lastR S76.f0 S76.f1 (bs.take d).reverse s, b) := by
    intro d
    induction d with
    | zero =>
      intro _
      refine ⟨false, Ev.step (fun k => by rw [impl_boundTo.l0]) ?_⟩
      have c : ¬ ((0 : Nat) : Int) - 1 ≥ 0 := by omega
      simp only [c, if_false]
      exact Ev.now _
    | succ d ih =>
      intro hd
      have e0 : (((d + 1 : Nat) : Int) - 1) = (d : Int) := by omega
      have c : (d : Int) ≥ 0 := by omega
      have c0 : (0 : Int) ≤ (d : Int) := by omega
      have c1 : (d : Int) < (bs.length : Int) := by omega
      have hw : wrap64 ((d : Int) - 1) = (d : Int) - 1 := by
        simp only [maxLen] at hl
        exact w64 (by omega) (by omega)
      have ht : (bs.take (d + 1)).reverse = rd_T76 bs (d : Int) :: (bs.take d).reverse := by
        rw [List.take_add_one, List.getElem?_eq_getElem (show d < bs.length by omega)]
        simp [rd_T76, List.getElem?_eq_getElem (show d < bs.length by omega)]
      rw [ht, e0]
      by_cases e : (rd_T76 bs (d : Int)).f0.toList = s.toList
      · refine ⟨true, Ev.step (fun k => by rw [impl_boundTo.l0]) ?_⟩
        simp only [c, c0, c1, if_true, e, lastR]
        exact Ev.now _
      · obtain ⟨b, hb⟩ := ih (by omega)
        refine ⟨b, Ev.step (fun k => by rw [impl_boundTo.l0]) ?_⟩
        simp only [c, c0, c1, if_true, e, if_false, lastR, hw]
        exact hb
  have hw : wrap64 ((bs.length : Int) - 1) = (bs.length : Int) - 1 := by
    simp only [maxLen] at hl
    exact w64 (by omega) (by omega)
  rw [hw]
  have := key bs.length (Nat.le_refl _)
  rwa [List.take_length] at this
theorem impl_AffAt_ev (c : Int) (l : List S70) (bs : List S76) (hl : l.length ≤ maxLen) (hb : bs.length ≤ maxLen) :
    Ev (fun k => impl_AffAt.f k c l bs) (affAtL S70.f0 S70.f1 S76.f0 S76.f1 bs l c) := by
  unfold impl_AffAt.f
  have key : ∀ d i, i + d = l.length → ∀ x, Ev (fun k => impl_AffAt.l0 k bs x l (l.length : Int) (i : Int)) (affAtL S70.f0 S70.f1 S76.f0 S76.f1 bs (l.drop i) x) := by
    intro d
    induction d with
    | zero =>
      intro i hi x
      refine Ev.step (fun k => by rw [impl_AffAt.l0]) ?_
      have c : ¬ (i : Int) < (l.length : Int) := by omega
      simp only [c, if_false]
      rw [List.drop_eq_nil_of_le (by omega)]
      exact Ev.now _
    | succ d ih =>
      intro i hi x
      refine Ev.step (fun k => by rw [impl_AffAt.l0]) ?_
      have c : (i : Int) < (l.length : Int) := by omega
      have c0 : (0 : Int) ≤ (i : Int) := by omega
      have hw : wrap64 ((i : Int) + 1) = ((i + 1 : Nat) : Int) := wi (n := l.length) (by omega) hl
      have hd : l.drop i = rd_T70 l (i : Int) :: l.drop (i + 1) := drop_cons l _ (by omega)
      obtain ⟨b, hbd⟩ := impl_boundTo_ev bs (rd_T70 l (i : Int)).f0 hb
      rw [hd]
      simp only [c, c0, if_true, hw, affAtL]
      exact Ev.then hbd (ih (i + 1) (by omega) _)
  exact key l.length 0 (by omega) c
theorem bits_and8 (a : Int) : Go.bits .and .i64 a 255 = a % 256 := by
  have h : (255 : Int) = ((2 ^ 8 - 1 : Nat) : Int) := by decide
  unfold Go.bits
  simp only [Go.IntKind.wrap_i64]
  rw [h]
  simp only [BitVec.toNat_and, BitVec.ofInt_natCast, BitVec.toNat_ofInt, BitVec.toNat_ofNat]
  have e : (2 ^ 8 - 1) % 2 ^ Go.IntKind.bits .i64 = 2 ^ 8 - 1 := by decide
  rw [e, Nat.and_two_pow_sub_one_eq_mod]
  have e2 : Go.IntKind.bits .i64 = 64 := rfl
  rw [e2]
  omega
theorem spec_l1New_ev (l : List Int) (hl : l.length ≤ maxLen) : ∃ h, Ev (fun k => spec_l1New.f k l) (l, 0, h) := by
  have key : ∀ d i, i + d = l.length → ∀ x, ∃ h, Ev (fun k => spec_l1New.l0 k l x (i : Int)) (l, 0, h) := by
    intro d
    induction d with
    | zero =>
      intro i hi x
      refine ⟨x, Ev.step (fun k => by rw [spec_l1New.l0]) ?_⟩
      have c : ¬ (i : Int) < (l.length : Int) := by omega
      simp only [c, if_false]
      exact Ev.now _
    | succ d ih =>
      intro i hi x
      have c : (i : Int) < (l.length : Int) := by omega
      have c0 : (0 : Int) ≤ (i : Int) := by omega
      have hw : wrap64 ((i : Int) + 1) = ((i + 1 : Nat) : Int) := wi (n := l.length) (by omega) hl
      by_cases e : (i : Int) < 4000
      · obtain ⟨h, hh⟩ := ih (i + 1) (by omega) (Go.bits .and .i64 (wrap64 ((wrap64 ((wrap64 (x * 137)) + (wrap64 (rd l (i : Int))))) + 11)) 1073741823)
        refine ⟨h, Ev.step (fun k => by rw [spec_l1New.l0]) ?_⟩
        simp only [c, c0, e, if_true, hw]
        exact hh
      · refine ⟨x, Ev.step (fun k => by rw [spec_l1New.l0]) ?_⟩
        simp only [c, e, if_true, if_false]
        exact Ev.now _
  exact key l.length 0 (by omega) _
/-- Where a cursor may stand. -/
def At (l : List Int) (i : Int) : Prop := l.length ≤ maxLen ∧ 0 ≤ i ∧ i ≤ (l.length : Int)
theorem spec_l1Byte_ex {l : List Int} {i : Int} (h : Int) (hi : At l i) : ∃ b i' h', spec_l1Byte.f l i h = some (b, i', h') ∧ 0 ≤ b ∧ b ≤ 255 ∧ At l i' := by
  obtain ⟨hl, h0, h1⟩ := hi
  have hm := hl
  unfold maxLen at hm
  unfold spec_l1Byte.f
  by_cases c : i < (l.length : Int)
  · simp only [c, h0, if_true]
    have hw : wrap64 (i + 1) = i + 1 := w64 (by omega) (by omega)
    refine ⟨_, _, _, rfl, ?_, ?_, hl, ?_, ?_⟩
    · rw [bits_and8]; omega
    · rw [bits_and8]; omega
    · omega
    · omega
  · simp only [c, if_false]
    refine ⟨_, _, _, rfl, ?_, ?_, hl, h0, h1⟩
    · rw [bits_and8]; omega
    · rw [bits_and8]; omega
theorem spec_l1Below_ex {l : List Int} {i : Int} (h : Int) (n : Int) (hi : At l i) (hn : 0 < n) (hn2 : n ≤ 256) : ∃ b i' h', spec_l1Below.f l i h n = some (b, i', h') ∧ 0 ≤ b ∧ b < n ∧ At l i' := by
  unfold spec_l1Below.f
  obtain ⟨b, i', h', e, b0, b1, c⟩ := spec_l1Byte_ex h hi
  have c1 : ¬ n ≤ 0 := by omega
  have c2 : ¬ n = 0 := by omega
  simp only [c1, c2, hn2, e, if_true, if_false, Option.bind_some]
  refine ⟨_, _, _, rfl, ?_, ?_, c⟩
  · exact Int.tmod_nonneg _ b0
  · exact Int.tmod_lt_of_pos _ hn
theorem spec_l1Int_ex {l : List Int} {i : Int} (h : Int) (q : List Int) (hi : At l i) (hn : 0 < q.length) (hn2 : q.length ≤ 256) : ∃ x i' h', spec_l1Int.f l i h q = some (x, i', h') ∧ x ∈ q ∧ At l i' := by
  unfold spec_l1Int.f
  obtain ⟨b, i', h', e, b0, b1, c⟩ := spec_l1Below_ex h (q.length : Int) hi (by omega) (by omega)
  simp only [e, b0, b1, if_true, Option.bind_some]
  refine ⟨_, _, _, rfl, ?_, c⟩
  obtain ⟨j, rfl⟩ : ∃ j : Nat, b = (j : Int) := ⟨b.toNat, by omega⟩
  exact getD_mem q _ (by omega)
theorem spec_l1Str_ex {l : List Int} {i : Int} (h : Int) (q : List ByteArray) (hi : At l i) (hn : 0 < q.length) (hn2 : q.length ≤ 256) : ∃ x i' h', spec_l1Str.f l i h q = some (x, i', h') ∧ x ∈ q ∧ At l i' := by
  unfold spec_l1Str.f
  obtain ⟨b, i', h', e, b0, b1, c⟩ := spec_l1Below_ex h (q.length : Int) hi (by omega) (by omega)
  simp only [e, b0, b1, if_true, Option.bind_some]
  refine ⟨_, _, _, rfl, ?_, c⟩
  obtain ⟨j, rfl⟩ : ∃ j : Nat, b = (j : Int) := ⟨b.toNat, by omega⟩
  exact getD_mem q _ (by omega)
theorem spec_l1Once_ex {l : List Int} {i : Int} (h : Int) (n : Int) (hi : At l i) (hn : 0 < n) (hn2 : n ≤ 256) : ∃ b i' h', spec_l1Once.f l i h n = some (b, i', h') ∧ At l i' := by
  unfold spec_l1Once.f
  obtain ⟨b, i', h', e, b0, b1, c⟩ := spec_l1Below_ex h n hi hn hn2
  simp only [e, Option.bind_some]
  exact ⟨_, _, _, rfl, c⟩
abbrev sI : ByteArray := ⟨#[105]⟩
abbrev sJ : ByteArray := ⟨#[106]⟩
abbrev sK : ByteArray := ⟨#[107]⟩
/-- A drawn term of a name, or none. -/
def optT (s : ByteArray) : Option Int → List S70
  | none => []
  | some n => [⟨s, n⟩]
def TermD (o : Option Int) : Prop := ∀ n, o = some n → n ∈ [1, 1, 2, 3, (-1), (-2), 4]
theorem l8_round {l : List Int} {i : Int} (h : Int) (hi : At l i) (j : Nat) (s : ByteArray) (hj : j < 3) (hs : rdOf ByteArray.empty [sI, sJ, sK] (j : Int) = s) (c : Int) (t : List S70) (ht : t.length ≤ 3) :
    ∃ o i' h', TermD o ∧ At l i' ∧ ∀ r, Ev (fun k => spec_l8Draw.l0 k [sI, sJ, sK] ((j + 1 : Nat) : Int) l i' h' c (t ++ optT s o)) r → Ev (fun k => spec_l8Draw.l0 k [sI, sJ, sK] (j : Int) l i h c t) r := by
  obtain ⟨b, i1, h1, e1, c1⟩ := spec_l1Once_ex h 2 hi (by omega) (by omega)
  have hw : wrap64 ((j : Int) + 1) = ((j + 1 : Nat) : Int) := by rw [w64 (by omega) (by omega)]; omega
  have g1 : (j : Int) < 3 := by omega
  have g2 : (0 : Int) ≤ (j : Int) := by omega
  have g3 : (j : Int) < (([sI, sJ, sK] : List ByteArray).length : Int) := by
    have : ([sI, sJ, sK] : List ByteArray).length = 3 := rfl
    omega
  cases b with
  | false =>
    refine ⟨none, i1, h1, (by intro n hn; cases hn), c1, fun r hr => Ev.step (fun k => by rw [spec_l8Draw.l0]) ?_⟩
    simp only [g1, e1, Option.bind_some, if_true, if_false, Bool.false_eq_true, hw]
    simpa [optT] using hr
  | true =>
    obtain ⟨v, i2, h2, e2, hv, c2⟩ := spec_l1Int_ex h1 [1, 1, 2, 3, (-1), (-2), 4] c1 (by decide) (by decide)
    have g4 : t.length < 5864062014805 := by omega
    refine ⟨some v, i2, h2, (by intro n hn; cases hn; exact hv), c2, fun r hr => Ev.step (fun k => by rw [spec_l8Draw.l0]) ?_⟩
    simp only [g1, g2, g3, g4, e1, e2, Option.bind_some, if_true, hw, hs]
    exact hr
theorem spec_l8Draw_ex {l : List Int} {i : Int} (h : Int) (hi : At l i) : ∃ c o1 o2 o3 i' h', Ev (fun k => spec_l8Draw.f k l i h) (c, optT sI o1 ++ optT sJ o2 ++ optT sK o3, i', h') ∧ -4 ≤ c ∧ c ≤ 8 ∧ TermD o1 ∧ TermD o2 ∧ TermD o3 ∧ At l i' := by
  unfold spec_l8Draw.f
  obtain ⟨a, i1, h1, e1, p1, q1, c1⟩ := spec_l1Below_ex h 13 hi (by omega) (by omega)
  have r1 : wrap64 (a - 4) = a - 4 := w64 (by omega) (by omega)
  have len : ∀ s o, (optT s o).length ≤ 1 := by
    intro s o
    cases o <;> simp [optT]
  obtain ⟨o1, i2, h2, t1, c2, k1⟩ := l8_round h1 c1 0 sI (by omega) rfl (a - 4) [] (by simp)
  obtain ⟨o2, i3, h3, t2, c3, k2⟩ := l8_round h2 c2 1 sJ (by omega) rfl (a - 4) ([] ++ optT sI o1) (by have := len sI o1; simp; omega)
  obtain ⟨o3, i4, h4, t3, c4, k3⟩ := l8_round h3 c3 2 sK (by omega) rfl (a - 4) ([] ++ optT sI o1 ++ optT sJ o2) (by have := len sI o1; have := len sJ o2; simp; omega)
  refine ⟨a - 4, o1, o2, o3, i4, h4, ?_, by omega, by omega, t1, t2, t3, c4⟩
  simp only [e1, Option.bind_some, r1]
  refine k1 _ (k2 _ (k3 _ (Ev.step (fun k => by rw [spec_l8Draw.l0]) ?_)))
  have g : ¬ ((2 + 1 : Nat) : Int) < 3 := by omega
  simp only [g, if_false, List.nil_append]
  exact Ev.now _
theorem optT_size {s : ByteArray} (hs : s.size ≤ 3) (o : Option Int) : (optT s o).length ≤ 1 ∧ ∀ x ∈ optT s o, x.f0.size ≤ 3 := by
  cases o with
  | none => exact ⟨by simp [optT], by simp [optT]⟩
  | some n =>
    refine ⟨by simp [optT], ?_⟩
    intro x hx
    simp only [optT, List.mem_cons, List.not_mem_nil, or_false] at hx
    rw [hx]
    exact hs
theorem drawn_size (o1 o2 o3 : Option Int) : (optT sI o1 ++ optT sJ o2 ++ optT sK o3).length ≤ 3 ∧ ∀ x ∈ optT sI o1 ++ optT sJ o2 ++ optT sK o3, x.f0.size ≤ 3 := by
  obtain ⟨a1, b1⟩ := optT_size (s := sI) (by decide) o1
  obtain ⟨a2, b2⟩ := optT_size (s := sJ) (by decide) o2
  obtain ⟨a3, b3⟩ := optT_size (s := sK) (by decide) o3
  refine ⟨by simp only [List.length_append]; omega, fun x hx => ?_⟩
  simp only [List.mem_append] at hx
  rcases hx with (hx | hx) | hx
  · exact b1 x hx
  · exact b2 x hx
  · exact b3 x hx
/-- What a drawn term may be, or 0. -/
def vO (o : Option Int) : Int := o.getD 0
theorem vO_bd {o : Option Int} (h : TermD o) : -2 ≤ vO o ∧ vO o ≤ 4 := by
  cases o with
  | none => decide
  | some n =>
    have := h n rfl
    simp only [List.mem_cons, List.not_mem_nil, or_false] at this
    simp only [vO, Option.getD_some]
    omega
theorem drawn_ok (o1 o2 o3 : Option Int) (t1 : TermD o1) (t2 : TermD o2) (t3 : TermD o3) (c : Int) (c1 : -4 ≤ c) (c2 : c ≤ 8) :
    affOkS S70.f0 S70.f1 c (optT sI o1 ++ optT sJ o2 ++ optT sK o3) = true := by
  have nI : nameS sI = true := by decide +kernel
  have nJ : nameS sJ = true := by decide +kernel
  have nK : nameS sK = true := by decide +kernel
  have bIJ : Op.bytesLess sI.toList sJ.toList = true := by decide +kernel
  have bIK : Op.bytesLess sI.toList sK.toList = true := by decide +kernel
  have bJK : Op.bytesLess sJ.toList sK.toList = true := by decide +kernel
  have hc : coefOk c = true := by
    simp only [coefOk, Bool.and_eq_true, decide_eq_true_eq]
    omega
  have hk : ∀ n, n ∈ [1, 1, 2, 3, (-1), (-2), (4 : Int)] → decide (n = 0) = false ∧ coefOk n = true := by decide +kernel
  cases o1 with
  | none => cases o2 with
    | none => cases o3 with
      | none => simp only [optT, List.nil_append, List.append_nil, affOkS, affOkL, hc, Bool.and_true]
      | some n3 => simp only [optT, List.nil_append, List.append_nil, affOkS, affOkL, lessO, hc, nK, hk _ (t3 n3 rfl), Bool.and_true, Bool.not_false]
    | some n2 => cases o3 with
      | none => simp only [optT, List.nil_append, List.append_nil, affOkS, affOkL, lessO, hc, nJ, hk _ (t2 n2 rfl), Bool.and_true, Bool.not_false]
      | some n3 => simp only [optT, List.nil_append, List.append_nil, List.cons_append, affOkS, affOkL, lessO, hc, nJ, nK, bJK, hk _ (t2 n2 rfl), hk _ (t3 n3 rfl), Bool.and_true, Bool.not_false]
  | some n1 => cases o2 with
    | none => cases o3 with
      | none => simp only [optT, List.nil_append, List.append_nil, affOkS, affOkL, lessO, hc, nI, hk _ (t1 n1 rfl), Bool.and_true, Bool.not_false]
      | some n3 => simp only [optT, List.nil_append, List.append_nil, List.cons_append, affOkS, affOkL, lessO, hc, nI, nK, bIK, hk _ (t1 n1 rfl), hk _ (t3 n3 rfl), Bool.and_true, Bool.not_false]
    | some n2 => cases o3 with
      | none => simp only [optT, List.nil_append, List.append_nil, List.cons_append, affOkS, affOkL, lessO, hc, nI, nJ, bIJ, hk _ (t1 n1 rfl), hk _ (t2 n2 rfl), Bool.and_true, Bool.not_false]
      | some n3 => simp only [optT, List.nil_append, List.append_nil, List.cons_append, affOkS, affOkL, lessO, hc, nI, nJ, nK, bIJ, bJK, hk _ (t1 n1 rfl), hk _ (t2 n2 rfl), hk _ (t3 n3 rfl), Bool.and_true, Bool.not_false]
theorem small_mul {n i : Int} (h1 : -2 ≤ n) (h2 : n ≤ 4) (h3 : -1 ≤ i) (h4 : i ≤ 7) : -28 ≤ n * i ∧ n * i ≤ 28 := by
  have a : n = -2 ∨ n = -1 ∨ n = 0 ∨ n = 1 ∨ n = 2 ∨ n = 3 ∨ n = 4 := by omega
  rcases a with rfl | rfl | rfl | rfl | rfl | rfl | rfl <;> omega
/-! ### sums whose names ascend -/
abbrev cof (l : List S70) (s : ByteArray) : Int := coefL S70.f0 S70.f1 l s
def Asc (l : List S70) : Prop := l.Pairwise (fun x y => x.f0.toList < y.f0.toList)
def Dist (l : List S70) : Prop := l.Pairwise (fun x y => x.f0.toList ≠ y.f0.toList)
theorem lt_ne {a b : List UInt8} (h : a < b) : a ≠ b := fun e => by
  subst e
  exact List.lt_irrefl a h
theorem lt_tri (a b : List UInt8) : a < b ∨ a = b ∨ b < a := by
  by_cases h1 : a < b
  · exact .inl h1
  · by_cases h2 : b < a
    · exact .inr (.inr h2)
    · exact .inr (.inl (List.le_antisymm (List.not_lt.1 h2) (List.not_lt.1 h1)))
theorem Asc.dist {l : List S70} (h : Asc l) : Dist l := h.imp lt_ne
theorem cof_none : ∀ {l : List S70} {s : ByteArray}, (∀ x ∈ l, x.f0.toList ≠ s.toList) → cof l s = 0
  | [], _, _ => rfl
  | x :: xs, s, h => by
    unfold cof coefL
    rw [if_neg (h x List.mem_cons_self)]
    exact cof_none (fun y hy => h y (List.mem_cons_of_mem _ hy))
theorem cof_mem : ∀ {l : List S70}, Dist l → ∀ {x : S70} {s : ByteArray}, x ∈ l → x.f0.toList = s.toList → cof l s = x.f1
  | [], _, x, _, hx, _ => by simp at hx
  | y :: ys, hd, x, s, hx, e => by
    unfold cof coefL
    rcases List.mem_cons.1 hx with rfl | hx
    · rw [if_pos e]
    · have := (List.pairwise_cons.1 hd).1 x hx
      rw [if_neg (fun h => this (h.trans e.symm))]
      exact cof_mem (List.pairwise_cons.1 hd).2 hx e
theorem cof_cases (l : List S70) (hd : Dist l) (s : ByteArray) : (∃ x ∈ l, x.f0.toList = s.toList ∧ cof l s = x.f1) ∨ ((∀ x ∈ l, x.f0.toList ≠ s.toList) ∧ cof l s = 0) := by
  by_cases h : ∃ x ∈ l, x.f0.toList = s.toList
  · obtain ⟨x, hx, e⟩ := h
    exact .inl ⟨x, hx, e, cof_mem hd hx e⟩
  · have h' : ∀ x ∈ l, x.f0.toList ≠ s.toList := fun x hx e => h ⟨x, hx, e⟩
    exact .inr ⟨h', cof_none h'⟩
theorem cof_congr (l : List S70) {s q : ByteArray} (h : s.toList = q.toList) : cof l s = cof l q := by
  induction l with
  | nil => rfl
  | cons x xs ih =>
    unfold cof coefL
    rw [h]
    by_cases e : x.f0.toList = q.toList
    · rw [if_pos e, if_pos e]
    · rw [if_neg e, if_neg e]
      exact ih
theorem dist_perm {l m : List S70} (h : l.Perm m) (hd : Dist l) : Dist m := (h.pairwise_iff (fun {a b} h e => h e.symm)).1 hd
theorem cof_perm {l m : List S70} (h : l.Perm m) (hd : Dist l) (s : ByteArray) : cof m s = cof l s := by
  rcases cof_cases l hd s with ⟨x, hx, e, hv⟩ | ⟨hn, hv⟩
  · rw [hv]
    exact cof_mem (dist_perm h hd) (h.mem_iff.1 hx) e
  · rw [hv]
    exact cof_none fun x hx => hn x (h.mem_iff.2 hx)
theorem bytes_inj {a b : ByteArray} (h : a.toList = b.toList) : a = b := by
  rw [toList_data, toList_data] at h
  obtain ⟨⟨a⟩⟩ := a
  obtain ⟨⟨b⟩⟩ := b
  simp at h
  rw [h]
theorem asc_ext : ∀ (l m : List S70), Asc l → Asc m → (∀ x ∈ l, x.f1 ≠ 0) → (∀ x ∈ m, x.f1 ≠ 0) → (∀ s, cof l s = cof m s) → l = m
  | [], [], _, _, _, _, _ => rfl
  | [], y :: ys, _, _, _, hm, h => by
    have := h y.f0
    unfold cof coefL at this
    rw [if_pos rfl] at this
    exact absurd this.symm (hm y List.mem_cons_self)
  | x :: xs, [], _, _, hl, _, h => by
    have := h x.f0
    unfold cof coefL at this
    rw [if_pos rfl] at this
    exact absurd this (hl x List.mem_cons_self)
  | x :: xs, y :: ys, ax, ay, hl, hm, h => by
    have ax' := List.pairwise_cons.1 ax
    have ay' := List.pairwise_cons.1 ay
    have cx : cof (x :: xs) x.f0 = x.f1 := cof_mem ax.dist List.mem_cons_self rfl
    have cy : cof (y :: ys) y.f0 = y.f1 := cof_mem ay.dist List.mem_cons_self rfl
    rcases lt_tri x.f0.toList y.f0.toList with hlt | heq | hgt
    · have : cof (y :: ys) x.f0 = 0 := cof_none fun z hz e => by
        rcases List.mem_cons.1 hz with rfl | hz
        · exact lt_ne hlt e.symm
        · exact lt_ne (List.lt_trans hlt (ay'.1 z hz)) e.symm
      rw [← h, cx] at this
      exact absurd this (hl x List.mem_cons_self)
    · have e1 : x.f1 = y.f1 := by
        rw [← cx, h, cof_congr _ heq, cy]
      have e0 : x.f0 = y.f0 := bytes_inj heq
      have exy : x = y := by
        obtain ⟨a, b⟩ := x
        obtain ⟨c, d⟩ := y
        simp at e0 e1
        rw [e0, e1]
      subst exy
      congr 1
      refine asc_ext xs ys ax'.2 ay'.2 (fun z hz => hl z (List.mem_cons_of_mem _ hz)) (fun z hz => hm z (List.mem_cons_of_mem _ hz)) fun s => ?_
      by_cases e : x.f0.toList = s.toList
      · rw [cof_none (fun z hz q => lt_ne (ax'.1 z hz) (e.trans q.symm)), cof_none (fun z hz q => lt_ne (ay'.1 z hz) (e.trans q.symm))]
      · have := h s
        unfold cof coefL at this
        rw [if_neg e, if_neg e] at this
        exact this
    · have : cof (x :: xs) y.f0 = 0 := cof_none fun z hz e => by
        rcases List.mem_cons.1 hz with rfl | hz
        · exact lt_ne hgt e.symm
        · exact lt_ne (List.lt_trans hgt (ax'.1 z hz)) e.symm
      rw [h, cy] at this
      exact absurd this (hm y List.mem_cons_self)
theorem less_eqL : ∀ (x y : List UInt8), Op.bytesLess x y = decide (x < y)
  | [], [] => by simp [Op.bytesLess]
  | _ :: _, [] => by simp [Op.bytesLess]
  | [], _ :: _ => by simp [Op.bytesLess]
  | a :: x, b :: y => by
    rw [Op.bytesLess, less_eqL x y]
    simp only [List.cons_lt_cons_iff]
    by_cases h1 : a < b <;> by_cases h2 : a = b <;> by_cases h3 : x < y <;> simp [h1, h2, h3]
theorem affOkL_asc : ∀ (l : List S70) (p : Option ByteArray), affOkL S70.f0 S70.f1 p l = true → Asc l ∧ ∀ q, p = some q → ∀ x ∈ l, q.toList < x.f0.toList
  | [], p, _ => ⟨List.Pairwise.nil, fun _ _ x hx => by simp at hx⟩
  | x :: xs, p, h => by
    simp only [affOkL, Bool.and_eq_true] at h
    obtain ⟨⟨_, h4⟩, h5⟩ := h
    obtain ⟨i1, i2⟩ := affOkL_asc xs _ h5
    refine ⟨List.pairwise_cons.2 ⟨i2 _ rfl, i1⟩, fun q hq y hy => ?_⟩
    subst hq
    simp only [lessO, less_eqL, decide_eq_true_eq] at h4
    rcases List.mem_cons.1 hy with rfl | hy
    · exact h4
    · exact List.lt_trans h4 (i2 _ rfl y hy)
theorem affOkL_of : ∀ (l : List S70) (p : Option ByteArray), Asc l → (∀ x ∈ l, nameS x.f0 = true ∧ x.f1 ≠ 0 ∧ coefOk x.f1 = true) → (∀ q, p = some q → ∀ x ∈ l, q.toList < x.f0.toList) → affOkL S70.f0 S70.f1 p l = true
  | [], _, _, _, _ => rfl
  | x :: xs, p, ha, hx, hp => by
    have ha' := List.pairwise_cons.1 ha
    obtain ⟨h1, h2, h3⟩ := hx x List.mem_cons_self
    unfold affOkL
    rw [h1, h3, affOkL_of xs _ ha'.2 (fun y hy => hx y (List.mem_cons_of_mem _ hy)) (fun q hq y hy => by
      injection hq with hq
      subst hq
      exact ha'.1 y hy)]
    have h4 : lessO p x.f0 = true := by
      cases p with
      | none => rfl
      | some q =>
        simp only [lessO, less_eqL, decide_eq_true_eq]
        exact hp q rfl x List.mem_cons_self
    rw [h4, decide_eq_false h2]
    rfl
/-! ### one sum, and so many times another one -/
def mixA (b : List S70) (t : Int) : List S70 → List S70
  | [] => []
  | x :: xs => if x.f1 + t * cof b x.f0 = 0 then mixA b t xs else ⟨x.f0, x.f1 + t * cof b x.f0⟩ :: mixA b t xs
def mixB (a : List S70) (t : Int) : List S70 → List S70
  | [] => []
  | y :: ys => if t * y.f1 = 0 then mixB a t ys else if cof a y.f0 = 0 then ⟨y.f0, t * y.f1⟩ :: mixB a t ys else mixB a t ys
def mixL (a b : List S70) (t : Int) : List S70 := mixA b t a ++ mixB a t b
theorem mixA_cons (b : List S70) (t : Int) (x : S70) (xs : List S70) : mixA b t (x :: xs) = if x.f1 + t * cof b x.f0 = 0 then mixA b t xs else ⟨x.f0, x.f1 + t * cof b x.f0⟩ :: mixA b t xs := by rw [mixA]
theorem mixB_cons (a : List S70) (t : Int) (y : S70) (ys : List S70) : mixB a t (y :: ys) = if t * y.f1 = 0 then mixB a t ys else if cof a y.f0 = 0 then ⟨y.f0, t * y.f1⟩ :: mixB a t ys else mixB a t ys := by rw [mixB]
theorem mixA_mem {b : List S70} {t : Int} : ∀ {l : List S70} {z : S70}, z ∈ mixA b t l ↔ ∃ x ∈ l, z = ⟨x.f0, x.f1 + t * cof b x.f0⟩ ∧ x.f1 + t * cof b x.f0 ≠ 0
  | [], z => by simp [mixA]
  | x :: xs, z => by
    unfold mixA
    by_cases c : x.f1 + t * cof b x.f0 = 0
    · rw [if_pos c, mixA_mem]
      constructor
      · rintro ⟨y, hy, h⟩
        exact ⟨y, List.mem_cons_of_mem _ hy, h⟩
      · rintro ⟨y, hy, h1, h2⟩
        rcases List.mem_cons.1 hy with rfl | hy
        · exact absurd c h2
        · exact ⟨y, hy, h1, h2⟩
    · rw [if_neg c, List.mem_cons, mixA_mem]
      constructor
      · rintro (rfl | ⟨y, hy, h⟩)
        · exact ⟨x, List.mem_cons_self, rfl, c⟩
        · exact ⟨y, List.mem_cons_of_mem _ hy, h⟩
      · rintro ⟨y, hy, h1, h2⟩
        rcases List.mem_cons.1 hy with rfl | hy
        · exact .inl h1
        · exact .inr ⟨y, hy, h1, h2⟩
theorem mixB_mem {a : List S70} {t : Int} : ∀ {l : List S70} {z : S70}, z ∈ mixB a t l ↔ ∃ y ∈ l, z = ⟨y.f0, t * y.f1⟩ ∧ t * y.f1 ≠ 0 ∧ cof a y.f0 = 0
  | [], z => by simp [mixB]
  | x :: xs, z => by
    unfold mixB
    have step : (∃ y ∈ xs, z = ⟨y.f0, t * y.f1⟩ ∧ t * y.f1 ≠ 0 ∧ cof a y.f0 = 0) → ∃ y ∈ x :: xs, z = ⟨y.f0, t * y.f1⟩ ∧ t * y.f1 ≠ 0 ∧ cof a y.f0 = 0 := fun ⟨y, hy, h⟩ => ⟨y, List.mem_cons_of_mem _ hy, h⟩
    by_cases c : t * x.f1 = 0
    · rw [if_pos c, mixB_mem]
      refine ⟨step, ?_⟩
      rintro ⟨y, hy, h1, h2, h3⟩
      rcases List.mem_cons.1 hy with rfl | hy
      · exact absurd c h2
      · exact ⟨y, hy, h1, h2, h3⟩
    · rw [if_neg c]
      by_cases d : cof a x.f0 = 0
      · rw [if_pos d, List.mem_cons, mixB_mem]
        constructor
        · rintro (rfl | h)
          · exact ⟨x, List.mem_cons_self, rfl, c, d⟩
          · exact step h
        · rintro ⟨y, hy, h1, h2, h3⟩
          rcases List.mem_cons.1 hy with rfl | hy
          · exact .inl h1
          · exact .inr ⟨y, hy, h1, h2, h3⟩
      · rw [if_neg d, mixB_mem]
        refine ⟨step, ?_⟩
        rintro ⟨y, hy, h1, h2, h3⟩
        rcases List.mem_cons.1 hy with rfl | hy
        · exact absurd h3 d
        · exact ⟨y, hy, h1, h2, h3⟩
theorem mixA_dist {b : List S70} {t : Int} : ∀ {l : List S70}, Dist l → Dist (mixA b t l)
  | [], _ => List.Pairwise.nil
  | x :: xs, h => by
    have h' := List.pairwise_cons.1 h
    unfold mixA
    split
    · exact mixA_dist h'.2
    · refine List.pairwise_cons.2 ⟨fun z hz => ?_, mixA_dist h'.2⟩
      obtain ⟨y, hy, rfl, _⟩ := mixA_mem.1 hz
      exact h'.1 y hy
theorem mixB_dist {a : List S70} {t : Int} : ∀ {l : List S70}, Dist l → Dist (mixB a t l)
  | [], _ => List.Pairwise.nil
  | x :: xs, h => by
    have h' := List.pairwise_cons.1 h
    unfold mixB
    split
    · exact mixB_dist h'.2
    · split
      · refine List.pairwise_cons.2 ⟨fun z hz => ?_, mixB_dist h'.2⟩
        obtain ⟨y, hy, rfl, _⟩ := mixB_mem.1 hz
        exact h'.1 y hy
      · exact mixB_dist h'.2
theorem mixL_dist {a b : List S70} {t : Int} (ha : Dist a) (hb : Dist b) (hna : ∀ x ∈ a, x.f1 ≠ 0) : Dist (mixL a b t) := by
  refine List.pairwise_append.2 ⟨mixA_dist ha, mixB_dist hb, fun z hz q hq e => ?_⟩
  obtain ⟨x, hx, rfl, _⟩ := mixA_mem.1 hz
  obtain ⟨y, hy, rfl, _, h0⟩ := mixB_mem.1 hq
  exact hna x hx ((cof_mem ha hx e).symm.trans h0)
theorem mixL_nz {a b : List S70} {t : Int} : ∀ z ∈ mixL a b t, z.f1 ≠ 0 := fun z hz => by
  rcases List.mem_append.1 hz with hz | hz
  · obtain ⟨x, _, rfl, h⟩ := mixA_mem.1 hz
    exact h
  · obtain ⟨y, _, rfl, h, _⟩ := mixB_mem.1 hz
    exact h
theorem mixL_cof {a b : List S70} {t : Int} (ha : Dist a) (hb : Dist b) (hna : ∀ x ∈ a, x.f1 ≠ 0) (s : ByteArray) : cof (mixL a b t) s = cof a s + t * cof b s := by
  have hd := mixL_dist (t := t) ha hb hna
  rcases cof_cases a ha s with ⟨x, hx, e, hv⟩ | ⟨hn, hv⟩
  · have ec : cof b x.f0 = cof b s := cof_congr b e
    rw [hv]
    by_cases c : x.f1 + t * cof b x.f0 = 0
    · rw [← ec, c]
      refine cof_none fun z hz => ?_
      rcases List.mem_append.1 hz with hz | hz
      · obtain ⟨y, hy, rfl, h⟩ := mixA_mem.1 hz
        intro q
        have e1 : cof a s = y.f1 := cof_mem ha hy q
        have e2 : cof b y.f0 = cof b s := cof_congr b q
        apply h
        show y.f1 + t * cof b y.f0 = 0
        rw [e2, ← e1, hv, ← ec]
        exact c
      · obtain ⟨y, hy, rfl, _, h0⟩ := mixB_mem.1 hz
        intro q
        have e1 : cof a y.f0 = cof a s := cof_congr a q
        rw [e1, hv] at h0
        exact hna x hx h0
    · have := cof_mem (s := s) hd (List.mem_append_left _ (mixA_mem.2 ⟨x, hx, rfl, c⟩)) e
      rw [this, ← ec]
  · rw [hv, Int.zero_add]
    rcases cof_cases b hb s with ⟨y, hy, e, hw⟩ | ⟨hn2, hw⟩
    · rw [hw]
      have e0 : cof a y.f0 = 0 := (cof_congr a e).trans hv
      by_cases c : t * y.f1 = 0
      · rw [c]
        refine cof_none fun z hz => ?_
        rcases List.mem_append.1 hz with hz | hz
        · obtain ⟨x, hx, rfl, _⟩ := mixA_mem.1 hz
          exact hn x hx
        · obtain ⟨q, hq, rfl, h1, _⟩ := mixB_mem.1 hz
          intro r
          have e1 : cof b s = q.f1 := cof_mem hb hq r
          rw [hw] at e1
          rw [e1] at c
          exact h1 c
      · exact cof_mem (s := s) hd (List.mem_append_right _ (mixB_mem.2 ⟨y, hy, rfl, c, e0⟩)) e
    · rw [hw, Int.mul_zero]
      refine cof_none fun z hz => ?_
      rcases List.mem_append.1 hz with hz | hz
      · obtain ⟨x, hx, rfl, _⟩ := mixA_mem.1 hz
        exact hn x hx
      · obtain ⟨q, hq, rfl, _⟩ := mixB_mem.1 hz
        exact hn2 q hq
theorem mixA_len {b : List S70} {t : Int} : ∀ (l : List S70), (mixA b t l).length ≤ l.length
  | [] => Nat.le_refl _
  | x :: xs => by
    have := mixA_len (b := b) (t := t) xs
    unfold mixA
    split <;> simp <;> omega
theorem mixB_len {a : List S70} {t : Int} : ∀ (l : List S70), (mixB a t l).length ≤ l.length
  | [] => Nat.le_refl _
  | x :: xs => by
    have := mixB_len (a := a) (t := t) xs
    unfold mixB
    split
    · simp; omega
    · split <;> simp <;> omega
theorem mixL_name {a b : List S70} {t : Int} {z : S70} (hz : z ∈ mixL a b t) : ∃ x, (x ∈ a ∨ x ∈ b) ∧ z.f0 = x.f0 := by
  rcases List.mem_append.1 hz with hz | hz
  · obtain ⟨x, hx, rfl, _⟩ := mixA_mem.1 hz
    exact ⟨x, .inl hx, rfl⟩
  · obtain ⟨y, hy, rfl, _⟩ := mixB_mem.1 hz
    exact ⟨y, .inr hy, rfl⟩
/-! ### in order -/
theorem sorted_spec (l : List S70) (hd : Dist l) : Asc (impl_Term_75.sorted l) ∧ l.Perm (impl_Term_75.sorted l) := by
  have h := Go.Sort.pdq_sorts (ltOf impl_Term_75.cf) impl_Term_75.swo l.toArray 0 l.toArray.size (Go.Lib.bitLen l.toArray.size) true true (Nat.zero_le _) (Nat.le_refl _) (Or.inl rfl)
  have hS : impl_Term_75.sorted l = (Go.Sort.pdq (ltOf impl_Term_75.cf) l.toArray 0 l.toArray.size (Go.Lib.bitLen l.toArray.size) true true).toList := rfl
  generalize Go.Sort.pdq (ltOf impl_Term_75.cf) l.toArray 0 l.toArray.size (Go.Lib.bitLen l.toArray.size) true true = d at h hS
  obtain ⟨⟨hs, _, hp⟩, ho⟩ := h
  have hp' : l.Perm (impl_Term_75.sorted l) := by
    rw [hS]
    have e1 : d.extract 0 l.toArray.size = d := by
      rw [← hs]
      simp
    have e2 : l.toArray.extract 0 l.toArray.size = l.toArray := by simp
    rw [e1, e2] at hp
    exact hp.symm
  refine ⟨?_, hp'⟩
  have hd' := dist_perm hp' hd
  rw [hS] at hd' ⊢
  refine List.pairwise_iff_getElem.2 fun i j hi hj hij => ?_
  have hne := List.pairwise_iff_getElem.1 hd' i j hi hj hij
  have hj' : j < d.size := by simpa using hj
  have hi' : i < d.size := by omega
  have := ho i j (Nat.zero_le _) hij (by rw [← hs]; exact hj')
  rw [getElem!_pos d j hj', getElem!_pos d i hi', impl_Term_75.lt_eq, decide_eq_false_iff_not] at this
  have ei : d.toList[i] = d[i] := by simp
  have ej : d.toList[j] = d[j] := by simp
  rw [ei, ej] at hne ⊢
  rcases lt_tri d[i].f0.toList d[j].f0.toList with h | h | h
  · exact h
  · exact absurd h hne
  · exact absurd h this
theorem sorted_mix {a b : List S70} {t : Int} (ha : Asc a) (hb : Asc b) (hna : ∀ x ∈ a, x.f1 ≠ 0) :
    Asc (impl_Term_75.sorted (mixL a b t)) ∧ (∀ x ∈ impl_Term_75.sorted (mixL a b t), x.f1 ≠ 0 ∧ x ∈ mixL a b t) ∧ (∀ s, cof (impl_Term_75.sorted (mixL a b t)) s = cof a s + t * cof b s) := by
  have hd := mixL_dist (t := t) ha.dist hb.dist hna
  obtain ⟨h1, h2⟩ := sorted_spec _ hd
  exact ⟨h1, fun x hx => ⟨mixL_nz x (h2.mem_iff.2 hx), h2.mem_iff.2 hx⟩, fun s => (cof_perm h2 hd s).trans (mixL_cof ha.dist hb.dist hna s)⟩
/-- What the program makes of two right sums. -/
def mixS (a0 : Int) (a : List S70) (b0 : Int) (b : List S70) (t : Int) : Int × List S70 × Bool :=
  if affOkS S70.f0 S70.f1 (a0 + t * b0) (impl_Term_75.sorted (mixL a b t)) = true then (a0 + t * b0, impl_Term_75.sorted (mixL a b t), true) else (0, [], false)
theorem mul_bd {t n : Int} (ht : t = 1 ∨ t = -1) (h1 : -100000 ≤ n) (h2 : n ≤ 100000) : -100000 ≤ t * n ∧ t * n ≤ 100000 := by
  rcases ht with rfl | rfl <;> omega
theorem cof_bd {l : List S70} (h : ∀ x ∈ l, -100000 ≤ x.f1 ∧ x.f1 ≤ 100000) (s : ByteArray) : -100000 ≤ cof l s ∧ cof l s ≤ 100000 := by
  induction l with
  | nil => exact ⟨by simp [cof, coefL], by simp [cof, coefL]⟩
  | cons x xs ih =>
    unfold cof coefL
    split
    · exact h x List.mem_cons_self
    · exact ih fun y hy => h y (List.mem_cons_of_mem _ hy)
theorem impl_mix_l1_ev (a0 : Int) (a : List S70) (t c : Int) (ht : t = 1 ∨ t = -1) (b : List S70) (la : a.length ≤ 1048579) (lb : b.length ≤ 1048579) (hb : ∀ x ∈ b, -100000 ≤ x.f1 ∧ x.f1 ≤ 100000)
    (R : Int × List S70 × Bool) (acc : List S70) (hacc : acc.length ≤ 1048579)
    (hfin : Ev (fun k => (impl_Term_75.f (acc ++ mixB a t b)).bind fun t124 => (impl_AffOk.f k c t124).bind fun t125 => (if t125 = true then (some (c, t124, true)) else (some (0, ([] : List S70), false)))) R) :
    Ev (fun k => impl_mix.l1 k t b (b.length : Int) 0 a0 a c acc) R := by
  have key : ∀ d i, i + d = b.length → ∀ ac : List S70, ac.length ≤ 1048579 + i → ac ++ mixB a t (b.drop i) = acc ++ mixB a t b → Ev (fun k => impl_mix.l1 k t b (b.length : Int) (i : Int) a0 a c ac) R := by
    intro d
    induction d with
    | zero =>
      intro i hi ac hac e
      have c1 : ¬ (i : Int) < (b.length : Int) := by omega
      refine Ev.step (fun k => by rw [impl_mix.l1]) ?_
      simp only [c1, if_false]
      have e' : ac = acc ++ mixB a t b := by
        rw [← e, List.drop_eq_nil_of_le (by omega)]
        simp [mixB]
      rw [e']
      exact hfin
    | succ d ih =>
      intro i hi ac hac e
      have c1 : (i : Int) < (b.length : Int) := by omega
      have c0 : (0 : Int) ≤ (i : Int) := by omega
      have hw : wrap64 ((i : Int) + 1) = ((i + 1 : Nat) : Int) := wi (n := b.length) (by omega) (by simp only [maxLen]; omega)
      have hm : rd_T70 b (i : Int) ∈ b := by
        unfold rd_T70
        rw [Int.toNat_natCast]
        exact getD_mem b _ (by omega)
      have hdr : b.drop i = rd_T70 b (i : Int) :: b.drop (i + 1) := by
        unfold rd_T70
        rw [Int.toNat_natCast]
        exact drop_cons b _ (by omega)
      have bd := hb _ hm
      have mb := mul_bd ht bd.1 bd.2
      have w1 : wrap64 (t * (rd_T70 b (i : Int)).f1) = t * (rd_T70 b (i : Int)).f1 := w64 (by omega) (by omega)
      rw [hdr, mixB_cons] at e
      refine Ev.step (fun k => by rw [impl_mix.l1]) ?_
      simp only [c1, c0, if_true, w1, hw]
      by_cases z : t * (rd_T70 b (i : Int)).f1 = 0
      · rw [if_pos z] at e
        simp only [z, if_true]
        exact ih (i + 1) (by omega) ac (Nat.le_succ_of_le hac) e
      · rw [if_neg z] at e
        simp only [z, if_false]
        refine Ev.then (impl_CoefOf_ev a0 a _ (by simp only [maxLen]; omega)) ?_
        by_cases z2 : cof a (rd_T70 b (i : Int)).f0 = 0
        · rw [if_pos z2] at e
          have c5 : ac.length < 5864062014805 := by omega
          simp only [show coefL S70.f0 S70.f1 a (rd_T70 b (i : Int)).f0 = 0 from z2, if_true, c5]
          exact ih (i + 1) (by omega) _ (by simp; omega) (by rw [← e]; simp)
        · rw [if_neg z2] at e
          simp only [show ¬ coefL S70.f0 S70.f1 a (rd_T70 b (i : Int)).f0 = 0 from z2, if_false]
          exact ih (i + 1) (by omega) ac (Nat.le_succ_of_le hac) e
  exact key b.length 0 (by omega) acc (by omega) (by simp)
theorem impl_mix_ev (a0 : Int) (a : List S70) (b0 : Int) (b : List S70) (t : Int) (ht : t = 1 ∨ t = -1) (la : a.length ≤ 1048579) (lb : b.length ≤ 1048579)
    (ha : ∀ x ∈ a, -100000 ≤ x.f1 ∧ x.f1 ≤ 100000) (hb : ∀ x ∈ b, -100000 ≤ x.f1 ∧ x.f1 ≤ 100000) (sa : ∀ x ∈ a, x.f0.size ≤ maxLen) (sb : ∀ x ∈ b, x.f0.size ≤ maxLen)
    (pa : -100000 ≤ a0 ∧ a0 ≤ 100000) (pb : -100000 ≤ b0 ∧ b0 ≤ 100000) (da : Asc a) (db : Asc b) (na : ∀ x ∈ a, x.f1 ≠ 0) : Ev (fun k => impl_mix.f k a0 a b0 b t) (mixS a0 a b0 b t) := by
  have m0 := mul_bd ht pb.1 pb.2
  have w0 : wrap64 (t * b0) = t * b0 := w64 (by omega) (by omega)
  have w1 : wrap64 (a0 + t * b0) = a0 + t * b0 := w64 (by omega) (by omega)
  have hlen : (mixL a b t).length ≤ 3000000 := by
    have l1 := mixA_len (b := b) (t := t) a
    have l2 := mixB_len (a := a) (t := t) b
    unfold mixL
    rw [List.length_append]
    omega
  have hperm := (sorted_spec _ (mixL_dist (t := t) da.dist db.dist na)).2
  have hfin : Ev (fun k => (impl_Term_75.f (mixL a b t)).bind fun t124 => (impl_AffOk.f k (a0 + t * b0) t124).bind fun t125 => (if t125 = true then (some (a0 + t * b0, t124, true)) else (some (0, ([] : List S70), false)))) (mixS a0 a b0 b t) := by
    have hl : (mixL a b t).length < 4611686018427387904 := by omega
    have hsl : (impl_Term_75.sorted (mixL a b t)).length ≤ maxLen := by
      rw [← hperm.length_eq]
      simp only [maxLen]
      omega
    have hss : ∀ x ∈ impl_Term_75.sorted (mixL a b t), x.f0.size ≤ maxLen := fun x hx => by
      obtain ⟨y, hy, e⟩ := mixL_name (hperm.mem_iff.2 hx)
      rw [e]
      exact hy.elim (sa y) (sb y)
    unfold impl_Term_75.f mixS
    simp only [hl, if_true, Option.bind_some]
    refine Ev.then (impl_AffOk_ev _ _ hsl hss) ?_
    cases affOkS S70.f0 S70.f1 (a0 + t * b0) (impl_Term_75.sorted (mixL a b t)) with
    | true =>
      simp only [if_true]
      exact Ev.now _
    | false =>
      simp only [Bool.false_eq_true, if_false]
      exact Ev.now _
  unfold impl_mix.f
  simp only [w0, w1]
  have key : ∀ d i, i + d = a.length → ∀ ac : List S70, ac.length ≤ i → ac ++ mixA b t (a.drop i) = mixA b t a → Ev (fun k => impl_mix.l0 k t a (a.length : Int) (i : Int) a0 a b0 b (a0 + t * b0) ac) (mixS a0 a b0 b t) := by
    intro d
    induction d with
    | zero =>
      intro i hi ac hac e
      have c1 : ¬ (i : Int) < (a.length : Int) := by omega
      refine Ev.step (fun k => by rw [impl_mix.l0]) ?_
      simp only [c1, if_false]
      have e' : ac = mixA b t a := by
        rw [← e, List.drop_eq_nil_of_le (by omega)]
        simp [mixA]
      rw [e']
      exact impl_mix_l1_ev a0 a t _ ht b la lb hb _ _ (by have := mixA_len (b := b) (t := t) a; omega) hfin
    | succ d ih =>
      intro i hi ac hac e
      have c5 : ac.length < 5864062014805 := by omega
      have c1 : (i : Int) < (a.length : Int) := by omega
      have c0 : (0 : Int) ≤ (i : Int) := by omega
      have hw : wrap64 ((i : Int) + 1) = ((i + 1 : Nat) : Int) := wi (n := a.length) (by omega) (by simp only [maxLen]; omega)
      have hm : rd_T70 a (i : Int) ∈ a := by
        unfold rd_T70
        rw [Int.toNat_natCast]
        exact getD_mem a _ (by omega)
      have hdr : a.drop i = rd_T70 a (i : Int) :: a.drop (i + 1) := by
        unfold rd_T70
        rw [Int.toNat_natCast]
        exact drop_cons a _ (by omega)
      have bd := ha _ hm
      have cb := cof_bd hb (rd_T70 a (i : Int)).f0
      have mb := mul_bd ht cb.1 cb.2
      have w2 : wrap64 (t * cof b (rd_T70 a (i : Int)).f0) = t * cof b (rd_T70 a (i : Int)).f0 := w64 (by omega) (by omega)
      have w3 : wrap64 ((rd_T70 a (i : Int)).f1 + t * cof b (rd_T70 a (i : Int)).f0) = (rd_T70 a (i : Int)).f1 + t * cof b (rd_T70 a (i : Int)).f0 := w64 (by omega) (by omega)
      rw [hdr, mixA_cons] at e
      refine Ev.step (fun k => by rw [impl_mix.l0]) ?_
      simp only [c1, c0, if_true, hw]
      refine Ev.then (impl_CoefOf_ev b0 b _ (by simp only [maxLen]; omega)) ?_
      simp only [show coefL S70.f0 S70.f1 b (rd_T70 a (i : Int)).f0 = cof b (rd_T70 a (i : Int)).f0 from rfl, w2, w3]
      by_cases z : (rd_T70 a (i : Int)).f1 + t * cof b (rd_T70 a (i : Int)).f0 = 0
      · rw [if_pos z] at e
        simp only [z, if_true]
        exact ih (i + 1) (by omega) ac (Nat.le_succ_of_le hac) e
      · rw [if_neg z] at e
        simp only [z, if_false, c5, if_true]
        exact ih (i + 1) (by omega) _ (by simp; omega) (by rw [← e]; simp)
  exact key a.length 0 (by omega) [] (by simp) (by simp)
/-! ### sums of drawn sums -/
def Small (n : Int) (l : List S70) : Prop := ∀ x ∈ l, -n ≤ x.f1 ∧ x.f1 ≤ n
/-- A right sum whose numbers are no greater than `p`. -/
structure OkA (p : Int) (c : Int) (l : List S70) : Prop where
  ok : affOkS S70.f0 S70.f1 c l = true
  sm : Small p l
  lo : -p ≤ c
  hi : c ≤ p
  p0 : 0 ≤ p
  len : l.length ≤ 1048579
  sz : ∀ x ∈ l, x.f0.size ≤ maxLen
theorem OkA.asc {p c : Int} {l : List S70} (h : OkA p c l) : Asc l := by
  have := h.ok
  unfold affOkS at this
  exact (affOkL_asc l none (Bool.and_eq_true .. ▸ this).1).1
theorem OkA.mem {p c : Int} {l : List S70} (h : OkA p c l) : ∀ x ∈ l, nameS x.f0 = true ∧ x.f1 ≠ 0 ∧ -100000 ≤ x.f1 ∧ x.f1 ≤ 100000 := by
  have := h.ok
  unfold affOkS at this
  exact affOkL_mem _ _ l none (Bool.and_eq_true .. ▸ this).1
theorem cof_small {n : Int} (h0 : 0 ≤ n) {l : List S70} (h : Small n l) (s : ByteArray) : -n ≤ cof l s ∧ cof l s ≤ n := by
  induction l with
  | nil => exact ⟨by simp [cof, coefL]; omega, by simp [cof, coefL]; omega⟩
  | cons x xs ih =>
    unfold cof coefL
    split
    · exact h x List.mem_cons_self
    · exact ih fun y hy => h y (List.mem_cons_of_mem _ hy)
theorem mul_sm {t n m : Int} (ht : t = 1 ∨ t = -1) (h1 : -m ≤ n) (h2 : n ≤ m) : -m ≤ t * n ∧ t * n ≤ m := by
  rcases ht with rfl | rfl <;> omega
theorem mix_small {p q t : Int} (ht : t = 1 ∨ t = -1) (hp : 0 ≤ p) (hq : 0 ≤ q) {a b : List S70} (ha : Small p a) (hb : Small q b) : Small (p + q) (mixL a b t) := fun z hz => by
  rcases List.mem_append.1 hz with hz | hz
  · obtain ⟨x, hx, rfl, _⟩ := mixA_mem.1 hz
    have h1 := ha x hx
    have h2 := cof_small hq hb x.f0
    have h3 := mul_sm ht h2.1 h2.2
    show -(p + q) ≤ x.f1 + t * cof b x.f0 ∧ x.f1 + t * cof b x.f0 ≤ p + q
    omega
  · obtain ⟨y, hy, rfl, _⟩ := mixB_mem.1 hz
    have h1 := hb y hy
    have h3 := mul_sm ht h1.1 h1.2
    show -(p + q) ≤ t * y.f1 ∧ t * y.f1 ≤ p + q
    omega
theorem OkA.mix {p q t c d : Int} (ht : t = 1 ∨ t = -1) {a b : List S70} (ha : OkA p c a) (hb : OkA q d b) (hpq : p + q ≤ 100000) (hl : a.length + b.length ≤ 1048579) :
    OkA (p + q) (c + t * d) (impl_Term_75.sorted (mixL a b t)) ∧ mixS c a d b t = (c + t * d, impl_Term_75.sorted (mixL a b t), true) ∧ (∀ s, cof (impl_Term_75.sorted (mixL a b t)) s = cof a s + t * cof b s) ∧ (∀ z ∈ impl_Term_75.sorted (mixL a b t), ∃ x, (x ∈ a ∨ x ∈ b) ∧ z.f0 = x.f0) := by
  have hna : ∀ x ∈ a, x.f1 ≠ 0 := fun x hx => (ha.mem x hx).2.1
  obtain ⟨h1, h2, h3⟩ := sorted_mix (t := t) ha.asc hb.asc hna
  have hperm := (sorted_spec _ (mixL_dist (t := t) ha.asc.dist hb.asc.dist hna)).2
  have sm := mix_small ht ha.p0 hb.p0 ha.sm hb.sm
  have sm' : Small (p + q) (impl_Term_75.sorted (mixL a b t)) := fun z hz => sm z (h2 z hz).2
  have hc := mul_sm ht hb.lo hb.hi
  have b1 := ha.lo
  have b2 := ha.hi
  have b3 := ha.p0
  have b4 := hb.p0
  have ok : affOkS S70.f0 S70.f1 (c + t * d) (impl_Term_75.sorted (mixL a b t)) = true := by
    unfold affOkS
    rw [affOkL_of _ none h1 (fun x hx => ?_) (fun q hq => by cases hq)]
    · simp only [coefOk, Bool.true_and, Bool.and_eq_true, decide_eq_true_eq]
      omega
    · obtain ⟨y, hy, e⟩ := mixL_name (h2 x hx).2
      have := sm' x hx
      refine ⟨?_, (h2 x hx).1, ?_⟩
      · rw [e]
        exact hy.elim (fun h => (ha.mem y h).1) (fun h => (hb.mem y h).1)
      · simp only [coefOk, Bool.and_eq_true, decide_eq_true_eq]
        omega
  refine ⟨⟨ok, sm', by omega, by omega, by omega, ?_, fun x hx => ?_⟩, ?_, h3, fun z hz => mixL_name (h2 z hz).2⟩
  · rw [← hperm.length_eq]
    have l1 := mixA_len (b := b) (t := t) a
    have l2 := mixB_len (a := a) (t := t) b
    unfold mixL
    rw [List.length_append]
    omega
  · obtain ⟨y, hy, e⟩ := mixL_name (h2 x hx).2
    rw [e]
    exact hy.elim (ha.sz y) (hb.sz y)
  · unfold mixS
    rw [if_pos ok]
theorem mix_ok_ev {p q t c d : Int} (ht : t = 1 ∨ t = -1) {a b : List S70} (ha : OkA p c a) (hb : OkA q d b) (hp : p ≤ 100000) (hq : q ≤ 100000) : Ev (fun k => impl_mix.f k c a d b t) (mixS c a d b t) :=
  impl_mix_ev c a d b t ht ha.len hb.len (fun x hx => (ha.mem x hx).2.2) (fun x hx => (hb.mem x hx).2.2) ha.sz hb.sz ⟨by have := ha.lo; omega, by have := ha.hi; omega⟩ ⟨by have := hb.lo; omega, by have := hb.hi; omega⟩ ha.asc hb.asc (fun x hx => (ha.mem x hx).2.1)
theorem OkA.ev {p c : Int} {l : List S70} (h : OkA p c l) : Ev (fun k => impl_AffOk.f k c l) true := by
  have := impl_AffOk_ev c l (by have := h.len; simp only [maxLen]; omega) h.sz
  rwa [h.ok] at this
theorem impl_AddA_okev {p q c d : Int} {a b : List S70} (ha : OkA p c a) (hb : OkA q d b) (hp : p ≤ 100000) (hq : q ≤ 100000) : Ev (fun k => impl_AddA.f k c a d b) (mixS c a d b 1) := by
  unfold impl_AddA.f
  refine Ev.then ha.ev ?_
  simp only [if_true]
  refine Ev.then hb.ev ?_
  simp only [if_true]
  exact Ev.then (mix_ok_ev (.inl rfl) ha hb hp hq) (Ev.now _)
theorem impl_SubA_okev {p q c d : Int} {a b : List S70} (ha : OkA p c a) (hb : OkA q d b) (hp : p ≤ 100000) (hq : q ≤ 100000) : Ev (fun k => impl_SubA.f k c a d b) (mixS c a d b (-1)) := by
  unfold impl_SubA.f
  refine Ev.then ha.ev ?_
  simp only [if_true]
  refine Ev.then hb.ev ?_
  simp only [if_true]
  exact Ev.then (mix_ok_ev (.inr rfl) ha hb hp hq) (Ev.now _)
theorem laws_sameAff_refl (c : Int) (l : List S70) (hl : l.length ≤ maxLen) : Ev (fun k => laws_sameAff.f k c l c l) true := by
  unfold laws_sameAff.f
  simp only [if_true, bne_self_eq_false]
  refine Ev.step (fun k => by rw [laws_sameAff.j0]) ?_
  simp only [Bool.false_eq_true, if_false]
  have key : ∀ d i, i + d = l.length → Ev (fun k => laws_sameAff.l0 k (i : Int) c l c l) true := by
    intro d
    induction d with
    | zero =>
      intro i hi
      refine Ev.step (fun k => by rw [laws_sameAff.l0]) ?_
      have c1 : ¬ (i : Int) < (l.length : Int) := by omega
      simp only [c1, if_false]
      exact Ev.now _
    | succ d ih =>
      intro i hi
      refine Ev.step (fun k => by rw [laws_sameAff.l0]) ?_
      have c1 : (i : Int) < (l.length : Int) := by omega
      have c0 : (0 : Int) ≤ (i : Int) := by omega
      have hw : wrap64 ((i : Int) + 1) = ((i + 1 : Nat) : Int) := wi (n := l.length) (by omega) hl
      simp only [c1, c0, if_true, beq_self_eq_true, Bool.not_true, Bool.or_self, Bool.false_eq_true, if_false, hw]
      exact ih (i + 1) (by omega)
  exact key l.length 0 (by omega)
/-! ### what a sum is worth -/
def sumB (g : ByteArray → Int) : List S70 → Int
  | [] => 0
  | x :: xs => x.f1 * g x.f0 + sumB g xs
theorem affAtL_eq (bs : List S76) : ∀ (l : List S70) (c : Int), wrap64 c = c → affAtL S70.f0 S70.f1 S76.f0 S76.f1 bs l c = wrap64 (c + sumB (boundS S76.f0 S76.f1 bs) l)
  | [], c, h => by
    unfold affAtL sumB
    rw [Int.add_zero, h]
  | x :: xs, c, h => by
    unfold affAtL sumB
    have hw : ∀ y : Int, wrap64 (wrap64 y) = wrap64 y := fun y => by
      have := wrap64_range y
      exact w64 this.1 this.2
    rw [affAtL_eq bs xs _ (hw _)]
    generalize x.f1 * boundS S76.f0 S76.f1 bs x.f0 = u
    generalize sumB _ xs = v
    unfold wrap64
    omega
/-- Names of a drawn sum. -/
def Nm (l : List S70) : Prop := ∀ x ∈ l, x.f0 = sI ∨ x.f0 = sJ ∨ x.f0 = sK
theorem neIJK : (¬ sI.toList = sJ.toList) ∧ (¬ sI.toList = sK.toList) ∧ (¬ sJ.toList = sK.toList) := by decide +kernel
theorem cof_head (x : S70) (xs : List S70) (s : ByteArray) (h : x.f0.toList = s.toList) : cof (x :: xs) s = x.f1 := by
  unfold cof coefL
  rw [if_pos h]
theorem cof_tail (x : S70) (xs : List S70) (s : ByteArray) (h : ¬ x.f0.toList = s.toList) : cof (x :: xs) s = cof xs s := by
  unfold cof
  rw [coefL, if_neg h]
theorem sumB_three (g : ByteArray → Int) : ∀ (l : List S70), Dist l → Nm l → sumB g l = cof l sI * g sI + cof l sJ * g sJ + cof l sK * g sK
  | [], _, _ => by simp [sumB, cof, coefL]
  | x :: xs, hd, hn => by
    have hd' := List.pairwise_cons.1 hd
    have ih := sumB_three g xs hd'.2 (fun y hy => hn y (List.mem_cons_of_mem _ hy))
    have h0 : cof xs x.f0 = 0 := cof_none fun y hy e => hd'.1 y hy e.symm
    obtain ⟨n1, n2, n3⟩ := neIJK
    unfold sumB
    rw [ih]
    rcases hn x List.mem_cons_self with e | e | e
    · rw [e] at h0
      rw [cof_head x xs sI (by rw [e]), cof_tail x xs sJ (by rw [e]; exact n1), cof_tail x xs sK (by rw [e]; exact n2), h0, e]
      omega
    · rw [e] at h0
      rw [cof_tail x xs sI (by rw [e]; exact fun h => n1 h.symm), cof_head x xs sJ (by rw [e]), cof_tail x xs sK (by rw [e]; exact n3), h0, e]
      omega
    · rw [e] at h0
      rw [cof_tail x xs sI (by rw [e]; exact fun h => n2 h.symm), cof_tail x xs sJ (by rw [e]; exact fun h => n3 h.symm), cof_head x xs sK (by rw [e]), h0, e]
      omega
theorem sumB_mix (g : ByteArray → Int) {a b r : List S70} {t : Int} (ha : Dist a) (hb : Dist b) (hr : Dist r) (na : Nm a) (nb : Nm b) (nr : Nm r) (h : ∀ s, cof r s = cof a s + t * cof b s) : sumB g r = sumB g a + t * sumB g b := by
  rw [sumB_three g a ha na, sumB_three g b hb nb, sumB_three g r hr nr, h sI, h sJ, h sK]
  simp only [Int.add_mul, Int.mul_add, Int.mul_assoc]
  omega
/-! ### what is drawn -/
theorem drawn_names (o1 o2 o3 : Option Int) : Nm (optT sI o1 ++ optT sJ o2 ++ optT sK o3) := by
  have key : ∀ s o, ∀ x ∈ optT s o, x.f0 = s := by
    intro s o x hx
    cases o with
    | none => simp [optT] at hx
    | some n =>
      simp only [optT, List.mem_cons, List.not_mem_nil, or_false] at hx
      rw [hx]
  intro x hx
  simp only [List.mem_append] at hx
  rcases hx with (hx | hx) | hx
  · exact .inl (key _ _ x hx)
  · exact .inr (.inl (key _ _ x hx))
  · exact .inr (.inr (key _ _ x hx))
theorem drawn_small {o1 o2 o3 : Option Int} (t1 : TermD o1) (t2 : TermD o2) (t3 : TermD o3) : Small 8 (optT sI o1 ++ optT sJ o2 ++ optT sK o3) := by
  have key : ∀ s o, TermD o → ∀ x ∈ optT s o, -8 ≤ x.f1 ∧ x.f1 ≤ 8 := by
    intro s o t x hx
    cases o with
    | none => simp [optT] at hx
    | some n =>
      have hb := vO_bd t
      simp only [vO, Option.getD_some] at hb
      simp only [optT, List.mem_cons, List.not_mem_nil, or_false] at hx
      rw [hx]
      show -8 ≤ n ∧ n ≤ 8
      omega
  intro x hx
  simp only [List.mem_append] at hx
  rcases hx with (hx | hx) | hx
  · exact key _ _ t1 x hx
  · exact key _ _ t2 x hx
  · exact key _ _ t3 x hx
theorem drawn_OkA {o1 o2 o3 : Option Int} (t1 : TermD o1) (t2 : TermD o2) (t3 : TermD o3) {c : Int} (c1 : -4 ≤ c) (c2 : c ≤ 8) : OkA 8 c (optT sI o1 ++ optT sJ o2 ++ optT sK o3) := by
  have hs := drawn_size o1 o2 o3
  exact ⟨drawn_ok o1 o2 o3 t1 t2 t3 c c1 c2, drawn_small t1 t2 t3, by omega, by omega, by omega, by omega, fun x hx => by have := hs.2 x hx; simp only [maxLen]; omega⟩
theorem spec_l8Binds_ex {l : List Int} {i : Int} (h : Int) (hi : At l i) : ∃ bs i' h', Ev (fun k => spec_l8Binds.f k l i h) (bs, i', h') ∧ bs.length ≤ 4 ∧ At l i' := by
  have key : ∀ n : Nat, ∀ (acc : List S76) (i h : Int), At l i → acc.length + n ≤ 4 → ∃ bs i' h', Ev (fun k => spec_l8Binds.l0 k acc (n : Int) l i h) (bs, i', h') ∧ bs.length ≤ 4 ∧ At l i' := by
    intro n
    induction n with
    | zero =>
      intro acc i h hi ha
      refine ⟨acc, i, h, Ev.step (fun k => by rw [spec_l8Binds.l0]) ?_, by omega, hi⟩
      have c : ¬ ((0 : Nat) : Int) > 0 := by omega
      simp only [c, if_false]
      exact Ev.now _
    | succ n ih =>
      intro acc i h hi ha
      obtain ⟨s, i1, h1, e1, _, c1⟩ := spec_l1Str_ex h [(⟨#[105]⟩ : ByteArray), (⟨#[106]⟩ : ByteArray), (⟨#[107]⟩ : ByteArray), (⟨#[120]⟩ : ByteArray)] hi (by decide) (by decide)
      obtain ⟨b, i2, h2, e2, p2, q2, c2⟩ := spec_l1Below_ex h1 20 c1 (by omega) (by omega)
      obtain ⟨bs, i', h', e3, l3, c3⟩ := ih (acc ++ [⟨s, wrap64 (b - 5)⟩]) i2 h2 c2 (by simp; omega)
      refine ⟨bs, i', h', Ev.step (fun k => by rw [spec_l8Binds.l0]) ?_, l3, c3⟩
      have c : ((n + 1 : Nat) : Int) > 0 := by omega
      have cl : acc.length < 5864062014805 := by omega
      have hw : wrap64 (((n + 1 : Nat) : Int) - 1) = (n : Int) := by
        rw [w64 (by omega) (by omega)]
        omega
      simp only [c, if_true, e1, e2, Option.bind_some, cl, hw]
      exact e3
  unfold spec_l8Binds.f
  obtain ⟨b, i1, h1, e1, p1, q1, c1⟩ := spec_l1Below_ex h 5 hi (by omega) (by omega)
  obtain ⟨n, rfl⟩ : ∃ n : Nat, b = (n : Int) := ⟨b.toNat, by omega⟩
  simp only [e1, Option.bind_some]
  exact key n [] i1 h1 c1 (by simp; omega)
theorem affs_l0 (bs : List S76) (hb : bs.length ≤ 4) {p q r u : Int} {c d e f : Int} {a b s m : List S70} (ha : OkA p c a) (hb2 : OkA q d b) (hs : OkA r e s) (hm : OkA u f m)
    (na : Nm a) (nb : Nm b) (ns : Nm s) (nm : Nm m) (e1 : e = c + 1 * d) (e2 : f = c + (-1) * d) (h1 : ∀ x, cof s x = cof a x + 1 * cof b x) (h2 : ∀ x, cof m x = cof a x + (-1) * cof b x)
    (bp : p ≤ 1000) (bq : q ≤ 1000) (br : r ≤ 1000) (bu : u ≤ 1000) :
    Ev (fun k => laws_FnAffs.l0 k bs [sI, sJ, sK] 0 c a d b e s f m) true := by
  have la : a.length ≤ maxLen := by have := ha.len; simp only [maxLen]; omega
  have lb : b.length ≤ maxLen := by have := hb2.len; simp only [maxLen]; omega
  have ls : s.length ≤ maxLen := by have := hs.len; simp only [maxLen]; omega
  have lm : m.length ≤ maxLen := by have := hm.len; simp only [maxLen]; omega
  have lbs : bs.length ≤ maxLen := by simp only [maxLen]; omega
  have round : ∀ (j : Nat) (x : ByteArray), j < 3 → rdOf ByteArray.empty [sI, sJ, sK] (j : Int) = x → ∀ R, Ev (fun k => laws_FnAffs.l0 k bs [sI, sJ, sK] ((j + 1 : Nat) : Int) c a d b e s f m) R → Ev (fun k => laws_FnAffs.l0 k bs [sI, sJ, sK] (j : Int) c a d b e s f m) R := by
    intro j x hj hx R hR
    have g1 : (j : Int) < 3 := by omega
    have g2 : (0 : Int) ≤ (j : Int) := by omega
    have g3 : (j : Int) < (([sI, sJ, sK] : List ByteArray).length : Int) := by
      have : ([sI, sJ, sK] : List ByteArray).length = 3 := rfl
      omega
    have hw : wrap64 ((j : Int) + 1) = ((j + 1 : Nat) : Int) := by rw [w64 (by omega) (by omega)]; omega
    refine Ev.step (fun k => by rw [laws_FnAffs.l0]) ?_
    simp only [g1, g2, g3, if_true, hx, hw]
    refine Ev.then (impl_CoefOf_ev e s x ls) (Ev.then (impl_CoefOf_ev c a x la) (Ev.then (impl_CoefOf_ev d b x lb) ?_))
    have ca := cof_small ha.p0 ha.sm x
    have cb := cof_small hb2.p0 hb2.sm x
    have hv : coefL S70.f0 S70.f1 s x = wrap64 (coefL S70.f0 S70.f1 a x + coefL S70.f0 S70.f1 b x) := by
      have := h1 x
      simp only [cof] at this ca cb
      rw [w64 (by omega) (by omega), this]
      omega
    simp only [eq_true hv, if_true]
    exact hR
  refine round 0 sI (by omega) rfl _ (round 1 sJ (by omega) rfl _ (round 2 sK (by omega) rfl _ ?_))
  refine Ev.step (fun k => by rw [laws_FnAffs.l0]) ?_
  have g : ¬ ((2 + 1 : Nat) : Int) < 3 := by omega
  simp only [g, if_false]
  have b1 := ha.lo
  have b2 := ha.hi
  have b3 := hb2.lo
  have b4 := hb2.hi
  have b5 := hs.lo
  have b6 := hs.hi
  have b7 := hm.lo
  have b8 := hm.hi
  have va := affAtL_eq bs a c (w64 (by omega) (by omega))
  have vb := affAtL_eq bs b d (w64 (by omega) (by omega))
  have vs := affAtL_eq bs s e (w64 (by omega) (by omega))
  have vm := affAtL_eq bs m f (w64 (by omega) (by omega))
  have ms := sumB_mix (boundS S76.f0 S76.f1 bs) ha.asc.dist hb2.asc.dist hs.asc.dist na nb ns h1
  have mm := sumB_mix (boundS S76.f0 S76.f1 bs) ha.asc.dist hb2.asc.dist hm.asc.dist na nb nm h2
  have Ea := impl_AffAt_ev c a bs la lbs
  have Eb := impl_AffAt_ev d b bs lb lbs
  have Es := impl_AffAt_ev e s bs ls lbs
  have Em := impl_AffAt_ev f m bs lm lbs
  rw [va] at Ea
  rw [vb] at Eb
  rw [vs, ms] at Es
  rw [vm, mm] at Em
  generalize sumB (boundS S76.f0 S76.f1 bs) a = A at *
  generalize sumB (boundS S76.f0 S76.f1 bs) b = B at *
  refine Ev.then Es (Ev.then Ea (Ev.then Eb ?_))
  have q1 : wrap64 (e + (A + 1 * B)) = wrap64 (wrap64 (c + A) + wrap64 (d + B)) := by
    subst e1
    unfold wrap64
    omega
  have q2 : wrap64 (f + (A + (-1) * B)) = wrap64 (wrap64 (c + A) - wrap64 (d + B)) := by
    subst e2
    unfold wrap64
    omega
  simp only [eq_true q1, if_true]
  refine Ev.then Em (Ev.then Ea (Ev.then Eb ?_))
  rw [q2, beq_self_eq_true]
  exact Ev.now _
theorem FnAffs : laws_FnAffs.Pure := by
  intro l0 hl hl2 hx
  apply Ev.rounds
  unfold laws_FnAffs.f laws_big.f
  simp only [Option.bind_some]
  by_cases big : (l0.length : Int) > 1048576
  · simp only [big, decide_true, if_true]
    exact Ev.now _
  simp only [big, decide_false, Bool.false_eq_true, if_false]
  obtain ⟨h0, E0⟩ := spec_l1New_ev l0 hl
  have at0 : At l0 0 := ⟨hl, Int.le_refl _, by omega⟩
  obtain ⟨c, o1, o2, o3, i1, h1, E1, c1, c2, t1, t2, t3, at1⟩ := spec_l8Draw_ex h0 at0
  obtain ⟨d, p1, p2, p3, i2, h2, E2, d1, d2, u1, u2, u3, at2⟩ := spec_l8Draw_ex h1 at1
  obtain ⟨bs, i3, h3, E3, lb, at3⟩ := spec_l8Binds_ex h2 at2
  have ha := drawn_OkA t1 t2 t3 c1 c2
  have hb := drawn_OkA u1 u2 u3 d1 d2
  have na := drawn_names o1 o2 o3
  have nb := drawn_names p1 p2 p3
  have s1 := (drawn_size o1 o2 o3).1
  have s2 := (drawn_size p1 p2 p3).1
  generalize optT sI o1 ++ optT sJ o2 ++ optT sK o3 = a at *
  generalize optT sI p1 ++ optT sJ p2 ++ optT sK p3 = b at *
  have ED : Ev (fun k => spec_DrawAffs.f k l0) (c, a, d, b, bs) := by
    unfold spec_DrawAffs.f
    exact Ev.then E0 (Ev.then E1 (Ev.then E2 (Ev.then E3 (Ev.now _))))
  refine Ev.then ED ?_
  obtain ⟨k1, m1, f1, n1⟩ := ha.mix (t := 1) (.inl rfl) hb (by omega) (by omega)
  obtain ⟨k2, m2, f2, n2⟩ := ha.mix (t := -1) (.inr rfl) hb (by omega) (by omega)
  have Nm_of : ∀ r : List S70, (∀ z ∈ r, ∃ x, (x ∈ a ∨ x ∈ b) ∧ z.f0 = x.f0) → Nm r := fun r h z hz => by
    obtain ⟨x, hx, e⟩ := h z hz
    rw [e]
    exact hx.elim (na x) (nb x)
  have ns := Nm_of _ n1
  have nm := Nm_of _ n2
  have EA := impl_AddA_okev ha hb (by omega) (by omega)
  have ES := impl_SubA_okev ha hb (by omega) (by omega)
  rw [m1] at EA
  rw [m2] at ES
  have ls : (impl_Term_75.sorted (mixL a b 1)).length ≤ 6 := by
    have hperm := (sorted_spec _ (mixL_dist (t := 1) ha.asc.dist hb.asc.dist fun x hx => (ha.mem x hx).2.1)).2
    rw [← hperm.length_eq]
    have l1 := mixA_len (b := b) (t := 1) a
    have l2 := mixB_len (a := a) (t := 1) b
    unfold mixL
    rw [List.length_append]
    omega
  generalize impl_Term_75.sorted (mixL a b 1) = s at *
  generalize impl_Term_75.sorted (mixL a b (-1)) = m at *
  obtain ⟨k3, m3, f3, n3⟩ := k1.mix (t := -1) (.inr rfl) hb (by omega) (by omega)
  have EZ := impl_SubA_okev k1 hb (by omega) (by omega)
  rw [m3] at EZ
  have hz : impl_Term_75.sorted (mixL s b (-1)) = a := asc_ext _ _ k3.asc ha.asc (fun x hx => (k3.mem x hx).2.1) (fun x hx => (ha.mem x hx).2.1) fun x => by
    rw [f3, f1]
    omega
  rw [hz, show c + 1 * d + -1 * d = c by omega] at EZ
  refine Ev.then EA (Ev.then ES (Ev.then EZ ?_))
  simp only [if_true]
  refine Ev.then (laws_sameAff_refl c a (by simp only [maxLen]; omega)) ?_
  simp only [if_true]
  refine Ev.then k1.ev ?_
  simp only [if_true]
  refine Ev.then k2.ev ?_
  refine Ev.step (fun k => by rw [laws_FnAffs.j0]) ?_
  simp only [Bool.not_true, Bool.false_eq_true, if_false]
  exact affs_l0 bs lb ha hb k1 k2 na nb ns nm rfl rfl f1 f2 (by omega) (by omega) (by omega) (by omega)

end Go.Proofs.Ytmomablfmhkppaa.Pure
