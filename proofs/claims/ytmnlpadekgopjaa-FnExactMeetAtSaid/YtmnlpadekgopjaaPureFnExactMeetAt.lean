/- The pure statement of FnExactMeetAt: what the printed functions compute makes the law answer true. Conditions: those in the statement. -/
import Derived.Test.YtmnlpadekgopjaaLem
import Derived.Test.YtmnlpadekgopjaaPFnExactMeetAtx0
import Derived.Test.YtmnlpadekgopjaaPFnExactMeetAtx1
import Derived.Test.YtmnlpadekgopjaaPFnExactMeetAtx2
import Derived.Test.YtmnlpadekgopjaaPFnExactMeetAtx3
import Derived.Test.YtmnlpadekgopjaaPFnExactMeetAtx4
import Derived.Test.YtmnlpadekgopjaaPFnExactMeetAtx5
import Derived.Test.YtmnlpadekgopjaaPFnExactMeetAtx6
import Derived.Test.YtmnlpadekgopjaaPFnExactMeetAtx7
import Derived.Test.YtmnlpadekgopjaaPFnExactMeetAtx8
import Derived.Test.YtmnlpadekgopjaaPFnExactMeetAtx9
import Derived.Test.YtmnlpadekgopjaaPFnExactMeetAtx10
namespace Go.Proofs.Ytmnlpadekgopjaa.Pure
open Go.RowKit Go.Proofs.Ytmnlpadekgopjaa.PFnExactMeetAt Go.Proofs.YtmnlpadekgopjaaW.PrintWords Go.Proofs.YtmnlpadekgopjaaW.PrintLast Go.Proofs.YtmnlpadekgopjaaW.PrintMore Go.Proofs.Ytmnlpadekgopjaa.Lem
set_option linter.unusedVariables false
set_option linter.unusedSimpArgs false

theorem spec_l1In_eq (a b c : Int) : spec_l1In.f a b c = some (decide (b ≤ a) && decide (a ≤ c)) := by
  unfold spec_l1In.f
  by_cases h : a ≥ b
  · have h' : b ≤ a := h
    simp [h']
  · have h' : ¬ b ≤ a := h
    simp [h']
theorem impl_inRange_eq (a b c : Int) : impl_inRange.f a b c = some (decide (b ≤ a) && decide (a ≤ c)) := by
  unfold impl_inRange.f
  by_cases h : a ≥ b
  · have h' : b ≤ a := h
    simp [h']
  · have h' : ¬ b ≤ a := h
    simp [h']
theorem impl_isLetter_eq (a : Int) : impl_isLetter.f a = some (decide (97 ≤ a) && decide (a ≤ 122)) := by
  unfold impl_isLetter.f
  by_cases h : a ≥ 97
  · have h' : 97 ≤ a := h
    simp [h']
  · have h' : ¬ 97 ≤ a := h
    simp [h']
theorem spec_l2Small_eq (a : Int) (h0 : 0 ≤ a) (h1 : a ≤ 255) : spec_l2Small.f a = some (decide (97 ≤ a) && decide (a ≤ 122)) := by
  unfold spec_l2Small.f
  rw [w64 (by omega) (by omega), spec_l1In_eq]
  rfl
theorem spec_l2Has_ev (xs : List ByteArray) (s : ByteArray) (hn : xs.length ≤ maxLen) : Ev (fun k => spec_l2Has.f k xs s) (xs.any fun x => x.toList == s.toList) := by
  unfold spec_l2Has.f
  have key : ∀ d i, i + d = xs.length → Ev (fun k => spec_l2Has.l0 k xs s (i : Int)) ((xs.drop i).any fun x => x.toList == s.toList) := by
    intro d
    induction d with
    | zero =>
      intro i hi
      refine Ev.step (fun k => by rw [spec_l2Has.l0]) ?_
      have c : ¬ (i : Int) < (xs.length : Int) := by omega
      simp only [c, if_false]
      rw [List.drop_eq_nil_of_le (by omega)]
      exact Ev.now _
    | succ d ih =>
      intro i hi
      refine Ev.step (fun k => by rw [spec_l2Has.l0]) ?_
      have c : (i : Int) < (xs.length : Int) := by omega
      have c0 : (0 : Int) ≤ (i : Int) := by omega
      have hw : wrap64 ((i : Int) + 1) = ((i + 1 : Nat) : Int) := wi (by omega) hn
      have hd : xs.drop i = rdOf ByteArray.empty xs (i : Int) :: xs.drop (i + 1) := by
        rw [List.drop_eq_getElem_cons (by omega)]
        simp [rdOf, List.getElem?_eq_getElem (show i < xs.length by omega)]
      rw [hd, List.any_cons]
      simp only [c, c0, if_true, hw]
      by_cases e : (rdOf ByteArray.empty xs (i : Int)).toList = s.toList
      · simp only [e, if_true, beq_self_eq_true, Bool.true_or]
        exact Ev.now _
      · simp only [e, if_false]
        have e' : ((rdOf ByteArray.empty xs (i : Int)).toList == s.toList) = false := by simpa using e
        rw [e', Bool.false_or]
        exact ih (i + 1) (by omega)
  have := key xs.length 0 (by omega)
  simpa using this
theorem spec_l2Kept_ev (s : ByteArray) : Ev (fun k => spec_l2Kept.f k s) (keptS s) := by
  unfold spec_l2Kept.f
  refine Ev.then (spec_l2Has_ev _ s (by simp [maxLen])) ?_
  have : (List.any [(⟨#[97, 114, 114, 97, 121]⟩ : ByteArray), (⟨#[102, 111, 114]⟩ : ByteArray), (⟨#[116, 111]⟩ : ByteArray), (⟨#[112, 114, 105, 110, 116]⟩ : ByteArray), (⟨#[109, 105, 110]⟩ : ByteArray), (⟨#[109, 97, 120]⟩ : ByteArray)] fun x => x.toList == s.toList) = keptS s := by
    simp only [keptS, keptL, List.any_cons, List.any_nil, toList_data]
  rw [this]
  exact Ev.now _
theorem impl_isKept_eq (s : ByteArray) : impl_isKept.f s = some (keptS s) := by
  unfold impl_isKept.f keptS keptL
  have hb : ∀ l : List UInt8, decide (s.toList = l) = (l == s.toList) := fun l => by
    by_cases h : s.toList = l
    · rw [decide_eq_true h, ← h, beq_self_eq_true]
    · rw [decide_eq_false h, beq_eq_false_iff_ne.mpr (fun e => h e.symm)]
  simp only [if_or, hb, List.any_cons, List.any_nil]
theorem spec_NameOk_ev (s : ByteArray) (hn : s.size ≤ maxLen) : Ev (fun k => spec_NameOk.f k s) (nameS s) := by
  unfold spec_NameOk.f nameS
  refine Ev.run (g := fun k i (_ : Unit) => spec_NameOk.l0 k s i) _ _ ?_ ?_ ()
  · intro i u hi
    have c : (i : Int) < (s.size : Int) := by omega
    have c0 : (0 : Int) ≤ (i : Int) := by omega
    have hw : wrap64 ((i : Int) + 1) = ((i + 1 : Nat) : Int) := wi hi hn
    have hl : spec_l2Small.f (bt s (i : Int)) = some (letS s i) := spec_l2Small_eq _ (bt_range s i).1 (bt_range s i).2
    cases e : letS s i with
    | true =>
      simp only [if_true]
      intro r hr
      refine Ev.step (fun k => by rw [spec_NameOk.l0]) ?_
      simp only [c, c0, if_true, hl, e, Option.bind_some, hw]
      exact hr
    | false =>
      simp only [Bool.false_eq_true, if_false]
      refine Ev.step (fun k => by rw [spec_NameOk.l0]) ?_
      simp only [c, c0, if_true, hl, e, Option.bind_some, Bool.false_eq_true, if_false]
      exact Ev.now _
  · intro u
    refine Ev.step (fun k => by rw [spec_NameOk.l0]) ?_
    have c : ¬ (s.size : Int) < (s.size : Int) := by omega
    simp only [c, if_false, spec_l1In_eq, Option.bind_some]
    have e1 : (decide ((1 : Int) ≤ (s.size : Int)) && decide ((s.size : Int) ≤ 6)) = (decide (1 ≤ s.size) && decide (s.size ≤ 6)) := by
      rw [Bool.eq_iff_iff]
      simp
      omega
    rw [e1]
    cases e : (decide (1 ≤ s.size) && decide (s.size ≤ 6)) with
    | true =>
      simp only [if_true, Bool.true_and]
      exact Ev.then (spec_l2Kept_ev s) (Ev.now _)
    | false =>
      simp only [Bool.false_eq_true, if_false, Bool.false_and]
      exact Ev.now _
theorem impl_NameOk_ev (s : ByteArray) (hn : s.size ≤ maxLen) : Ev (fun k => impl_NameOk.f k s) (nameS s) := by
  unfold impl_NameOk.f nameS
  refine Ev.run (g := fun k i (_ : Unit) => impl_NameOk.l0 k s i) _ _ ?_ ?_ ()
  · intro i u hi
    have c : (i : Int) < (s.size : Int) := by omega
    have c0 : (0 : Int) ≤ (i : Int) := by omega
    have hw : wrap64 ((i : Int) + 1) = ((i + 1 : Nat) : Int) := wi hi hn
    have hl : impl_isLetter.f (bt s (i : Int)) = some (letS s i) := impl_isLetter_eq _
    cases e : letS s i with
    | true =>
      simp only [if_true]
      intro r hr
      refine Ev.step (fun k => by rw [impl_NameOk.l0]) ?_
      simp only [c, c0, if_true, hl, e, Option.bind_some, hw]
      exact hr
    | false =>
      simp only [Bool.false_eq_true, if_false]
      refine Ev.step (fun k => by rw [impl_NameOk.l0]) ?_
      simp only [c, c0, if_true, hl, e, Option.bind_some, Bool.false_eq_true, if_false]
      exact Ev.now _
  · intro u
    refine Ev.step (fun k => by rw [impl_NameOk.l0]) ?_
    have c : ¬ (s.size : Int) < (s.size : Int) := by omega
    simp only [c, if_false, impl_inRange_eq, Option.bind_some]
    have e1 : (decide ((1 : Int) ≤ (s.size : Int)) && decide ((s.size : Int) ≤ 6)) = (decide (1 ≤ s.size) && decide (s.size ≤ 6)) := by
      rw [Bool.eq_iff_iff]
      simp
      omega
    rw [e1]
    cases e : (decide (1 ≤ s.size) && decide (s.size ≤ 6)) with
    | true =>
      simp only [if_true, Bool.true_and, impl_isKept_eq, Option.bind_some]
      exact Ev.now _
    | false =>
      simp only [Bool.false_eq_true, if_false, Bool.false_and]
      exact Ev.now _

def cvTerm (x : S76) : S67 := ⟨x.f0, x.f1⟩
theorem szTerm_one (y : S76) (hs : y.f0.size ≤ maxLen) (a : Int) (h0 : 0 ≤ a) (h1 : a ≤ 1048576) : ∃ t, laws_szTerm.f y.f0 y.f1 a = some t ∧ (t < 0 ∨ 0 ≤ t ∧ t ≤ 1048576) := by
  unfold laws_szTerm.f
  simp only [maxLen] at hs
  rw [w64 (x := a - (y.f0.size : Int)) (by omega) (by omega)]
  by_cases c : a - (y.f0.size : Int) < 0
  · exact ⟨-1, by rw [if_pos c], .inl (by omega)⟩
  · exact ⟨_, by rw [if_neg c], .inr (by omega)⟩
theorem szTermS_ev (l : List S76) (hl : l.length ≤ maxLen) (hs : ∀ x ∈ l, x.f0.size ≤ maxLen) (a : Int) (h0 : 0 ≤ a) (h1 : a ≤ 1048576) :
    ∃ t, Ev (fun k => laws_szTermS.f k l a) t ∧ (t < 0 ∨ 0 ≤ t ∧ t ≤ 1048576 ∧ l.length ≤ 1048576) := by
  unfold laws_szTermS.f
  have hl' := hl
  simp only [maxLen] at hl'
  rw [w64 (x := a - (l.length : Int)) (by omega) (by omega)]
  by_cases c : a - (l.length : Int) < 0
  · simp only [c, if_true]
    exact ⟨-1, Ev.now _, .inl (by omega)⟩
  · simp only [c, if_false]
    have key : ∀ d i, i + d = l.length → ∀ x : Int, 0 ≤ x → x ≤ 1048576 → ∃ t, Ev (fun k => laws_szTermS.l0 k l x (i : Int)) t ∧ (t < 0 ∨ 0 ≤ t ∧ t ≤ 1048576) := by
      intro d
      induction d with
      | zero =>
        intro i hi x hx0 hx1
        refine ⟨x, Ev.step (fun k => by rw [laws_szTermS.l0]) ?_, .inr ⟨hx0, hx1⟩⟩
        have c : ¬ (i : Int) < (l.length : Int) := by omega
        simp only [c, if_false]
        exact Ev.now _
      | succ d ih =>
        intro i hi x hx0 hx1
        have c : (i : Int) < (l.length : Int) := by omega
        have c0 : (0 : Int) ≤ (i : Int) := by omega
        have hw : wrap64 ((i : Int) + 1) = ((i + 1 : Nat) : Int) := wi (n := l.length) (by omega) hl
        have hr : rd_T76 l (i : Int) ∈ l := getD_mem l _ (by omega)
        obtain ⟨t, ht, h2⟩ := szTerm_one (rd_T76 l (i : Int)) (hs _ hr) x hx0 hx1
        by_cases c2 : t < 0
        · refine ⟨-1, Ev.step (fun k => by rw [laws_szTermS.l0]) ?_, .inl (by omega)⟩
          simp only [c, c0, if_true, ht, Option.bind_some, c2]
          exact Ev.now _
        · obtain ⟨q, h3, h4⟩ := ih (i + 1) (by omega) t (by omega) (by omega)
          refine ⟨q, Ev.step (fun k => by rw [laws_szTermS.l0]) ?_, h4⟩
          simp only [c, c0, if_true, ht, Option.bind_some, c2, if_false, hw]
          exact h3
    obtain ⟨t, h2, h3⟩ := key l.length 0 (by omega) (a - (l.length : Int)) (by omega) (by omega)
    exact ⟨t, h2, h3.imp id fun h => ⟨h.1, h.2, by omega⟩⟩
theorem toTermS_ev (l : List S76) (hl : l.length ≤ 1048576) : Ev (fun k => laws_toTermS.f k l) (l.map cvTerm) := by
  unfold laws_toTermS.f
  have c1 : (0 : Int) ≤ (l.length : Int) := by omega
  have c2 : ((l.length : Int) : Int).toNat ≤ 11728124029610 := by omega
  simp only [c1, c2, if_true]
  have key : ∀ d i, i + d = l.length → Ev (fun k => laws_toTermS.l0 k l ((l.take i).map cvTerm ++ List.replicate d z67) (i : Int)) (l.map cvTerm) := by
    intro d
    induction d with
    | zero =>
      intro i hi
      refine Ev.step (fun k => by rw [laws_toTermS.l0]) ?_
      have c : ¬ (i : Int) < (l.length : Int) := by omega
      simp only [c, if_false]
      have : l.take i = l := List.take_of_length_le (by omega)
      rw [this]
      simpa using Ev.now (List.map cvTerm l)
    | succ d ih =>
      intro i hi
      refine Ev.step (fun k => by rw [laws_toTermS.l0]) ?_
      have c : (i : Int) < (l.length : Int) := by omega
      have c0 : (0 : Int) ≤ (i : Int) := by omega
      have hw : wrap64 ((i : Int) + 1) = ((i + 1 : Nat) : Int) := wi (n := l.length) (by omega) (by simp only [maxLen]; omega)
      have c3 : (i : Int) < ((((l.take i).map cvTerm ++ List.replicate (d + 1) z67).length : Nat) : Int) := by
        rw [List.length_append, List.length_map, List.length_take, List.length_replicate]
        omega
      simp only [c, c0, if_true, laws_toTerm.f, Option.bind_some, c3, hw]
      have e : (((l.take i).map cvTerm ++ List.replicate (d + 1) z67).set ((i : Int) : Int).toNat (cvTerm (rd_T76 l (i : Int)))) = (l.take (i + 1)).map cvTerm ++ List.replicate d z67 := by
        have hg : rd_T76 l (i : Int) = l[i]'(by omega) := by
          simp [rd_T76, List.getElem?_eq_getElem (show i < l.length by omega)]
        rw [hg, Int.toNat_natCast, List.take_add_one, List.getElem?_eq_getElem (show i < l.length by omega)]
        rw [List.set_append_right _ _ (by simp; omega)]
        have : i - ((l.take i).map cvTerm).length = 0 := by simp; omega
        rw [this, List.replicate_succ, List.set_cons_zero]
        simp only [Option.toList_some, List.map_append, List.map_cons, List.map_nil, List.append_assoc, List.cons_append, List.nil_append]
      have h2 := ih (i + 1) (by omega)
      rw [← e] at h2
      exact h2
  have h0 := key l.length 0 (by omega)
  simpa using h0
theorem eqTerm_one (x : S67) : laws_eqTerm.f x.f0 x.f1 x.f0 x.f1 = some true := by
  unfold laws_eqTerm.f
  simp
theorem eqTermS_ev (l : List S67) (hl : l.length ≤ maxLen) : Ev (fun k => laws_eqTermS.f k l l) true := by
  unfold laws_eqTermS.f
  simp only [if_true]
  have key : ∀ d i, i + d = l.length → Ev (fun k => laws_eqTermS.l0 k l l (i : Int)) true := by
    intro d
    induction d with
    | zero =>
      intro i hi
      refine Ev.step (fun k => by rw [laws_eqTermS.l0]) ?_
      have c : ¬ (i : Int) < (l.length : Int) := by omega
      simp only [c, if_false]
      exact Ev.now _
    | succ d ih =>
      intro i hi
      refine Ev.step (fun k => by rw [laws_eqTermS.l0]) ?_
      have c : (i : Int) < (l.length : Int) := by omega
      have c0 : (0 : Int) ≤ (i : Int) := by omega
      have hw : wrap64 ((i : Int) + 1) = ((i + 1 : Nat) : Int) := wi (n := l.length) (by omega) hl
      simp only [c, c0, if_true, eqTerm_one (rd_T67 l (i : Int)), Option.bind_some, hw]
      exact ih (i + 1) (by omega)
  exact key l.length 0 (by omega)
def cvRng (x : S53) : S55 := ⟨x.f0, x.f1, x.f2⟩
theorem szRng_one (y : S53) (hs : y.f0.size ≤ maxLen) (a : Int) (h0 : 0 ≤ a) (h1 : a ≤ 1048576) : ∃ t, laws_szRng.f y.f0 y.f1 y.f2 a = some t ∧ (t < 0 ∨ 0 ≤ t ∧ t ≤ 1048576) := by
  unfold laws_szRng.f
  simp only [maxLen] at hs
  rw [w64 (x := a - (y.f0.size : Int)) (by omega) (by omega)]
  by_cases c : a - (y.f0.size : Int) < 0
  · exact ⟨-1, by rw [if_pos c], .inl (by omega)⟩
  · exact ⟨_, by rw [if_neg c], .inr (by omega)⟩
theorem szRngS_ev (l : List S53) (hl : l.length ≤ maxLen) (hs : ∀ x ∈ l, x.f0.size ≤ maxLen) (a : Int) (h0 : 0 ≤ a) (h1 : a ≤ 1048576) :
    ∃ t, Ev (fun k => laws_szRngS.f k l a) t ∧ (t < 0 ∨ 0 ≤ t ∧ t ≤ 1048576 ∧ l.length ≤ 1048576) := by
  unfold laws_szRngS.f
  have hl' := hl
  simp only [maxLen] at hl'
  rw [w64 (x := a - (l.length : Int)) (by omega) (by omega)]
  by_cases c : a - (l.length : Int) < 0
  · simp only [c, if_true]
    exact ⟨-1, Ev.now _, .inl (by omega)⟩
  · simp only [c, if_false]
    have key : ∀ d i, i + d = l.length → ∀ x : Int, 0 ≤ x → x ≤ 1048576 → ∃ t, Ev (fun k => laws_szRngS.l0 k l x (i : Int)) t ∧ (t < 0 ∨ 0 ≤ t ∧ t ≤ 1048576) := by
      intro d
      induction d with
      | zero =>
        intro i hi x hx0 hx1
        refine ⟨x, Ev.step (fun k => by rw [laws_szRngS.l0]) ?_, .inr ⟨hx0, hx1⟩⟩
        have c : ¬ (i : Int) < (l.length : Int) := by omega
        simp only [c, if_false]
        exact Ev.now _
      | succ d ih =>
        intro i hi x hx0 hx1
        have c : (i : Int) < (l.length : Int) := by omega
        have c0 : (0 : Int) ≤ (i : Int) := by omega
        have hw : wrap64 ((i : Int) + 1) = ((i + 1 : Nat) : Int) := wi (n := l.length) (by omega) hl
        have hr : rd_T53 l (i : Int) ∈ l := getD_mem l _ (by omega)
        obtain ⟨t, ht, h2⟩ := szRng_one (rd_T53 l (i : Int)) (hs _ hr) x hx0 hx1
        by_cases c2 : t < 0
        · refine ⟨-1, Ev.step (fun k => by rw [laws_szRngS.l0]) ?_, .inl (by omega)⟩
          simp only [c, c0, if_true, ht, Option.bind_some, c2]
          exact Ev.now _
        · obtain ⟨q, h3, h4⟩ := ih (i + 1) (by omega) t (by omega) (by omega)
          refine ⟨q, Ev.step (fun k => by rw [laws_szRngS.l0]) ?_, h4⟩
          simp only [c, c0, if_true, ht, Option.bind_some, c2, if_false, hw]
          exact h3
    obtain ⟨t, h2, h3⟩ := key l.length 0 (by omega) (a - (l.length : Int)) (by omega) (by omega)
    exact ⟨t, h2, h3.imp id fun h => ⟨h.1, h.2, by omega⟩⟩
theorem toRngS_ev (l : List S53) (hl : l.length ≤ 1048576) : Ev (fun k => laws_toRngS.f k l) (l.map cvRng) := by
  unfold laws_toRngS.f
  have c1 : (0 : Int) ≤ (l.length : Int) := by omega
  have c2 : ((l.length : Int) : Int).toNat ≤ 8796093022208 := by omega
  simp only [c1, c2, if_true]
  have key : ∀ d i, i + d = l.length → Ev (fun k => laws_toRngS.l0 k l ((l.take i).map cvRng ++ List.replicate d z55) (i : Int)) (l.map cvRng) := by
    intro d
    induction d with
    | zero =>
      intro i hi
      refine Ev.step (fun k => by rw [laws_toRngS.l0]) ?_
      have c : ¬ (i : Int) < (l.length : Int) := by omega
      simp only [c, if_false]
      have : l.take i = l := List.take_of_length_le (by omega)
      rw [this]
      simpa using Ev.now (List.map cvRng l)
    | succ d ih =>
      intro i hi
      refine Ev.step (fun k => by rw [laws_toRngS.l0]) ?_
      have c : (i : Int) < (l.length : Int) := by omega
      have c0 : (0 : Int) ≤ (i : Int) := by omega
      have hw : wrap64 ((i : Int) + 1) = ((i + 1 : Nat) : Int) := wi (n := l.length) (by omega) (by simp only [maxLen]; omega)
      have c3 : (i : Int) < ((((l.take i).map cvRng ++ List.replicate (d + 1) z55).length : Nat) : Int) := by
        rw [List.length_append, List.length_map, List.length_take, List.length_replicate]
        omega
      simp only [c, c0, if_true, laws_toRng.f, Option.bind_some, c3, hw]
      have e : (((l.take i).map cvRng ++ List.replicate (d + 1) z55).set ((i : Int) : Int).toNat (cvRng (rd_T53 l (i : Int)))) = (l.take (i + 1)).map cvRng ++ List.replicate d z55 := by
        have hg : rd_T53 l (i : Int) = l[i]'(by omega) := by
          simp [rd_T53, List.getElem?_eq_getElem (show i < l.length by omega)]
        rw [hg, Int.toNat_natCast, List.take_add_one, List.getElem?_eq_getElem (show i < l.length by omega)]
        rw [List.set_append_right _ _ (by simp; omega)]
        have : i - ((l.take i).map cvRng).length = 0 := by simp; omega
        rw [this, List.replicate_succ, List.set_cons_zero]
        simp only [Option.toList_some, List.map_append, List.map_cons, List.map_nil, List.append_assoc, List.cons_append, List.nil_append]
      have h2 := ih (i + 1) (by omega)
      rw [← e] at h2
      exact h2
  have h0 := key l.length 0 (by omega)
  simpa using h0
theorem eqRng_one (x : S55) : laws_eqRng.f x.f0 x.f1 x.f2 x.f0 x.f1 x.f2 = some true := by
  unfold laws_eqRng.f
  simp
theorem eqRngS_ev (l : List S55) (hl : l.length ≤ maxLen) : Ev (fun k => laws_eqRngS.f k l l) true := by
  unfold laws_eqRngS.f
  simp only [if_true]
  have key : ∀ d i, i + d = l.length → Ev (fun k => laws_eqRngS.l0 k l l (i : Int)) true := by
    intro d
    induction d with
    | zero =>
      intro i hi
      refine Ev.step (fun k => by rw [laws_eqRngS.l0]) ?_
      have c : ¬ (i : Int) < (l.length : Int) := by omega
      simp only [c, if_false]
      exact Ev.now _
    | succ d ih =>
      intro i hi
      refine Ev.step (fun k => by rw [laws_eqRngS.l0]) ?_
      have c : (i : Int) < (l.length : Int) := by omega
      have c0 : (0 : Int) ≤ (i : Int) := by omega
      have hw : wrap64 ((i : Int) + 1) = ((i + 1 : Nat) : Int) := wi (n := l.length) (by omega) hl
      simp only [c, c0, if_true, eqRng_one (rd_T55 l (i : Int)), Option.bind_some, hw]
      exact ih (i + 1) (by omega)
  exact key l.length 0 (by omega)
theorem szAff_ev (c : Int) (l : List S76) (hl : l.length ≤ maxLen) (hs : ∀ x ∈ l, x.f0.size ≤ maxLen) (a : Int) (h0 : 0 ≤ a) (h1 : a ≤ 1048576) :
    ∃ t, Ev (fun k => laws_szAff.f k c l a) t ∧ (t < 0 ∨ 0 ≤ t ∧ t ≤ 1048576 ∧ l.length ≤ 1048576) := by
  unfold laws_szAff.f
  obtain ⟨t, h2, h3⟩ := szTermS_ev l hl hs a h0 h1
  by_cases e : t < 0
  · refine ⟨-1, Ev.then h2 ?_, .inl (by omega)⟩
    simp only [e, if_true]
    exact Ev.now _
  · refine ⟨t, Ev.then h2 ?_, h3⟩
    simp only [e, if_false]
    exact Ev.now _
theorem toAff_ev (c : Int) (l : List S76) (hl : l.length ≤ 1048576) : Ev (fun k => laws_toAff.f k c l) (c, l.map cvTerm) := by
  unfold laws_toAff.f
  exact Ev.then (toTermS_ev l hl) (Ev.now _)
theorem eqAff_ev (c : Int) (l : List S67) (hl : l.length ≤ maxLen) : Ev (fun k => laws_eqAff.f k c l c l) true := by
  unfold laws_eqAff.f
  simp only [if_true]
  refine Ev.then (eqTermS_ev l hl) ?_
  simp only [if_true]
  exact Ev.now _
theorem impl_CoefOf_ev (c : Int) (l : List S67) (s : ByteArray) (hl : l.length ≤ maxLen) : Ev (fun k => impl_CoefOf.f k c l s) (coefL S67.f0 S67.f1 l s) := by
  unfold impl_CoefOf.f
  have key : ∀ d i, i + d = l.length → Ev (fun k => impl_CoefOf.l0 k s l (l.length : Int) (i : Int)) (coefL S67.f0 S67.f1 (l.drop i) s) := by
    intro d
    induction d with
    | zero =>
      intro i hi
      refine Ev.step (fun k => by rw [impl_CoefOf.l0]) ?_
      have c : ¬ (i : Int) < (l.length : Int) := by omega
      simp only [c, if_false]
      rw [List.drop_eq_nil_of_le (by omega)]
      exact Ev.now _
    | succ d ih =>
      intro i hi
      refine Ev.step (fun k => by rw [impl_CoefOf.l0]) ?_
      have c : (i : Int) < (l.length : Int) := by omega
      have c0 : (0 : Int) ≤ (i : Int) := by omega
      have hw : wrap64 ((i : Int) + 1) = ((i + 1 : Nat) : Int) := wi (n := l.length) (by omega) hl
      have hd : l.drop i = rd_T67 l (i : Int) :: l.drop (i + 1) := drop_cons l _ (by omega)
      rw [hd]
      simp only [c, c0, if_true, hw, coefL]
      by_cases e : (rd_T67 l (i : Int)).f0.toList = s.toList
      · simp only [e, if_true]
        exact Ev.now _
      · simp only [e, if_false]
        exact ih (i + 1) (by omega)
  exact key l.length 0 (by omega)
theorem spec_l8Num_eq (n : Int) : spec_l8Num.f n = some (coefOk n) := by
  unfold spec_l8Num.f
  rw [spec_l1In_eq]
  rfl
theorem impl_isCoef_eq (n : Int) : impl_isCoef.f n = some (coefOk n) := by
  unfold impl_isCoef.f
  rw [impl_inRange_eq]
  rfl
def prevT (l : List S67) (i : Nat) : Option ByteArray := if i = 0 then none else some (rd_T67 l ((i - 1 : Nat) : Int)).f0
theorem prevT_succ (l : List S67) (i : Nat) : prevT l (i + 1) = some (rd_T67 l (i : Int)).f0 := by
  unfold prevT
  rw [if_neg (by omega)]
  rfl
theorem spec_AffOk_ev (c : Int) (l : List S67) (hl : l.length ≤ maxLen) (hs : ∀ x ∈ l, x.f0.size ≤ maxLen) : Ev (fun k => spec_AffOk.f k c l) (affOkS S67.f0 S67.f1 c l) := by
  unfold spec_AffOk.f
  have key : ∀ d i, i + d = l.length → Ev (fun k => spec_AffOk.l0 k (i : Int) c l) (affOkL S67.f0 S67.f1 (prevT l i) (l.drop i) && coefOk c) := by
    intro d
    induction d with
    | zero =>
      intro i hi
      refine Ev.step (fun k => by rw [spec_AffOk.l0]) ?_
      have c : ¬ (i : Int) < (l.length : Int) := by omega
      simp only [c, if_false]
      rw [List.drop_eq_nil_of_le (by omega)]
      simp only [spec_l8Num_eq, Option.bind_some, affOkL, Bool.true_and]
      exact Ev.now _
    | succ d ih =>
      intro i hi
      refine Ev.step (fun k => by rw [spec_AffOk.l0]) ?_
      have c : (i : Int) < (l.length : Int) := by omega
      have c0 : (0 : Int) ≤ (i : Int) := by omega
      have hw : wrap64 ((i : Int) + 1) = ((i + 1 : Nat) : Int) := wi (n := l.length) (by omega) hl
      have hd : l.drop i = rd_T67 l (i : Int) :: l.drop (i + 1) := drop_cons l _ (by omega)
      have hm : rd_T67 l (i : Int) ∈ l := getD_mem l _ (by omega)
      have ih' := ih (i + 1) (by omega)
      rw [prevT_succ] at ih'
      rw [hd]
      simp only [c, c0, if_true, hw, affOkL, spec_l8Num_eq, Option.bind_some]
      refine Ev.then (spec_NameOk_ev _ (hs _ hm)) ?_
      cases e1 : nameS (rd_T67 l (i : Int)).f0 with
      | false =>
        simp only [Bool.false_eq_true, if_false, Bool.false_and]
        exact Ev.now _
      | true =>
        by_cases e2 : (rd_T67 l (i : Int)).f1 = 0
        · simp only [e2, if_true, decide_true, Bool.not_true, Bool.false_and, Bool.and_false]
          exact Ev.now _
        · cases e3 : coefOk (rd_T67 l (i : Int)).f1 with
          | false =>
            simp only [e2, if_true, if_false, decide_false, Bool.not_false, Bool.and_false, Bool.false_and, Bool.false_eq_true]
            exact Ev.now _
          | true =>
            simp only [e2, if_true, if_false, decide_false, Bool.not_false, Bool.true_and]
            by_cases e4 : i = 0
            · subst e4
              have c4 : ¬ ((0 : Nat) : Int) > 0 := by omega
              simp only [c4, if_false, prevT, if_true, lessO, Bool.true_and]
              exact ih'
            · have c4 : (i : Int) > 0 := by omega
              have c5 : wrap64 ((i : Int) - 1) = ((i - 1 : Nat) : Int) := by
                simp only [maxLen] at hl
                rw [w64 (by omega) (by omega)]
                omega
              have c6 : (0 : Int) ≤ ((i - 1 : Nat) : Int) := by omega
              have c7 : ((i - 1 : Nat) : Int) < (l.length : Int) := by omega
              simp only [c4, c5, c6, c7, if_true, prevT, e4, if_false, lessO]
              cases e5 : Op.bytesLess (rd_T67 l ((i - 1 : Nat) : Int)).f0.toList (rd_T67 l (i : Int)).f0.toList with
              | false =>
                simp only [Bool.false_eq_true, if_false, Bool.false_and]
                exact Ev.now _
              | true =>
                simp only [if_true, Bool.true_and]
                exact ih'
  exact key l.length 0 (by omega)
theorem impl_AffOk_ev (c : Int) (l : List S67) (hl : l.length ≤ maxLen) (hs : ∀ x ∈ l, x.f0.size ≤ maxLen) : Ev (fun k => impl_AffOk.f k c l) (affOkS S67.f0 S67.f1 c l) := by
  unfold impl_AffOk.f
  have key : ∀ d i, i + d = l.length → Ev (fun k => impl_AffOk.l0 k l (l.length : Int) (i : Int) c l) (affOkL S67.f0 S67.f1 (prevT l i) (l.drop i) && coefOk c) := by
    intro d
    induction d with
    | zero =>
      intro i hi
      refine Ev.step (fun k => by rw [impl_AffOk.l0]) ?_
      have c : ¬ (i : Int) < (l.length : Int) := by omega
      simp only [c, if_false]
      rw [List.drop_eq_nil_of_le (by omega)]
      simp only [impl_isCoef_eq, Option.bind_some, affOkL, Bool.true_and]
      exact Ev.now _
    | succ d ih =>
      intro i hi
      refine Ev.step (fun k => by rw [impl_AffOk.l0]) ?_
      have c : (i : Int) < (l.length : Int) := by omega
      have c0 : (0 : Int) ≤ (i : Int) := by omega
      have hw : wrap64 ((i : Int) + 1) = ((i + 1 : Nat) : Int) := wi (n := l.length) (by omega) hl
      have hd : l.drop i = rd_T67 l (i : Int) :: l.drop (i + 1) := drop_cons l _ (by omega)
      have hm : rd_T67 l (i : Int) ∈ l := getD_mem l _ (by omega)
      have ih' := ih (i + 1) (by omega)
      rw [prevT_succ] at ih'
      rw [hd]
      simp only [c, c0, if_true, hw, affOkL, impl_isCoef_eq, Option.bind_some]
      refine Ev.then (impl_NameOk_ev _ (hs _ hm)) ?_
      cases e1 : nameS (rd_T67 l (i : Int)).f0 with
      | false =>
        simp only [Bool.false_eq_true, if_false, Bool.false_and]
        exact Ev.now _
      | true =>
        by_cases e2 : (rd_T67 l (i : Int)).f1 = 0
        · simp only [e2, if_true, decide_true, Bool.not_true, Bool.false_and, Bool.and_false]
          exact Ev.now _
        · cases e3 : coefOk (rd_T67 l (i : Int)).f1 with
          | false =>
            simp only [e2, if_true, if_false, decide_false, Bool.not_false, Bool.and_false, Bool.false_and, Bool.false_eq_true]
            exact Ev.now _
          | true =>
            simp only [e2, if_true, if_false, decide_false, Bool.not_false, Bool.true_and]
            by_cases e4 : i = 0
            · subst e4
              have c4 : ¬ ((0 : Nat) : Int) > 0 := by omega
              simp only [c4, if_false, prevT, if_true, lessO, Bool.true_and]
              exact ih'
            · have c4 : (i : Int) > 0 := by omega
              have c5 : wrap64 ((i : Int) - 1) = ((i - 1 : Nat) : Int) := by
                simp only [maxLen] at hl
                rw [w64 (by omega) (by omega)]
                omega
              have c6 : (0 : Int) ≤ ((i - 1 : Nat) : Int) := by omega
              have c7 : ((i - 1 : Nat) : Int) < (l.length : Int) := by omega
              simp only [c4, c5, c6, c7, if_true, prevT, e4, if_false, lessO]
              cases e5 : Op.bytesLess (rd_T67 l ((i - 1 : Nat) : Int)).f0.toList (rd_T67 l (i : Int)).f0.toList with
              | false =>
                simp only [Bool.false_eq_true, if_false, Bool.false_and]
                exact Ev.now _
              | true =>
                simp only [if_true, Bool.true_and]
                exact ih'
  exact key l.length 0 (by omega)
theorem spec_l9At_ev (l : List S55) (s : ByteArray) (hl : l.length ≤ maxLen) : Ev (fun k => spec_l9At.f k l s) (idxL S55.f0 0 l s) := by
  unfold spec_l9At.f
  have key : ∀ d i, i + d = l.length → Ev (fun k => spec_l9At.l0 k l s (i : Int)) (idxL S55.f0 i (l.drop i) s) := by
    intro d
    induction d with
    | zero =>
      intro i hi
      refine Ev.step (fun k => by rw [spec_l9At.l0]) ?_
      have c : ¬ (i : Int) < (l.length : Int) := by omega
      simp only [c, if_false]
      rw [List.drop_eq_nil_of_le (by omega)]
      exact Ev.now _
    | succ d ih =>
      intro i hi
      refine Ev.step (fun k => by rw [spec_l9At.l0]) ?_
      have c : (i : Int) < (l.length : Int) := by omega
      have c0 : (0 : Int) ≤ (i : Int) := by omega
      have hw : wrap64 ((i : Int) + 1) = ((i + 1 : Nat) : Int) := wi (n := l.length) (by omega) hl
      have hd : l.drop i = rd_T55 l (i : Int) :: l.drop (i + 1) := drop_cons l _ (by omega)
      rw [hd]
      simp only [c, c0, if_true, hw, idxL]
      by_cases e : (rd_T55 l (i : Int)).f0.toList = s.toList
      · simp only [e, if_true]
        exact Ev.now _
      · simp only [e, if_false]
        exact ih (i + 1) (by omega)
  exact key l.length 0 (by omega)
theorem impl_rngAt_ev (l : List S55) (s : ByteArray) (hl : l.length ≤ maxLen) : Ev (fun k => impl_rngAt.f k l s) (idxL S55.f0 0 l s) := by
  unfold impl_rngAt.f
  have key : ∀ d i, i + d = l.length → Ev (fun k => impl_rngAt.l0 k l s (i : Int)) (idxL S55.f0 i (l.drop i) s) := by
    intro d
    induction d with
    | zero =>
      intro i hi
      refine Ev.step (fun k => by rw [impl_rngAt.l0]) ?_
      have c : ¬ (i : Int) < (l.length : Int) := by omega
      simp only [c, if_false]
      rw [List.drop_eq_nil_of_le (by omega)]
      exact Ev.now _
    | succ d ih =>
      intro i hi
      refine Ev.step (fun k => by rw [impl_rngAt.l0]) ?_
      have c : (i : Int) < (l.length : Int) := by omega
      have c0 : (0 : Int) ≤ (i : Int) := by omega
      have hw : wrap64 ((i : Int) + 1) = ((i + 1 : Nat) : Int) := wi (n := l.length) (by omega) hl
      have hd : l.drop i = rd_T55 l (i : Int) :: l.drop (i + 1) := drop_cons l _ (by omega)
      rw [hd]
      simp only [c, c0, if_true, hw, idxL]
      by_cases e : (rd_T55 l (i : Int)).f0.toList = s.toList
      · simp only [e, if_true]
        exact Ev.now _
      · simp only [e, if_false]
        exact ih (i + 1) (by omega)
  exact key l.length 0 (by omega)
theorem spec_BoxOk_ev (l : List S55) (hl : l.length ≤ maxLen) (hs : ∀ x ∈ l, x.f0.size ≤ maxLen) : Ev (fun k => spec_BoxOk.f k l) (boxOkS S55.f0 S55.f1 S55.f2 l) := by
  unfold spec_BoxOk.f boxOkS
  have key : ∀ d i, i + d = l.length → Ev (fun k => spec_BoxOk.l0 k l (i : Int)) (boxOkL S55.f0 S55.f1 S55.f2 l i (l.drop i)) := by
    intro d
    induction d with
    | zero =>
      intro i hi
      refine Ev.step (fun k => by rw [spec_BoxOk.l0]) ?_
      have c : ¬ (i : Int) < (l.length : Int) := by omega
      simp only [c, if_false]
      rw [List.drop_eq_nil_of_le (by omega)]
      have e : decide ((l.length : Int) ≤ 8) = decide (l.length ≤ 8) := by
        rw [decide_eq_decide]
        omega
      simp only [e, boxOkL]
      exact Ev.now _
    | succ d ih =>
      intro i hi
      refine Ev.step (fun k => by rw [spec_BoxOk.l0]) ?_
      have c : (i : Int) < (l.length : Int) := by omega
      have c0 : (0 : Int) ≤ (i : Int) := by omega
      have hw : wrap64 ((i : Int) + 1) = ((i + 1 : Nat) : Int) := wi (n := l.length) (by omega) hl
      have hd : l.drop i = rd_T55 l (i : Int) :: l.drop (i + 1) := drop_cons l _ (by omega)
      have hm : rd_T55 l (i : Int) ∈ l := getD_mem l _ (by omega)
      rw [hd]
      simp only [c, c0, if_true, hw, boxOkL, spec_l1In_eq, Option.bind_some]
      refine Ev.then (spec_NameOk_ev _ (hs _ hm)) ?_
      cases e1 : nameS (rd_T55 l (i : Int)).f0 with
      | false =>
        simp only [Bool.false_eq_true, if_false, Bool.false_and]
        exact Ev.now _
      | true =>
        rw [show (decide ((-10000 : Int) ≤ (rd_T55 l (i : Int)).f1) && decide ((rd_T55 l (i : Int)).f1 ≤ 10000)) = bndOk (rd_T55 l (i : Int)).f1 from rfl]
        rw [show (decide ((-10000 : Int) ≤ (rd_T55 l (i : Int)).f2) && decide ((rd_T55 l (i : Int)).f2 ≤ 10000)) = bndOk (rd_T55 l (i : Int)).f2 from rfl]
        cases e2 : bndOk (rd_T55 l (i : Int)).f1 with
        | false =>
          simp only [Bool.false_eq_true, if_true, if_false, Bool.false_and, Bool.true_and]
          exact Ev.now _
        | true =>
          cases e3 : bndOk (rd_T55 l (i : Int)).f2 with
          | false =>
            simp only [Bool.false_eq_true, if_true, if_false, Bool.false_and, Bool.true_and]
            exact Ev.now _
          | true =>
            simp only [if_true, Bool.true_and]
            refine Ev.then (spec_l9At_ev l _ hl) ?_
            by_cases e4 : idxL S55.f0 0 l (rd_T55 l (i : Int)).f0 = (i : Int)
            · simp only [e4, if_true, decide_true, Bool.true_and]
              exact ih (i + 1) (by omega)
            · simp only [e4, if_false, decide_false, Bool.false_and]
              exact Ev.now _
  exact key l.length 0 (by omega)
theorem impl_BoxOk_ev (l : List S55) (hl : l.length ≤ maxLen) (hs : ∀ x ∈ l, x.f0.size ≤ maxLen) : Ev (fun k => impl_BoxOk.f k l) (boxOkS S55.f0 S55.f1 S55.f2 l) := by
  unfold impl_BoxOk.f boxOkS
  have key : ∀ d i, i + d = l.length → Ev (fun k => impl_BoxOk.l0 k l l (l.length : Int) (i : Int)) (boxOkL S55.f0 S55.f1 S55.f2 l i (l.drop i)) := by
    intro d
    induction d with
    | zero =>
      intro i hi
      refine Ev.step (fun k => by rw [impl_BoxOk.l0]) ?_
      have c : ¬ (i : Int) < (l.length : Int) := by omega
      simp only [c, if_false]
      rw [List.drop_eq_nil_of_le (by omega)]
      have e : decide ((l.length : Int) ≤ 8) = decide (l.length ≤ 8) := by
        rw [decide_eq_decide]
        omega
      simp only [e, boxOkL]
      exact Ev.now _
    | succ d ih =>
      intro i hi
      refine Ev.step (fun k => by rw [impl_BoxOk.l0]) ?_
      have c : (i : Int) < (l.length : Int) := by omega
      have c0 : (0 : Int) ≤ (i : Int) := by omega
      have hw : wrap64 ((i : Int) + 1) = ((i + 1 : Nat) : Int) := wi (n := l.length) (by omega) hl
      have hd : l.drop i = rd_T55 l (i : Int) :: l.drop (i + 1) := drop_cons l _ (by omega)
      have hm : rd_T55 l (i : Int) ∈ l := getD_mem l _ (by omega)
      rw [hd]
      simp only [c, c0, if_true, hw, boxOkL, impl_inRange_eq, Option.bind_some]
      refine Ev.then (impl_NameOk_ev _ (hs _ hm)) ?_
      cases e1 : nameS (rd_T55 l (i : Int)).f0 with
      | false =>
        simp only [Bool.false_eq_true, if_false, Bool.false_and]
        exact Ev.now _
      | true =>
        rw [show (decide ((-10000 : Int) ≤ (rd_T55 l (i : Int)).f1) && decide ((rd_T55 l (i : Int)).f1 ≤ 10000)) = bndOk (rd_T55 l (i : Int)).f1 from rfl]
        rw [show (decide ((-10000 : Int) ≤ (rd_T55 l (i : Int)).f2) && decide ((rd_T55 l (i : Int)).f2 ≤ 10000)) = bndOk (rd_T55 l (i : Int)).f2 from rfl]
        cases e2 : bndOk (rd_T55 l (i : Int)).f1 with
        | false =>
          simp only [Bool.false_eq_true, if_true, if_false, Bool.false_and, Bool.true_and]
          exact Ev.now _
        | true =>
          cases e3 : bndOk (rd_T55 l (i : Int)).f2 with
          | false =>
            simp only [Bool.false_eq_true, if_true, if_false, Bool.false_and, Bool.true_and]
            exact Ev.now _
          | true =>
            simp only [if_true, Bool.true_and]
            refine Ev.then (impl_rngAt_ev l _ hl) ?_
            by_cases e4 : idxL S55.f0 0 l (rd_T55 l (i : Int)).f0 = (i : Int)
            · simp only [e4, if_true, decide_true, Bool.true_and]
              exact ih (i + 1) (by omega)
            · simp only [e4, if_false, decide_false, Bool.false_and]
              exact Ev.now _
  exact key l.length 0 (by omega)
theorem spec_l9Full_ev (l : List S55) (hl : l.length ≤ maxLen) (hs : ∀ x ∈ l, x.f0.size ≤ maxLen) : Ev (fun k => spec_l9Full.f k l) (fullS S55.f0 S55.f1 S55.f2 l) := by
  unfold spec_l9Full.f
  have key : ∀ d i, i + d = l.length → Ev (fun k => spec_l9Full.l0 k l (i : Int)) (((l.drop i).all fun r => decide (r.f1 ≤ r.f2)) && boxOkS S55.f0 S55.f1 S55.f2 l) := by
    intro d
    induction d with
    | zero =>
      intro i hi
      refine Ev.step (fun k => by rw [spec_l9Full.l0]) ?_
      have c : ¬ (i : Int) < (l.length : Int) := by omega
      simp only [c, if_false]
      rw [List.drop_eq_nil_of_le (by omega)]
      simp only [List.all_nil, Bool.true_and]
      exact Ev.then (spec_BoxOk_ev l hl hs) (Ev.now _)
    | succ d ih =>
      intro i hi
      refine Ev.step (fun k => by rw [spec_l9Full.l0]) ?_
      have c : (i : Int) < (l.length : Int) := by omega
      have c0 : (0 : Int) ≤ (i : Int) := by omega
      have hw : wrap64 ((i : Int) + 1) = ((i + 1 : Nat) : Int) := wi (n := l.length) (by omega) hl
      have hd : l.drop i = rd_T55 l (i : Int) :: l.drop (i + 1) := drop_cons l _ (by omega)
      rw [hd, List.all_cons]
      by_cases e : (rd_T55 l (i : Int)).f1 > (rd_T55 l (i : Int)).f2
      · have e' : ¬ (rd_T55 l (i : Int)).f1 ≤ (rd_T55 l (i : Int)).f2 := by omega
        simp only [c, c0, if_true, hw, e, e', decide_false, Bool.false_and]
        exact Ev.now _
      · have e' : (rd_T55 l (i : Int)).f1 ≤ (rd_T55 l (i : Int)).f2 := by omega
        simp only [c, c0, if_true, hw, e, e', if_false, decide_true, Bool.true_and]
        exact ih (i + 1) (by omega)
  exact key l.length 0 (by omega)
theorem impl_isRight_ev (l : List S55) (hl : l.length ≤ maxLen) (hs : ∀ x ∈ l, x.f0.size ≤ maxLen) : Ev (fun k => impl_isRight.f k l) (fullS S55.f0 S55.f1 S55.f2 l) := by
  unfold impl_isRight.f
  have key : ∀ d i, i + d = l.length → Ev (fun k => impl_isRight.l0 k l l (l.length : Int) (i : Int)) (((l.drop i).all fun r => decide (r.f1 ≤ r.f2)) && boxOkS S55.f0 S55.f1 S55.f2 l) := by
    intro d
    induction d with
    | zero =>
      intro i hi
      refine Ev.step (fun k => by rw [impl_isRight.l0]) ?_
      have c : ¬ (i : Int) < (l.length : Int) := by omega
      simp only [c, if_false]
      rw [List.drop_eq_nil_of_le (by omega)]
      simp only [List.all_nil, Bool.true_and]
      exact Ev.then (impl_BoxOk_ev l hl hs) (Ev.now _)
    | succ d ih =>
      intro i hi
      refine Ev.step (fun k => by rw [impl_isRight.l0]) ?_
      have c : (i : Int) < (l.length : Int) := by omega
      have c0 : (0 : Int) ≤ (i : Int) := by omega
      have hw : wrap64 ((i : Int) + 1) = ((i + 1 : Nat) : Int) := wi (n := l.length) (by omega) hl
      have hd : l.drop i = rd_T55 l (i : Int) :: l.drop (i + 1) := drop_cons l _ (by omega)
      rw [hd, List.all_cons]
      by_cases e : (rd_T55 l (i : Int)).f1 > (rd_T55 l (i : Int)).f2
      · have e' : ¬ (rd_T55 l (i : Int)).f1 ≤ (rd_T55 l (i : Int)).f2 := by omega
        simp only [c, c0, if_true, hw, e, e', decide_false, Bool.false_and]
        exact Ev.now _
      · have e' : (rd_T55 l (i : Int)).f1 ≤ (rd_T55 l (i : Int)).f2 := by omega
        simp only [c, c0, if_true, hw, e, e', if_false, decide_true, Bool.true_and]
        exact ih (i + 1) (by omega)
  exact key l.length 0 (by omega)
theorem spec_Rounds_ev (l : List S55) (hl : l.length ≤ maxLen) (hs : ∀ x ∈ l, x.f0.size ≤ maxLen) : Ev (fun k => spec_Rounds.f k l) (rndS S55.f0 S55.f1 S55.f2 l) := by
  unfold spec_Rounds.f rndS
  refine Ev.then (spec_l9Full_ev l hl hs) ?_
  cases e2 : fullS S55.f0 S55.f1 S55.f2 l with
  | false =>
    simp only [Bool.false_eq_true, if_false]
    exact Ev.now _
  | true =>
    simp only [if_true]
    have hfu := (fullS_mem S55.f0 S55.f1 S55.f2 e2).1
    have key : ∀ d i, i + d = l.length → ∀ x : Int, 1 ≤ x → x ≤ 20001000000 → Ev (fun k => spec_Rounds.l0 k l x (i : Int)) (rndL S55.f1 S55.f2 (l.drop i) (mn x 1000000)) := by
      intro d
      induction d with
      | zero =>
        intro i hi x h1 h2
        refine Ev.step (fun k => by rw [spec_Rounds.l0]) ?_
        have c : ¬ (i : Int) < (l.length : Int) := by omega
        simp only [c, if_false]
        rw [List.drop_eq_nil_of_le (by omega)]
        by_cases e : x > 1000000
        · simp only [e, if_true]
          have : mn x 1000000 = 1000000 := by unfold mn; split <;> omega
          rw [this]
          exact Ev.now _
        · simp only [e, if_false]
          have : mn x 1000000 = x := by unfold mn; split <;> omega
          rw [this]
          exact Ev.now _
      | succ d ih =>
        intro i hi x h1 h2
        refine Ev.step (fun k => by rw [spec_Rounds.l0]) ?_
        have c : (i : Int) < (l.length : Int) := by omega
        have c0 : (0 : Int) ≤ (i : Int) := by omega
        have hw : wrap64 ((i : Int) + 1) = ((i + 1 : Nat) : Int) := wi (n := l.length) (by omega) hl
        have hd : l.drop i = rd_T55 l (i : Int) :: l.drop (i + 1) := drop_cons l _ (by omega)
        have hm : rd_T55 l (i : Int) ∈ l := getD_mem l _ (by omega)
        obtain ⟨r1, r2, r3, r4, r5⟩ := hfu _ hm
        by_cases e : x < 1000000
        · have hq : mn x 1000000 = x := by unfold mn; split <;> omega
          have w1 : wrap64 ((rd_T55 l (i : Int)).f2 - (rd_T55 l (i : Int)).f1) = (rd_T55 l (i : Int)).f2 - (rd_T55 l (i : Int)).f1 := w64 (by omega) (by omega)
          have w2 : wrap64 ((rd_T55 l (i : Int)).f2 - (rd_T55 l (i : Int)).f1 + 1) = (rd_T55 l (i : Int)).f2 - (rd_T55 l (i : Int)).f1 + 1 := w64 (by omega) (by omega)
          have b1 : 0 ≤ (x - 1) * ((rd_T55 l (i : Int)).f2 - (rd_T55 l (i : Int)).f1) := Int.mul_nonneg (by omega) (by omega)
          have b2 : 0 ≤ x * (20000 - ((rd_T55 l (i : Int)).f2 - (rd_T55 l (i : Int)).f1)) := Int.mul_nonneg (by omega) (by omega)
          have b3 : 1 ≤ x * ((rd_T55 l (i : Int)).f2 - (rd_T55 l (i : Int)).f1 + 1) ∧ x * ((rd_T55 l (i : Int)).f2 - (rd_T55 l (i : Int)).f1 + 1) ≤ 20001000000 := by
            have hy : 0 ≤ (rd_T55 l (i : Int)).f2 - (rd_T55 l (i : Int)).f1 := by omega
            generalize (rd_T55 l (i : Int)).f2 - (rd_T55 l (i : Int)).f1 = y at b1 b2 hy ⊢
            simp only [Int.sub_mul, Int.add_mul, Int.mul_sub, Int.mul_add] at b1 b2 ⊢
            omega
          have w3 : wrap64 (x * ((rd_T55 l (i : Int)).f2 - (rd_T55 l (i : Int)).f1 + 1)) = x * ((rd_T55 l (i : Int)).f2 - (rd_T55 l (i : Int)).f1 + 1) := w64 (by omega) (by omega)
          rw [hd, hq]
          simp only [c, c0, e, if_true, w1, w2, w3, hw, rndL]
          exact ih (i + 1) (by omega) _ b3.1 b3.2
        · have hq : mn x 1000000 = 1000000 := by unfold mn; split <;> omega
          rw [hq, rndL_top S55.f1 S55.f2 (l.drop i) (fun r hr => (hfu r (List.mem_of_mem_drop hr)).1)]
          simp only [c, e, if_true, if_false]
          by_cases e3 : x > 1000000
          · simp only [e3, if_true]
            exact Ev.now _
          · have : x = 1000000 := by omega
            subst this
            simp only [e3, if_false]
            exact Ev.now _
    exact key l.length 0 (by omega) 1 (by omega) (by omega)
theorem impl_Rounds_ev (l : List S55) (hl : l.length ≤ maxLen) (hs : ∀ x ∈ l, x.f0.size ≤ maxLen) : Ev (fun k => impl_Rounds.f k l) (rndS S55.f0 S55.f1 S55.f2 l) := by
  unfold impl_Rounds.f rndS
  refine Ev.then (impl_isRight_ev l hl hs) ?_
  cases e2 : fullS S55.f0 S55.f1 S55.f2 l with
  | false =>
    simp only [Bool.false_eq_true, if_false]
    exact Ev.now _
  | true =>
    simp only [if_true]
    have hfu := (fullS_mem S55.f0 S55.f1 S55.f2 e2).1
    have key : ∀ d i, i + d = l.length → ∀ x : Int, 1 ≤ x → x ≤ 1000000 → Ev (fun k => impl_Rounds.l0 k x l (l.length : Int) (i : Int)) (rndL S55.f1 S55.f2 (l.drop i) x) := by
      intro d
      induction d with
      | zero =>
        intro i hi x h1 h2
        refine Ev.step (fun k => by rw [impl_Rounds.l0]) ?_
        have c : ¬ (i : Int) < (l.length : Int) := by omega
        simp only [c, if_false]
        rw [List.drop_eq_nil_of_le (by omega)]
        exact Ev.now _
      | succ d ih =>
        intro i hi x h1 h2
        refine Ev.step (fun k => by rw [impl_Rounds.l0]) ?_
        have c : (i : Int) < (l.length : Int) := by omega
        have c0 : (0 : Int) ≤ (i : Int) := by omega
        have hw : wrap64 ((i : Int) + 1) = ((i + 1 : Nat) : Int) := wi (n := l.length) (by omega) hl
        have hd : l.drop i = rd_T55 l (i : Int) :: l.drop (i + 1) := drop_cons l _ (by omega)
        have hm : rd_T55 l (i : Int) ∈ l := getD_mem l _ (by omega)
        obtain ⟨r1, r2, r3, r4, r5⟩ := hfu _ hm
        have w1 : wrap64 ((rd_T55 l (i : Int)).f2 - (rd_T55 l (i : Int)).f1) = (rd_T55 l (i : Int)).f2 - (rd_T55 l (i : Int)).f1 := w64 (by omega) (by omega)
        have w2 : wrap64 ((rd_T55 l (i : Int)).f2 - (rd_T55 l (i : Int)).f1 + 1) = (rd_T55 l (i : Int)).f2 - (rd_T55 l (i : Int)).f1 + 1 := w64 (by omega) (by omega)
        have b1 : 0 ≤ (x - 1) * ((rd_T55 l (i : Int)).f2 - (rd_T55 l (i : Int)).f1) := Int.mul_nonneg (by omega) (by omega)
        have b2 : 0 ≤ x * (20000 - ((rd_T55 l (i : Int)).f2 - (rd_T55 l (i : Int)).f1)) := Int.mul_nonneg (by omega) (by omega)
        have b3 : 1 ≤ x * ((rd_T55 l (i : Int)).f2 - (rd_T55 l (i : Int)).f1 + 1) ∧ x * ((rd_T55 l (i : Int)).f2 - (rd_T55 l (i : Int)).f1 + 1) ≤ 20001000000 := by
          have hy : 0 ≤ (rd_T55 l (i : Int)).f2 - (rd_T55 l (i : Int)).f1 := by omega
          generalize (rd_T55 l (i : Int)).f2 - (rd_T55 l (i : Int)).f1 = y at b1 b2 hy ⊢
          simp only [Int.sub_mul, Int.add_mul, Int.mul_sub, Int.mul_add] at b1 b2 ⊢
          omega
        have w3 : wrap64 (x * ((rd_T55 l (i : Int)).f2 - (rd_T55 l (i : Int)).f1 + 1)) = x * ((rd_T55 l (i : Int)).f2 - (rd_T55 l (i : Int)).f1 + 1) := w64 (by omega) (by omega)
        rw [hd]
        simp only [c, c0, if_true, w1, w2, w3, hw, rndL]
        refine ih (i + 1) (by omega) _ ?_ ?_ <;> (unfold mn; split <;> omega)
    exact key l.length 0 (by omega) 1 (by omega) (by omega)
theorem impl_boundTo_ev (bs : List S85) (s : ByteArray) (hl : bs.length ≤ maxLen) : ∃ b, Ev (fun k => impl_boundTo.f k bs s) (boundS S85.f0 S85.f1 bs s, b) := by
  unfold impl_boundTo.f boundS
  have key : ∀ d, d ≤ bs.length → ∃ b, Ev (fun k => impl_boundTo.l0 k bs s ((d : Int) - 1)) (lastR S85.f0 S85.f1 (bs.take d).reverse s, b) := by
    intro d
    induction d with
    | zero =>
      intro _
      refine ⟨false, Ev.step (fun k => by rw [impl_boundTo.l0]) ?_⟩
      have c : ¬ ((0 : Nat) : Int) - 1 ≥ 0 := by omega
      simp only [c, if_false]
      exact Ev.now _
    | succ d ih =>
      intro hd
      have e0 : (((d + 1 : Nat) : Int) - 1) = (d : Int) := by omega
      have c : (d : Int) ≥ 0 := by omega
      have c0 : (0 : Int) ≤ (d : Int) := by omega
      have c1 : (d : Int) < (bs.length : Int) := by omega
      have hw : wrap64 ((d : Int) - 1) = (d : Int) - 1 := by
        simp only [maxLen] at hl
        exact w64 (by omega) (by omega)
      have ht : (bs.take (d + 1)).reverse = rd_T85 bs (d : Int) :: (bs.take d).reverse := by
        rw [List.take_add_one, List.getElem?_eq_getElem (show d < bs.length by omega)]
        simp [rd_T85, List.getElem?_eq_getElem (show d < bs.length by omega)]
      rw [ht, e0]
      by_cases e : (rd_T85 bs (d : Int)).f0.toList = s.toList
      · refine ⟨true, Ev.step (fun k => by rw [impl_boundTo.l0]) ?_⟩
        simp only [c, c0, c1, if_true, e, lastR]
        exact Ev.now _
      · obtain ⟨b, hb⟩ := ih (by omega)
        refine ⟨b, Ev.step (fun k => by rw [impl_boundTo.l0]) ?_⟩
        simp only [c, c0, c1, if_true, e, if_false, lastR, hw]
        exact hb
  have hw : wrap64 ((bs.length : Int) - 1) = (bs.length : Int) - 1 := by
    simp only [maxLen] at hl
    exact w64 (by omega) (by omega)
  rw [hw]
  have := key bs.length (Nat.le_refl _)
  rwa [List.take_length] at this
theorem impl_AffAt_ev (c : Int) (l : List S67) (bs : List S85) (hl : l.length ≤ maxLen) (hb : bs.length ≤ maxLen) :
    Ev (fun k => impl_AffAt.f k c l bs) (affAtL S67.f0 S67.f1 S85.f0 S85.f1 bs l c) := by
  unfold impl_AffAt.f
  have key : ∀ d i, i + d = l.length → ∀ x, Ev (fun k => impl_AffAt.l0 k bs x l (l.length : Int) (i : Int)) (affAtL S67.f0 S67.f1 S85.f0 S85.f1 bs (l.drop i) x) := by
    intro d
    induction d with
    | zero =>
      intro i hi x
      refine Ev.step (fun k => by rw [impl_AffAt.l0]) ?_
      have c : ¬ (i : Int) < (l.length : Int) := by omega
      simp only [c, if_false]
      rw [List.drop_eq_nil_of_le (by omega)]
      exact Ev.now _
    | succ d ih =>
      intro i hi x
      refine Ev.step (fun k => by rw [impl_AffAt.l0]) ?_
      have c : (i : Int) < (l.length : Int) := by omega
      have c0 : (0 : Int) ≤ (i : Int) := by omega
      have hw : wrap64 ((i : Int) + 1) = ((i + 1 : Nat) : Int) := wi (n := l.length) (by omega) hl
      have hd : l.drop i = rd_T67 l (i : Int) :: l.drop (i + 1) := drop_cons l _ (by omega)
      obtain ⟨b, hbd⟩ := impl_boundTo_ev bs (rd_T67 l (i : Int)).f0 hb
      rw [hd]
      simp only [c, c0, if_true, hw, affAtL]
      exact Ev.then hbd (ih (i + 1) (by omega) _)
  exact key l.length 0 (by omega) c
theorem spec_AffAt_l1_ev (c : Int) (l : List S67) (bs : List S85) (hb : bs.length ≤ maxLen) (x : Int) (i : Nat) (hi : i < l.length) (r : Int)
    (hr : Ev (fun k => spec_AffAt.l0 k bs (wrap64 (x + wrap64 ((rd_T67 l (i : Int)).f1 * boundS S85.f0 S85.f1 bs (rd_T67 l (i : Int)).f0))) (wrap64 ((i : Int) + 1)) c l) r) (hx : wrap64 x = x) :
    Ev (fun k => spec_AffAt.l1 k bs x (i : Int) (wrap64 ((bs.length : Int) - 1)) c l) r := by
  have hw : wrap64 ((bs.length : Int) - 1) = (bs.length : Int) - 1 := by
    simp only [maxLen] at hb
    exact w64 (by omega) (by omega)
  rw [hw]
  have key : ∀ d, d ≤ bs.length → lastR S85.f0 S85.f1 (bs.take d).reverse (rd_T67 l (i : Int)).f0 = boundS S85.f0 S85.f1 bs (rd_T67 l (i : Int)).f0 →
      Ev (fun k => spec_AffAt.l1 k bs x (i : Int) ((d : Int) - 1) c l) r := by
    intro d
    induction d with
    | zero =>
      intro _ h0
      refine Ev.step (fun k => by rw [spec_AffAt.l1]) ?_
      have c : ¬ ((0 : Nat) : Int) - 1 ≥ 0 := by omega
      simp only [c, if_false]
      rw [← h0] at hr
      simp only [List.take_zero, List.reverse_nil, lastR, Int.mul_zero] at hr
      rw [show wrap64 0 = 0 from w64 (by omega) (by omega), Int.add_zero, hx] at hr
      exact hr
    | succ d ih =>
      intro hd h0
      have e0 : (((d + 1 : Nat) : Int) - 1) = (d : Int) := by omega
      have c1 : (d : Int) ≥ 0 := by omega
      have c0 : (0 : Int) ≤ (d : Int) := by omega
      have c2 : (d : Int) < (bs.length : Int) := by omega
      have c3 : (0 : Int) ≤ (i : Int) := by omega
      have c4 : (i : Int) < (l.length : Int) := by omega
      have hw : wrap64 ((d : Int) - 1) = (d : Int) - 1 := by
        simp only [maxLen] at hb
        exact w64 (by omega) (by omega)
      have ht : (bs.take (d + 1)).reverse = rd_T85 bs (d : Int) :: (bs.take d).reverse := by
        rw [List.take_add_one, List.getElem?_eq_getElem (show d < bs.length by omega)]
        simp [rd_T85, List.getElem?_eq_getElem (show d < bs.length by omega)]
      rw [ht] at h0
      simp only [lastR] at h0
      rw [e0]
      refine Ev.step (fun k => by rw [spec_AffAt.l1]) ?_
      by_cases e : (rd_T85 bs (d : Int)).f0.toList = (rd_T67 l (i : Int)).f0.toList
      · rw [if_pos e] at h0
        simp only [c1, c0, c2, c3, c4, if_true, e, h0]
        exact hr
      · rw [if_neg e] at h0
        simp only [c1, c0, c2, c3, c4, if_true, e, if_false, hw]
        exact ih (by omega) h0
  exact key bs.length (Nat.le_refl _) (by rw [List.take_length]; rfl)
theorem spec_AffAt_ev (c : Int) (l : List S67) (bs : List S85) (hl : l.length ≤ maxLen) (hb : bs.length ≤ maxLen) (hc : wrap64 c = c) :
    Ev (fun k => spec_AffAt.f k c l bs) (affAtL S67.f0 S67.f1 S85.f0 S85.f1 bs l c) := by
  unfold spec_AffAt.f
  have key : ∀ d i, i + d = l.length → ∀ x, wrap64 x = x → Ev (fun k => spec_AffAt.l0 k bs x (i : Int) c l) (affAtL S67.f0 S67.f1 S85.f0 S85.f1 bs (l.drop i) x) := by
    intro d
    induction d with
    | zero =>
      intro i hi x _
      refine Ev.step (fun k => by rw [spec_AffAt.l0]) ?_
      have c : ¬ (i : Int) < (l.length : Int) := by omega
      simp only [c, if_false]
      rw [List.drop_eq_nil_of_le (by omega)]
      exact Ev.now _
    | succ d ih =>
      intro i hi x hx
      refine Ev.step (fun k => by rw [spec_AffAt.l0]) ?_
      have c : (i : Int) < (l.length : Int) := by omega
      have hw : wrap64 ((i : Int) + 1) = ((i + 1 : Nat) : Int) := wi (n := l.length) (by omega) hl
      have hd : l.drop i = rd_T67 l (i : Int) :: l.drop (i + 1) := drop_cons l _ (by omega)
      rw [hd]
      simp only [c, if_true, affAtL]
      refine spec_AffAt_l1_ev _ l bs hb x i (by omega) _ ?_ hx
      rw [hw]
      exact ih (i + 1) (by omega) _ (by
        have := wrap64_range (x + wrap64 ((rd_T67 l (i : Int)).f1 * boundS S85.f0 S85.f1 bs (rd_T67 l (i : Int)).f0))
        exact w64 (by omega) (by omega))
  exact key l.length 0 (by omega) c hc
/-! ### all that a sum may be, in a box -/
theorem wrap_addL (a b : Int) : wrap64 (wrap64 a + b) = wrap64 (a + b) := by
  unfold wrap64
  omega
theorem wrap_addR (a b : Int) : wrap64 (a + wrap64 b) = wrap64 (a + b) := by
  unfold wrap64
  omega
theorem wrap_rep (a : Int) : ∃ t, wrap64 a = a + 18446744073709551616 * t := by
  refine ⟨-((a + 9223372036854775808) / 18446744073709551616), ?_⟩
  unfold wrap64
  omega
theorem wrap_per (a t : Int) : wrap64 (a + 18446744073709551616 * t) = wrap64 a := by
  unfold wrap64
  omega
def sumB (bs : List S85) : List S67 → Int
  | [] => 0
  | x :: xs => x.f1 * boundS S85.f0 S85.f1 bs x.f0 + sumB bs xs
theorem affAt_sum (bs : List S85) : ∀ (l : List S67) (c : Int), -9223372036854775808 ≤ c → c < 9223372036854775808 → affAtL S67.f0 S67.f1 S85.f0 S85.f1 bs l c = wrap64 (c + sumB bs l)
  | [], c, h1, h2 => by
    simp only [affAtL, sumB, Int.add_zero]
    exact (w64 h1 h2).symm
  | x :: xs, c, h1, h2 => by
    have hr := wrap64_range (c + wrap64 (x.f1 * boundS S85.f0 S85.f1 bs x.f0))
    simp only [affAtL, sumB]
    rw [affAt_sum bs xs _ hr.1 hr.2, wrap_addL, Int.add_assoc, Int.add_comm (wrap64 _) _, ← Int.add_assoc, wrap_addR]
    congr 1
    omega
/-- Names that are not the same. -/
def Apart {α : Type} (nm : α → ByteArray) (l : List α) : Prop := l.Pairwise fun a b => ¬ (nm a).toList = (nm b).toList
theorem lastR_none (xs : List S85) (s : ByteArray) (h : ∀ x ∈ xs, ¬ x.f0.toList = s.toList) : lastR S85.f0 S85.f1 xs s = 0 := by
  induction xs with
  | nil => rfl
  | cons x xs ih =>
    have hx := h x List.mem_cons_self
    simp only [lastR, hx, if_false]
    exact ih fun y hy => h y (List.mem_cons_of_mem _ hy)
theorem lastR_snoc (b : S85) (s : ByteArray) : ∀ (xs : List S85), (∀ x ∈ xs, ¬ x.f0.toList = b.f0.toList) → lastR S85.f0 S85.f1 (xs ++ [b]) s = if b.f0.toList = s.toList then b.f1 else lastR S85.f0 S85.f1 xs s
  | [], _ => by simp [lastR]
  | x :: xs, h => by
    have hx := h x List.mem_cons_self
    have ih := lastR_snoc b s xs fun y hy => h y (List.mem_cons_of_mem _ hy)
    simp only [List.cons_append, lastR]
    rw [ih]
    by_cases e : x.f0.toList = s.toList
    · have e2 : ¬ b.f0.toList = s.toList := fun e2 => hx (e.trans e2.symm)
      simp only [e, e2, if_true, if_false]
    · simp only [e, if_false]
theorem bound_cons (b : S85) (bs : List S85) (s : ByteArray) (h : ∀ x ∈ bs, ¬ x.f0.toList = b.f0.toList) : boundS S85.f0 S85.f1 (b :: bs) s = if b.f0.toList = s.toList then b.f1 else boundS S85.f0 S85.f1 bs s := by
  unfold boundS
  rw [List.reverse_cons]
  exact lastR_snoc b s bs.reverse fun x hx => h x (List.mem_reverse.1 hx)
theorem coefL_none (l : List S67) (s : ByteArray) (h : ∀ x ∈ l, ¬ x.f0.toList = s.toList) : coefL S67.f0 S67.f1 l s = 0 := by
  induction l with
  | nil => rfl
  | cons x xs ih =>
    have hx := h x List.mem_cons_self
    simp only [coefL, hx, if_false]
    exact ih fun y hy => h y (List.mem_cons_of_mem _ hy)
theorem sumB_skip (b : S85) (bs : List S85) (h : ∀ x ∈ bs, ¬ x.f0.toList = b.f0.toList) : ∀ (l : List S67), (∀ x ∈ l, ¬ b.f0.toList = x.f0.toList) → sumB (b :: bs) l = sumB bs l
  | [], _ => rfl
  | x :: xs, hl => by
    have hx := hl x List.mem_cons_self
    simp only [sumB]
    rw [bound_cons b bs x.f0 h, if_neg hx, sumB_skip b bs h xs fun y hy => hl y (List.mem_cons_of_mem _ hy)]
theorem sumB_cons (b : S85) (bs : List S85) (h : ∀ x ∈ bs, ¬ x.f0.toList = b.f0.toList) : ∀ (l : List S67), Apart S67.f0 l → sumB (b :: bs) l = coefL S67.f0 S67.f1 l b.f0 * b.f1 + sumB bs l
  | [], _ => by simp [sumB, coefL]
  | x :: xs, hl => by
    have hp := List.pairwise_cons.1 hl
    simp only [sumB, coefL]
    rw [bound_cons b bs x.f0 h]
    by_cases e : b.f0.toList = x.f0.toList
    · have e' := e.symm
      have z : boundS S85.f0 S85.f1 bs x.f0 = 0 := lastR_none _ _ fun y hy => fun e2 => h y (List.mem_reverse.1 hy) (e2.trans e')
      rw [if_pos e, if_pos e', sumB_skip b bs h xs fun y hy => fun e2 => hp.1 y hy (e'.trans e2), z, Int.mul_zero]
      omega
    · have e' : ¬ x.f0.toList = b.f0.toList := fun e2 => e e2.symm
      rw [if_neg e, if_neg e', sumB_cons b bs h xs hp.2]
      omega
def szR (r : S55) : Int := r.f2 - r.f1 + 1
/-- How many choices there are; a name aside. -/
def prodN (s : ByteArray) : List S55 → Int
  | [] => 1
  | r :: rs => if r.f0.toList = s.toList then prodN s rs else szR r * prodN s rs
def prodA : List S55 → Int
  | [] => 1
  | r :: rs => szR r * prodA rs
def Reach (co : ByteArray → Int) (s : ByteArray) : List S55 → Int → Int → Prop
  | [], x, v => v = x
  | r :: rs, x, v => if r.f0.toList = s.toList then Reach co s rs x v else ∃ n, r.f1 ≤ n ∧ n ≤ r.f2 ∧ Reach co s rs (x + co r.f0 * n) v
theorem Reach_shift (co : ByteArray → Int) (s : ByteArray) (d : Int) : ∀ (rs : List S55) (x v : Int), Reach co s rs x v → Reach co s rs (x + d) (v + d)
  | [], x, v, h => by
    simp only [Reach] at h ⊢
    omega
  | r :: rs, x, v, h => by
    simp only [Reach] at h ⊢
    by_cases e : r.f0.toList = s.toList
    · simp only [e, if_true] at h ⊢
      exact Reach_shift co s d rs x v h
    · simp only [e, if_false] at h ⊢
      obtain ⟨n, h1, h2, h3⟩ := h
      refine ⟨n, h1, h2, ?_⟩
      have := Reach_shift co s d rs _ _ h3
      rwa [show x + d + co r.f0 * n = x + co r.f0 * n + d by omega]
def decB (s : ByteArray) : List S55 → Int → List S85 → List S85
  | [], _, bs => bs
  | r :: rs, y, bs => if r.f0.toList = s.toList then decB s rs y bs else decB s rs (Int.tdiv y (szR r)) (⟨r.f0, r.f1 + Int.tmod y (szR r)⟩ :: bs)
theorem prodN_pos (s : ByteArray) : ∀ (rs : List S55), (∀ r ∈ rs, r.f1 ≤ r.f2) → 1 ≤ prodN s rs
  | [], _ => by simp [prodN]
  | r :: rs, h => by
    have h1 := h r List.mem_cons_self
    have ih := prodN_pos s rs fun x hx => h x (List.mem_cons_of_mem _ hx)
    unfold prodN
    by_cases e : r.f0.toList = s.toList
    · rw [if_pos e]
      exact ih
    · rw [if_neg e]
      have a : 0 ≤ (szR r - 1) * prodN s rs := Int.mul_nonneg (by unfold szR; omega) (by omega)
      rw [Int.sub_mul] at a
      omega
theorem dec_reach (s : ByteArray) (l : List S67) (hl : Apart S67.f0 l) : ∀ (rs : List S55) (bs : List S85), (∀ r ∈ rs, r.f1 ≤ r.f2) → Apart S55.f0 rs → (∀ r ∈ rs, ¬ r.f0.toList = s.toList → ∀ b ∈ bs, ¬ b.f0.toList = r.f0.toList) → ∀ v,
    (∃ y, 0 ≤ y ∧ y < prodN s rs ∧ sumB (decB s rs y bs) l = v) ↔ Reach (coefL S67.f0 S67.f1 l) s rs (sumB bs l) v
  | [], bs, _, _, _, v => by
    simp only [decB, prodN, Reach]
    constructor
    · rintro ⟨y, _, _, h⟩
      exact h.symm
    · intro h
      exact ⟨0, by omega, by omega, h.symm⟩
  | r :: rs, bs, hle, hap, hbs, v => by
    have hp := List.pairwise_cons.1 hap
    have hle' : ∀ x ∈ rs, x.f1 ≤ x.f2 := fun x hx => hle x (List.mem_cons_of_mem _ hx)
    by_cases e : r.f0.toList = s.toList
    · simp only [decB, prodN, Reach, e, if_true]
      exact dec_reach s l hl rs bs hle' hp.2 (fun x hx => hbs x (List.mem_cons_of_mem _ hx)) v
    · simp only [decB, prodN, Reach, e, if_false]
      have h1 := hle r List.mem_cons_self
      have hm : 0 < szR r := by unfold szR; omega
      have hb := hbs r List.mem_cons_self e
      have ih := fun n => dec_reach s l hl rs (⟨r.f0, n⟩ :: bs) hle' hp.2 (fun x hx hn b hb' => by
        rcases List.mem_cons.1 hb' with rfl | hb'
        · exact hp.1 x hx
        · exact hbs x (List.mem_cons_of_mem _ hx) hn b hb')
      have sc : ∀ n, sumB (⟨r.f0, n⟩ :: bs) l = sumB bs l + coefL S67.f0 S67.f1 l r.f0 * n := by
        intro n
        rw [sumB_cons ⟨r.f0, n⟩ bs hb l hl]
        exact Int.add_comm _ _
      constructor
      · rintro ⟨y, y0, y1, hv⟩
        rw [Int.tdiv_eq_ediv_of_nonneg y0, Int.tmod_eq_emod_of_nonneg y0] at hv
        have m0 := Int.emod_nonneg y (show szR r ≠ 0 by omega)
        have m1 := Int.emod_lt_of_pos y hm
        refine ⟨r.f1 + y % szR r, by omega, by unfold szR at m1 ⊢; omega, ?_⟩
        rw [← sc]
        refine (ih _ v).1 ⟨y / szR r, Int.ediv_nonneg y0 (by omega), ?_, hv⟩
        exact Int.ediv_lt_of_lt_mul hm (by rw [Int.mul_comm]; exact y1)
      · rintro ⟨n, n1, n2, hv⟩
        rw [← sc] at hv
        obtain ⟨y, y0, y1, hy⟩ := (ih n v).2 hv
        have k0 : 0 ≤ n - r.f1 := by omega
        have k1 : n - r.f1 < szR r := by unfold szR; omega
        have p0 : 0 ≤ y * szR r := Int.mul_nonneg y0 (by omega)
        refine ⟨n - r.f1 + y * szR r, by omega, ?_, ?_⟩
        · have a : 0 ≤ (prodN s rs - 1 - y) * szR r := Int.mul_nonneg (by omega) (by omega)
          rw [Int.sub_mul, Int.sub_mul] at a
          rw [Int.mul_comm (szR r)]
          omega
        · rw [Int.tdiv_eq_ediv_of_nonneg (by omega), Int.tmod_eq_emod_of_nonneg (by omega), Int.add_mul_emod_self_right, Int.emod_eq_of_lt k0 k1, Int.add_mul_ediv_right _ _ (by omega), Int.ediv_eq_zero_of_lt k0 k1, Int.zero_add]
          rw [show r.f1 + (n - r.f1) = n by omega]
          exact hy
def rangeL : Int → Nat → List Int
  | _, 0 => []
  | n, d + 1 => n :: rangeL (n + 1) d
theorem mem_rangeL (v : Int) : ∀ (d : Nat) (n : Int), v ∈ rangeL n d ↔ n ≤ v ∧ v < n + d
  | 0, n => by
    simp only [rangeL, List.not_mem_nil, false_iff]
    omega
  | d + 1, n => by
    simp only [rangeL, List.mem_cons, mem_rangeL v d (n + 1)]
    omega
theorem rangeL_length : ∀ (d : Nat) (n : Int), (rangeL n d).length = d
  | 0, _ => rfl
  | d + 1, n => by simp [rangeL, rangeL_length d]
def stepL (c : Int) (r : S55) (x : Int) : List Int := (rangeL r.f1 (szR r).toNat).map fun n => wrap64 (x + wrap64 (c * n))
def valsL (co : ByteArray → Int) (s : ByteArray) : List S55 → List Int → List Int
  | [], out => out
  | r :: rs, out => if r.f0.toList = s.toList ∨ co r.f0 = 0 then valsL co s rs out else valsL co s rs (out.flatMap (stepL (co r.f0) r))
theorem flat_len (c : Int) (r : S55) : ∀ (out : List Int), (out.flatMap (stepL c r)).length = out.length * (szR r).toNat
  | [] => by simp
  | x :: xs => by
    rw [List.flatMap_cons, List.length_append, flat_len c r xs]
    simp only [stepL, List.length_map, rangeL_length, List.length_cons, Nat.succ_mul]
    omega
def InR (l : List Int) : Prop := ∀ x ∈ l, -9223372036854775808 ≤ x ∧ x < 9223372036854775808
theorem flat_in (c : Int) (r : S55) (out : List Int) : InR (out.flatMap (stepL c r)) := by
  intro x hx
  obtain ⟨y, _, hy⟩ := List.mem_flatMap.1 hx
  obtain ⟨n, _, rfl⟩ := List.mem_map.1 hy
  exact wrap64_range _
theorem vals_reach (co : ByteArray → Int) (s : ByteArray) : ∀ (rs : List S55) (out : List Int), (∀ r ∈ rs, r.f1 ≤ r.f2) → InR out → InR (valsL co s rs out) ∧ ∀ v, v ∈ valsL co s rs out ↔ ∃ x ∈ out, ∃ u, Reach co s rs x u ∧ v = wrap64 u
  | [], out, _, hin => by
    refine ⟨hin, fun v => ?_⟩
    simp only [valsL, Reach]
    constructor
    · intro hv
      exact ⟨v, hv, v, rfl, (w64 (hin v hv).1 (hin v hv).2).symm⟩
    · rintro ⟨x, hx, u, rfl, rfl⟩
      rw [w64 (hin u hx).1 (hin u hx).2]
      exact hx
  | r :: rs, out, hle, hin => by
    have h1 := hle r List.mem_cons_self
    have hle' : ∀ x ∈ rs, x.f1 ≤ x.f2 := fun x hx => hle x (List.mem_cons_of_mem _ hx)
    by_cases e : r.f0.toList = s.toList
    · simp only [valsL, Reach, e, true_or, if_true]
      exact vals_reach co s rs out hle' hin
    · by_cases e0 : co r.f0 = 0
      · simp only [valsL, Reach, e, e0, or_true, if_true, if_false, Int.zero_mul, Int.add_zero]
        have ih := vals_reach co s rs out hle' hin
        refine ⟨ih.1, fun v => (ih.2 v).trans ?_⟩
        constructor
        · rintro ⟨x, hx, u, hu, hv⟩
          exact ⟨x, hx, u, ⟨r.f1, Int.le_refl _, h1, hu⟩, hv⟩
        · rintro ⟨x, hx, u, ⟨_, _, _, hu⟩, hv⟩
          exact ⟨x, hx, u, hu, hv⟩
      · simp only [valsL, Reach, e, e0, or_false, if_false]
        have ih := vals_reach co s rs (out.flatMap (stepL (co r.f0) r)) hle' (flat_in _ _ _)
        refine ⟨ih.1, fun v => (ih.2 v).trans ?_⟩
        constructor
        · rintro ⟨y, hy, u, hu, hv⟩
          obtain ⟨x, hx, hy⟩ := List.mem_flatMap.1 hy
          obtain ⟨n, hn, rfl⟩ := List.mem_map.1 hy
          have hn' := (mem_rangeL n _ _).1 hn
          rw [wrap_addR] at hu
          obtain ⟨t, ht⟩ := wrap_rep (x + co r.f0 * n)
          rw [ht] at hu
          have := Reach_shift co s (-(18446744073709551616 * t)) rs _ _ hu
          rw [show x + co r.f0 * n + 18446744073709551616 * t + -(18446744073709551616 * t) = x + co r.f0 * n by omega] at this
          refine ⟨x, hx, _, ⟨n, hn'.1, ?_, this⟩, ?_⟩
          · have := hn'.2
            unfold szR at this
            omega
          · rw [hv, show u + -(18446744073709551616 * t) = u + 18446744073709551616 * (-t) by omega, wrap_per]
        · rintro ⟨x, hx, u, ⟨n, n1, n2, hu⟩, hv⟩
          obtain ⟨t, ht⟩ := wrap_rep (x + co r.f0 * n)
          have := Reach_shift co s (18446744073709551616 * t) rs _ _ hu
          rw [← ht] at this
          refine ⟨wrap64 (x + co r.f0 * n), List.mem_flatMap.2 ⟨x, hx, List.mem_map.2 ⟨n, (mem_rangeL n _ _).2 ⟨n1, by unfold szR; omega⟩, by rw [wrap_addR]⟩⟩, _, this, ?_⟩
          rw [hv, wrap_per]
theorem rnd_prod : ∀ (l : List S55) (n : Int), (∀ r ∈ l, r.f1 ≤ r.f2) → 1 ≤ n → rndL S55.f1 S55.f2 l n ≤ 600 → rndL S55.f1 S55.f2 l n = n * prodA l
  | [], n, _, _, _ => by simp [rndL, prodA]
  | r :: rs, n, h, hn, hr => by
    have h1 := h r List.mem_cons_self
    have h' : ∀ x ∈ rs, x.f1 ≤ x.f2 := fun x hx => h x (List.mem_cons_of_mem _ hx)
    have a : 0 ≤ (n - 1) * (r.f2 - r.f1) := Int.mul_nonneg (by omega) (by omega)
    have b : 1 ≤ n * (r.f2 - r.f1 + 1) := by
      simp only [Int.sub_mul, Int.mul_sub, Int.mul_add] at a ⊢
      omega
    simp only [rndL, prodA] at hr ⊢
    by_cases c : n * (r.f2 - r.f1 + 1) < 1000000
    · rw [show mn (n * (r.f2 - r.f1 + 1)) 1000000 = n * (r.f2 - r.f1 + 1) by unfold mn; split <;> omega] at hr ⊢
      rw [rnd_prod rs _ h' b hr, Int.mul_assoc]
      rfl
    · rw [show mn (n * (r.f2 - r.f1 + 1)) 1000000 = 1000000 by unfold mn; split <;> omega, rndL_top _ _ rs h'] at hr
      omega
theorem prodA_pos : ∀ (rs : List S55), (∀ r ∈ rs, r.f1 ≤ r.f2) → 1 ≤ prodA rs
  | [], _ => by simp [prodA]
  | r :: rs, h => by
    have h1 := h r List.mem_cons_self
    have ih := prodA_pos rs fun x hx => h x (List.mem_cons_of_mem _ hx)
    unfold prodA
    have a : 0 ≤ (szR r - 1) * prodA rs := Int.mul_nonneg (by unfold szR; omega) (by omega)
    rw [Int.sub_mul] at a
    omega
theorem prodN_none (s : ByteArray) : ∀ (rs : List S55), (∀ r ∈ rs, ¬ r.f0.toList = s.toList) → prodN s rs = prodA rs
  | [], _ => rfl
  | r :: rs, h => by
    unfold prodN prodA
    rw [if_neg (h r List.mem_cons_self), prodN_none s rs fun x hx => h x (List.mem_cons_of_mem _ hx)]
theorem prodA_eq (s : ByteArray) : ∀ (rs : List S55), Apart S55.f0 rs → ∀ q ∈ rs, q.f0.toList = s.toList → prodA rs = prodN s rs * szR q
  | r :: rs, hap, q, hq, e => by
    have hp := List.pairwise_cons.1 hap
    unfold prodN prodA
    rcases List.mem_cons.1 hq with rfl | hq
    · rw [if_pos e, prodN_none s rs fun x hx e2 => hp.1 x hx (e.trans e2.symm), Int.mul_comm]
    · have : ¬ r.f0.toList = s.toList := fun e2 => hp.1 q hq (e2.trans e.symm)
      rw [if_neg this, prodA_eq s rs hp.2 q hq e, Int.mul_assoc]
theorem prodN_le (s : ByteArray) : ∀ (rs : List S55), (∀ r ∈ rs, r.f1 ≤ r.f2) → prodN s rs ≤ prodA rs
  | [], _ => Int.le_refl _
  | r :: rs, h => by
    have h1 := h r List.mem_cons_self
    have h' : ∀ x ∈ rs, x.f1 ≤ x.f2 := fun x hx => h x (List.mem_cons_of_mem _ hx)
    have ih := prodN_le s rs h'
    have pa := prodA_pos rs h'
    unfold prodN prodA
    by_cases e : r.f0.toList = s.toList
    · rw [if_pos e]
      have a : 0 ≤ (szR r - 1) * prodA rs := Int.mul_nonneg (by unfold szR; omega) (by omega)
      rw [Int.sub_mul] at a
      omega
    · rw [if_neg e]
      exact Int.mul_le_mul_of_nonneg_left ih (by unfold szR; omega)
theorem less_lt (x y : List UInt8) : Op.bytesLess x y = true → Op.bytesLess y x = false ∧ ¬ x = y := by
  induction x generalizing y with
  | nil => cases y <;> simp [Op.bytesLess]
  | cons a x ih =>
    cases y with
    | nil => simp [Op.bytesLess]
    | cons b y =>
      simp only [Op.bytesLess, Bool.or_eq_true, Bool.and_eq_true, decide_eq_true_eq, beq_iff_eq]
      rintro (h | ⟨rfl, h⟩)
      · have hn : ¬ b < a := fun h2 => absurd (UInt8.lt_trans h h2) (UInt8.lt_irrefl _)
        have hne : ¬ b = a := fun h2 => by subst h2; exact UInt8.lt_irrefl _ h
        have hne' : ¬ a = b := fun h2 => hne h2.symm
        simp [hn, hne, hne']
      · have := ih y h
        simp [this.1, this.2]
theorem less_trans (x y z : List UInt8) : Op.bytesLess x y = true → Op.bytesLess y z = true → Op.bytesLess x z = true := by
  induction x generalizing y z with
  | nil =>
    cases z with
    | nil => cases y <;> simp [Op.bytesLess]
    | cons c z => intros; simp [Op.bytesLess]
  | cons a x ih =>
    cases y with
    | nil => simp [Op.bytesLess]
    | cons b y =>
      cases z with
      | nil => simp [Op.bytesLess]
      | cons c z =>
        simp only [Op.bytesLess, Bool.or_eq_true, Bool.and_eq_true, decide_eq_true_eq, beq_iff_eq]
        rintro (h | ⟨rfl, h⟩) (h2 | ⟨rfl, h2⟩)
        · exact .inl (UInt8.lt_trans h h2)
        · exact .inl h
        · exact .inl h2
        · exact .inr ⟨rfl, ih y z h h2⟩
theorem affOk_above : ∀ (l : List S67) (p : ByteArray), affOkL S67.f0 S67.f1 (some p) l = true → ∀ x ∈ l, Op.bytesLess p.toList x.f0.toList = true
  | [], _, _ => by simp
  | x :: xs, p, h => by
    simp only [affOkL, lessO, Bool.and_eq_true] at h
    intro y hy
    rcases List.mem_cons.1 hy with rfl | hy
    · exact h.1.2
    · exact less_trans _ _ _ h.1.2 (affOk_above xs x.f0 h.2 y hy)
theorem affOk_apart : ∀ (l : List S67) (p : Option ByteArray), affOkL S67.f0 S67.f1 p l = true → Apart S67.f0 l
  | [], _, _ => List.Pairwise.nil
  | x :: xs, p, h => by
    simp only [affOkL, Bool.and_eq_true] at h
    refine List.pairwise_cons.2 ⟨fun y hy => ?_, affOk_apart xs _ h.2⟩
    exact (less_lt _ _ (affOk_above xs x.f0 h.2 y hy)).2
theorem boxOk_idx (all : List S55) : ∀ (l : List S55) (i : Nat), boxOkL S55.f0 S55.f1 S55.f2 all i l = true → ∀ j (h : j < l.length), idxL S55.f0 0 all l[j].f0 = ((i + j : Nat) : Int)
  | x :: xs, i, h, 0, _ => by
    simp only [boxOkL, Bool.and_eq_true, decide_eq_true_eq] at h
    exact h.1.2
  | x :: xs, i, h, j + 1, hj => by
    simp only [boxOkL, Bool.and_eq_true, decide_eq_true_eq] at h
    have := boxOk_idx all xs (i + 1) h.2 j (by simpa using hj)
    rw [List.getElem_cons_succ, this]
    congr 1
    omega
theorem idx_congr (s t : ByteArray) (e : s.toList = t.toList) : ∀ (l : List S55) (i : Nat), idxL S55.f0 i l s = idxL S55.f0 i l t
  | [], _ => rfl
  | x :: xs, i => by
    simp only [idxL]
    rw [e, idx_congr s t e xs (i + 1)]
theorem box_apart {l : List S55} (h : fullS S55.f0 S55.f1 S55.f2 l = true) : Apart S55.f0 l := by
  simp only [fullS, Bool.and_eq_true] at h
  refine List.pairwise_iff_getElem.2 fun i j hi hj hij e => ?_
  have a := boxOk_idx l l 0 h.2 i hi
  have b := boxOk_idx l l 0 h.2 j hj
  rw [idx_congr _ _ e] at a
  rw [a] at b
  omega
theorem sz_wrap {r : S55} (h1 : r.f1 ≤ r.f2) (h2 : -10000 ≤ r.f1) (h3 : r.f2 ≤ 10000) : wrap64 (wrap64 (r.f2 - r.f1) + 1) = szR r := by
  rw [w64 (x := r.f2 - r.f1) (by omega) (by omega), w64 (by omega) (by omega)]
  rfl
theorem dec_step {r : S55} (y : Int) (r1 : r.f1 ≤ r.f2) (r2 : -10000 ≤ r.f1) (r5 : r.f2 ≤ 10000) (hy0 : 0 ≤ y) (hy : y ≤ 1000000) : wrap64 (wrap64 (r.f2 - r.f1) + 1) = szR r ∧ ¬ szR r = 0 ∧ 0 ≤ Int.tdiv y (szR r) ∧ Int.tdiv y (szR r) ≤ y ∧ wrap64 (r.f1 + Int.tmod y (szR r)) = r.f1 + Int.tmod y (szR r) ∧ wrap64 (Int.tdiv y (szR r)) = Int.tdiv y (szR r) := by
  have hsz := sz_wrap r1 r2 r5
  have hs0 : 1 ≤ szR r := by unfold szR; omega
  have hs1 : szR r ≤ 20001 := by unfold szR; omega
  generalize szR r = z at *
  have m0 := Int.emod_nonneg y (show z ≠ 0 by omega)
  have m1 := Int.emod_lt_of_pos y (show 0 < z by omega)
  have d0 : 0 ≤ y / z := Int.ediv_nonneg hy0 (by omega)
  have d1 : y / z ≤ y := Int.ediv_le_self _ hy0
  rw [← Int.tdiv_eq_ediv_of_nonneg (b := z) hy0] at d0 d1
  rw [← Int.tmod_eq_emod_of_nonneg (b := z) hy0] at m0 m1
  generalize Int.tdiv y z = q at *
  generalize Int.tmod y z = m at *
  exact ⟨hsz, by omega, d0, d1, w64 (by omega) (by omega), w64 (by omega) (by omega)⟩
theorem rd_mem (box : List S55) {p : Nat} (h : p < box.length) : rd_T55 box (p : Int) ∈ box := by
  unfold rd_T55
  rw [Int.toNat_natCast]
  exact getD_mem box _ h
theorem impl_valuesOf_ev (c : Int) (l : List S67) (s : ByteArray) (i : Int) (box : List S55) (hl : l.length ≤ maxLen) (hc : -9223372036854775808 ≤ c ∧ c < 9223372036854775808) (hbl : box.length ≤ 8)
    (hb : ∀ r ∈ box, r.f1 ≤ r.f2 ∧ -10000 ≤ r.f1 ∧ r.f1 ≤ 10000 ∧ -10000 ≤ r.f2 ∧ r.f2 ≤ 10000) (hP : prodA box ≤ 600) :
    ∃ xs, Ev (fun k => impl_valuesOf.f k c l s i box) xs ∧ xs.length ≤ 600 ∧ xs = valsL (coefL S67.f0 S67.f1 l) s box [wrap64 (c + sumB [⟨s, i⟩] l)] := by
  have wd : 8 ≤ maxLen := by decide
  have at_ := impl_AffAt_ev c l [⟨s, i⟩] hl (by simp only [List.length_cons, List.length_nil]; omega)
  rw [affAt_sum _ l c hc.1 hc.2] at at_
  have L2 : ∀ (r : S55) (x co : Int) (j p : Nat) (out : List Int) (v : List Int), -10000 ≤ r.f1 → r.f2 ≤ 10000 → (j : Int) + 1 ≤ 1000 →
      ∀ (d : Nat) (n : Int) (acc : List Int), n + d = r.f2 + 1 → r.f1 ≤ n → acc.length + d ≤ 1000000 →
      Ev (fun k => impl_valuesOf.l1 k s co (acc ++ (rangeL n d).map fun n => wrap64 (x + wrap64 (co * n))) box (box.length : Int) (p : Int) out (out.length : Int) ((j + 1 : Nat) : Int) c l r.f0 r.f1 r.f2) v →
      Ev (fun k => impl_valuesOf.l2 k s co acc x n box (box.length : Int) (p : Int) out (out.length : Int) (j : Int) c l r.f0 r.f1 r.f2) v := by
    intro r x co j p out v r1 r2 hj d
    induction d with
    | zero =>
      intro n acc hn hn1 _ H
      refine Ev.step (fun k => by rw [impl_valuesOf.l2]) ?_
      have cx : ¬ n ≤ r.f2 := by omega
      have hw : wrap64 ((j : Int) + 1) = ((j + 1 : Nat) : Int) := by rw [w64 (by omega) (by omega)]; omega
      simp only [cx, if_false, hw]
      simpa only [rangeL, List.map_nil, List.append_nil] using H
    | succ d ih =>
      intro n acc hn hn1 ha H
      refine Ev.step (fun k => by rw [impl_valuesOf.l2]) ?_
      have cx : n ≤ r.f2 := by omega
      have cl : acc.length < 17592186044416 := by omega
      have hw : wrap64 (n + 1) = n + 1 := w64 (by omega) (by omega)
      simp only [cx, cl, if_true, hw]
      refine ih (n + 1) _ (by omega) (by omega) (by simp; omega) ?_
      simpa only [rangeL, List.map_cons, List.append_assoc, List.cons_append, List.nil_append] using H
  have L1 : ∀ (r : S55) (co : Int) (p : Nat) (out : List Int) (v : List Int), r.f1 ≤ r.f2 → -10000 ≤ r.f1 → r.f2 ≤ 10000 → out.length * (szR r).toNat ≤ 600 → out.length ≤ 600 → (p : Int) + 1 ≤ 1000 →
      ∀ (d : Nat) (j : Nat) (acc : List Int), j + d = out.length → acc.length + d * (szR r).toNat ≤ 600 →
      Ev (fun k => impl_valuesOf.l0 k s (acc ++ (out.drop j).flatMap (stepL co r)) box (box.length : Int) ((p + 1 : Nat) : Int) c l) v →
      Ev (fun k => impl_valuesOf.l1 k s co acc box (box.length : Int) (p : Int) out (out.length : Int) (j : Int) c l r.f0 r.f1 r.f2) v := by
    intro r co p out v r0 r1 r2 ho ho2 hp d
    induction d with
    | zero =>
      intro j acc hj _ H
      refine Ev.step (fun k => by rw [impl_valuesOf.l1]) ?_
      have cx : ¬ (j : Int) < (out.length : Int) := by omega
      have hw : wrap64 ((p : Int) + 1) = ((p + 1 : Nat) : Int) := by rw [w64 (by omega) (by omega)]; omega
      simp only [cx, if_false, hw]
      rw [List.drop_eq_nil_of_le (by omega)] at H
      simpa only [List.flatMap_nil, List.append_nil] using H
    | succ d ih =>
      intro j acc hj ha H
      refine Ev.step (fun k => by rw [impl_valuesOf.l1]) ?_
      have cx : (j : Int) < (out.length : Int) := by omega
      have cx0 : (0 : Int) ≤ (j : Int) := by omega
      rw [Nat.succ_mul] at ha
      simp only [cx, cx0, if_true]
      refine L2 r (rd out (j : Int)) co j p out v r1 r2 (by omega) (szR r).toNat r.f1 acc (by unfold szR; omega) (Int.le_refl _) (by omega) ?_
      refine ih (j + 1) _ (by omega) (by simp only [List.length_append, List.length_map, rangeL_length]; omega) ?_
      have hd : out.drop j = rd out (j : Int) :: out.drop (j + 1) := drop_cons out _ (by omega)
      rw [hd, List.flatMap_cons, ← List.append_assoc] at H
      exact H
  have L0 : ∀ (d p : Nat) (out : List Int), p + d = box.length → (out.length : Int) * prodA (box.drop p) ≤ 600 → ∃ xs, Ev (fun k => impl_valuesOf.l0 k s out box (box.length : Int) (p : Int) c l) xs ∧ xs.length ≤ 600 ∧ xs = valsL (coefL S67.f0 S67.f1 l) s (box.drop p) out := by
    intro d
    induction d with
    | zero =>
      intro p out hp ho
      rw [List.drop_eq_nil_of_le (by omega)] at ho ⊢
      refine ⟨out, Ev.step (fun k => by rw [impl_valuesOf.l0]) ?_, ?_, rfl⟩
      · have cx : ¬ (p : Int) < (box.length : Int) := by omega
        simp only [cx, if_false]
        exact Ev.now _
      · simp only [prodA, Int.mul_one] at ho
        omega
    | succ d ih =>
      intro p out hp ho
      have hd : box.drop p = rd_T55 box (p : Int) :: box.drop (p + 1) := drop_cons box _ (by omega)
      have hm : rd_T55 box (p : Int) ∈ box := getD_mem box _ (by omega)
      obtain ⟨r1, r2, r3, r4, r5⟩ := hb _ hm
      have pr := prodA_pos (box.drop (p + 1)) fun x hx => (hb x (List.mem_of_mem_drop hx)).1
      rw [hd] at ho ⊢
      simp only [prodA] at ho
      have cx : (p : Int) < (box.length : Int) := by omega
      have cx0 : (0 : Int) ≤ (p : Int) := by omega
      have hw : wrap64 ((p : Int) + 1) = ((p + 1 : Nat) : Int) := by rw [w64 (by omega) (by omega)]; omega
      have hsz : 1 ≤ szR (rd_T55 box (p : Int)) := by unfold szR; omega
      have hco := impl_CoefOf_ev c l (rd_T55 box (p : Int)).f0 hl
      generalize hr : rd_T55 box (p : Int) = r at *
      have q1 : (out.length : Int) * prodA (box.drop (p + 1)) ≤ 600 := by
        have a : 0 ≤ (out.length : Int) * ((szR r - 1) * prodA (box.drop (p + 1))) := Int.mul_nonneg (by omega) (Int.mul_nonneg (by omega) (by omega))
        rw [Int.sub_mul, Int.mul_sub, Int.one_mul] at a
        omega
      have q2 : (out.length : Int) * szR r * prodA (box.drop (p + 1)) ≤ 600 := by
        rw [Int.mul_assoc]
        exact ho
      have q3 : (out.length : Int) * szR r ≤ 600 := by
        have a : 0 ≤ ((out.length : Int) * szR r) * (prodA (box.drop (p + 1)) - 1) := Int.mul_nonneg (Int.mul_nonneg (by omega) (by omega)) (by omega)
        rw [Int.mul_sub, Int.mul_one] at a
        omega
      have q4 : (out.length : Int) ≤ 600 := by
        have a : 0 ≤ (out.length : Int) * (szR r - 1) := Int.mul_nonneg (by omega) (by omega)
        rw [Int.mul_sub, Int.mul_one] at a
        omega
      have skip : ∀ xs, Ev (fun k => impl_valuesOf.l0 k s out box (box.length : Int) ((p + 1 : Nat) : Int) c l) xs → Ev (fun k => impl_valuesOf.j1 k s out (coefL S67.f0 S67.f1 l r.f0) box (box.length : Int) (p : Int) true c l r.f0 r.f1 r.f2) xs := by
        intro xs hxs
        refine Ev.step (fun k => by rw [impl_valuesOf.j1]) ?_
        simp only [if_true, hw]
        exact hxs
      by_cases e : r.f0.toList = s.toList
      · obtain ⟨xs, h1, h2, h3⟩ := ih (p + 1) out (by omega) q1
        refine ⟨xs, Ev.step (fun k => by rw [impl_valuesOf.l0]) ?_, h2, ?_⟩
        · simp only [cx, cx0, if_true, hr]
          refine Ev.then hco ?_
          simp only [e, if_true]
          exact skip xs h1
        · rw [h3]
          simp only [valsL, e, true_or, if_true]
      · by_cases e0 : coefL S67.f0 S67.f1 l r.f0 = 0
        · obtain ⟨xs, h1, h2, h3⟩ := ih (p + 1) out (by omega) q1
          refine ⟨xs, Ev.step (fun k => by rw [impl_valuesOf.l0]) ?_, h2, ?_⟩
          · simp only [cx, cx0, if_true, hr]
            refine Ev.then hco ?_
            rw [show ((coefL S67.f0 S67.f1 l r.f0) == 0) = true by simp [e0]]
            simp only [e, if_false]
            exact skip xs h1
          · rw [h3]
            simp only [valsL, e0, or_true, if_true]
        · have fl := flat_len (coefL S67.f0 S67.f1 l r.f0) r out
          have cast : ((szR r).toNat : Int) = szR r := by omega
          have hn : out.length * (szR r).toNat ≤ 600 := by
            have : ((out.length * (szR r).toNat : Nat) : Int) = (out.length : Int) * szR r := by rw [Int.natCast_mul, cast]
            omega
          obtain ⟨xs, h1, h2, h3⟩ := ih (p + 1) (out.flatMap (stepL (coefL S67.f0 S67.f1 l r.f0) r)) (by omega) (by rw [fl, Int.natCast_mul, cast]; exact q2)
          refine ⟨xs, Ev.step (fun k => by rw [impl_valuesOf.l0]) ?_, h2, ?_⟩
          · simp only [cx, cx0, if_true, hr]
            refine Ev.then hco ?_
            rw [show ((coefL S67.f0 S67.f1 l r.f0) == 0) = false by simp [e0]]
            simp only [e, if_false]
            refine Ev.step (fun k => by rw [impl_valuesOf.j1]) ?_
            simp only [Bool.false_eq_true, if_false]
            refine L1 r _ p out xs r1 r2 r5 hn (by omega) (by omega) out.length 0 [] (by omega) (by simp only [List.length_nil]; omega) ?_
            simpa only [List.nil_append, List.drop_zero] using h1
          · rw [h3]
            simp only [valsL, e, e0, or_false, if_false]
  unfold impl_valuesOf.f
  obtain ⟨xs, h1, h2, h3⟩ := L0 box.length 0 [wrap64 (c + sumB [⟨s, i⟩] l)] (by omega) (by simp only [List.length_cons, List.length_nil, List.drop_zero]; omega)
  rw [List.drop_zero] at h3
  exact ⟨xs, Ev.then at_ h1, h2, h3⟩
theorem spec_l11Vals_ev (c : Int) (l : List S67) (s : ByteArray) (i : Int) (box : List S55) (hl : l.length ≤ maxLen) (hc : -9223372036854775808 ≤ c ∧ c < 9223372036854775808) (hbs : ∀ x ∈ box, x.f0.size ≤ maxLen)
    (hfu : fullS S55.f0 S55.f1 S55.f2 box = true) (hP : rndS S55.f0 S55.f1 S55.f2 box ≤ 600) :
    ∃ d : Nat, (d : Int) = prodN s box ∧ Ev (fun k => spec_l11Vals.f k c l s i box) ((rangeL 0 d).map fun y => wrap64 (c + sumB (decB s box y [⟨s, i⟩]) l)) := by
  have wd : 600 ≤ maxLen := by decide
  obtain ⟨hb, hb8⟩ := fullS_mem S55.f0 S55.f1 S55.f2 hfu
  have hle : ∀ r ∈ box, r.f1 ≤ r.f2 := fun r hr => (hb r hr).1
  have hap := box_apart hfu
  have hbx : boxOkL S55.f0 S55.f1 S55.f2 box 0 box = true := by
    have := hfu
    simp only [fullS, Bool.and_eq_true] at this
    exact this.2
  have rnd := spec_Rounds_ev box (by omega) hbs
  have hR : rndS S55.f0 S55.f1 S55.f2 box = prodA box := by
    unfold rndS at hP ⊢
    rw [if_pos hfu] at hP ⊢
    rw [rnd_prod box 1 hle (by omega) hP, Int.one_mul]
  rw [hR] at rnd hP
  have pA := prodA_pos box hle
  have pN := prodN_pos s box hle
  have pL := prodN_le s box hle
  have ix := spec_l9At_ev box s (by omega)
  have hk : ∀ j, j < box.length → ((rd_T55 box (j : Int)).f0.toList = s.toList ↔ (j : Int) = idxL S55.f0 0 box s) := by
    intro j hj
    have hrd : rd_T55 box (j : Int) = box[j] := by
      unfold rd_T55
      rw [Int.toNat_natCast, List.getD_eq_getElem?_getD, List.getElem?_eq_getElem hj, Option.getD_some]
    rw [hrd]
    have hj' := boxOk_idx box box 0 hbx j hj
    constructor
    · intro e
      rw [← idx_congr _ _ e, hj']
      omega
    · intro e
      rcases idx_find S55.f0 z55 box 0 s with ⟨h1, h2⟩ | ⟨j2, h1, h2, h3⟩
      · omega
      · have : j2 = j := by omega
        subst this
        have := findR_mem S55.f0 h3
        rw [List.getD_eq_getElem?_getD, List.getElem?_eq_getElem h1, Option.getD_some] at this
        exact this.2
  refine ⟨(prodN s box).toNat, by omega, ?_⟩
  have L1 : ∀ (x : Int) (acc v : List Int), acc.length < 17592186044416 → 0 ≤ x → x + 1 ≤ 1000000 → ∀ (d p : Nat) (bs : List S85) (y : Int), p + d = box.length → bs.length ≤ 1 + p → 0 ≤ y → y ≤ 1000000 →
      Ev (fun k => spec_l11Vals.l0 k s i box (acc ++ [wrap64 (c + sumB (decB s (box.drop p) y bs) l)]) (prodN s box) (idxL S55.f0 0 box s) (x + 1) c l) v →
      Ev (fun k => spec_l11Vals.l1 k s i box acc (prodN s box) (idxL S55.f0 0 box s) x bs y (p : Int) c l) v := by
    intro x acc v ha hx0 hx d
    induction d with
    | zero =>
      intro p bs y hp hbs' _ _ H
      refine Ev.step (fun k => by rw [spec_l11Vals.l1]) ?_
      have cx : ¬ (p : Int) < (box.length : Int) := by omega
      simp only [cx, if_false]
      have at_ := spec_AffAt_ev c l bs hl (by omega) (w64 hc.1 hc.2)
      rw [affAt_sum _ l c hc.1 hc.2] at at_
      refine Ev.then at_ ?_
      have hw : wrap64 (x + 1) = x + 1 := w64 (by omega) (by omega)
      simp only [ha, if_true, hw]
      rw [List.drop_eq_nil_of_le (by omega)] at H
      exact H
    | succ d ih =>
      intro p bs y hp hbs' hy0 hy H
      have o1 : p + 1 + d = box.length := by omega
      have o2 : bs.length ≤ 1 + (p + 1) := by omega
      have o3 : 1 + bs.length ≤ 1 + (p + 1) := by omega
      have o4 : 1 + bs.length < 5864062014805 := by omega
      refine Ev.step (fun k => by rw [spec_l11Vals.l1]) ?_
      have cx : (p : Int) < (box.length : Int) := by omega
      have cx0 : (0 : Int) ≤ (p : Int) := by omega
      have hw : wrap64 ((p : Int) + 1) = ((p + 1 : Nat) : Int) := by rw [w64 (by omega) (by omega)]; omega
      have hpl : p < box.length := by omega
      have hd : box.drop p = rd_T55 box (p : Int) :: box.drop (p + 1) := drop_cons box _ hpl
      have hm : rd_T55 box (p : Int) ∈ box := rd_mem box hpl
      obtain ⟨r1, r2, r3, r4, r5⟩ := hb _ hm
      have hkp := hk p hpl
      rw [hd] at H
      simp only [cx, if_true, hw]
      by_cases e : (p : Int) = idxL S55.f0 0 box s
      · rw [decB, if_pos (hkp.2 e)] at H
        simp only [if_pos e]
        exact ih (p + 1) bs y o1 o2 hy0 hy H
      · have ne : ¬ (rd_T55 box (p : Int)).f0.toList = s.toList := fun h => e (hkp.1 h)
        obtain ⟨hsz, hsn, d0, d1, w1, w2⟩ := dec_step y r1 r2 r5 hy0 hy
        have ln : ([⟨(rd_T55 box (p : Int)).f0, (rd_T55 box (p : Int)).f1 + Int.tmod y (szR (rd_T55 box (p : Int)))⟩] : List S85).length + bs.length < 5864062014805 := by
          simp only [List.length_cons, List.length_nil, Nat.zero_add]
          exact o4
        simp only [e, cx0, hsz, hsn, if_true, if_false, w1, w2, Option.bind_some, ln]
        refine ih (p + 1) _ _ o1 (by simp only [List.length_append, List.length_cons, List.length_nil, Nat.zero_add]; exact o3) d0 (Int.le_trans d1 hy) ?_
        simpa only [decB, ne, if_false, List.cons_append, List.nil_append] using H
  have L0 : ∀ (d : Nat) (x : Int) (acc : List Int), x + d = prodN s box → 0 ≤ x → (acc.length : Int) ≤ x → Ev (fun k => spec_l11Vals.l0 k s i box acc (prodN s box) (idxL S55.f0 0 box s) x c l) (acc ++ (rangeL x d).map fun y => wrap64 (c + sumB (decB s box y [⟨s, i⟩]) l)) := by
    intro d
    induction d with
    | zero =>
      intro x acc hx _ _
      refine Ev.step (fun k => by rw [spec_l11Vals.l0]) ?_
      have cx : ¬ x < prodN s box := by omega
      simp only [cx, if_false, rangeL, List.map_nil, List.append_nil]
      exact Ev.now _
    | succ d ih =>
      intro x acc hx hx0 ha
      refine Ev.step (fun k => by rw [spec_l11Vals.l0]) ?_
      have cx : x < prodN s box := by omega
      simp only [cx, if_true]
      refine L1 x acc _ (by omega) hx0 (by omega) box.length 0 [⟨s, i⟩] x (by omega) (by simp only [List.length_cons, List.length_nil]; omega) hx0 (by omega) ?_
      rw [List.drop_zero]
      have := ih (x + 1) (acc ++ [wrap64 (c + sumB (decB s box x [⟨s, i⟩]) l)]) (by omega) (by omega) (by simp only [List.length_append, List.length_cons, List.length_nil]; omega)
      simpa only [rangeL, List.map_cons, List.append_assoc, List.cons_append, List.nil_append] using this
  have fin := L0 (prodN s box).toNat 0 [] (by omega) (by omega) (by simp)
  rw [List.nil_append] at fin
  have J1 : Ev (fun k => spec_l11Vals.j1 k s i box [] (prodN s box) (idxL S55.f0 0 box s) c l) ((rangeL 0 (prodN s box).toNat).map fun y => wrap64 (c + sumB (decB s box y [⟨s, i⟩]) l)) := Ev.step (fun k => by rw [spec_l11Vals.j1]) fin
  unfold spec_l11Vals.f
  simp only [Option.bind_some]
  refine Ev.then rnd (Ev.then ix ?_)
  have hpos : prodA box > 0 := by omega
  simp only [hpos, decide_true]
  rcases idx_find S55.f0 z55 box 0 s with ⟨h1, h2⟩ | ⟨j, h1, h2, h3⟩
  · have ng : ¬ idxL S55.f0 0 box s ≥ 0 := by omega
    simp only [ng, if_false]
    refine Ev.step (fun k => by rw [spec_l11Vals.j0]) ?_
    simp only [Bool.false_eq_true, if_false]
    have : prodA box = prodN s box := by
      refine (prodN_none s box fun r hr e => ?_).symm
      obtain ⟨j, hj, rfl⟩ := List.getElem_of_mem hr
      have := (hk j hj).1 (by
        have hrd : rd_T55 box (j : Int) = box[j] := by
          unfold rd_T55
          rw [Int.toNat_natCast, List.getD_eq_getElem?_getD, List.getElem?_eq_getElem hj, Option.getD_some]
        rw [hrd]
        exact e)
      omega
    rw [this]
    exact J1
  · have ng : idxL S55.f0 0 box s ≥ 0 := by omega
    have ng' : (0 : Int) ≤ idxL S55.f0 0 box s := by omega
    have nl : idxL S55.f0 0 box s < (box.length : Int) := by omega
    have ej : idxL S55.f0 0 box s = (j : Int) := by omega
    simp only [ng, if_true]
    refine Ev.step (fun k => by rw [spec_l11Vals.j0]) ?_
    have hm : rd_T55 box (j : Int) ∈ box := rd_mem box h1
    obtain ⟨r1, r2, r3, r4, r5⟩ := hb _ hm
    have hsz := sz_wrap r1 r2 r5
    have hs0 : 1 ≤ szR (rd_T55 box (j : Int)) := by unfold szR; omega
    have hsn : ¬ szR (rd_T55 box (j : Int)) = 0 := by omega
    have eq := prodA_eq s box hap _ hm ((hk j h1).2 ej.symm)
    have dv : Int.tdiv (prodA box) (szR (rd_T55 box (j : Int))) = prodN s box := by rw [eq, Int.mul_tdiv_cancel _ hsn]
    simp only [ng', nl, if_true]
    rw [ej]
    simp only [hsz, hsn, if_false, dv]
    rw [w64 (by omega) (by omega), ← ej]
    exact J1
theorem any_swap (xs ys : List Int) : (ys.any fun y => xs.contains y) = (xs.any fun x => ys.contains x) := by
  rw [Bool.eq_iff_iff, List.any_eq_true, List.any_eq_true]
  constructor
  · rintro ⟨y, hy, h⟩
    exact ⟨y, by simpa using h, by simpa using hy⟩
  · rintro ⟨y, hy, h⟩
    exact ⟨y, by simpa using h, by simpa using hy⟩
theorem any_mem {xs ys xs' ys' : List Int} (h1 : ∀ v, v ∈ xs ↔ v ∈ xs') (h2 : ∀ v, v ∈ ys ↔ v ∈ ys') : (xs.any fun x => ys.contains x) = (xs'.any fun x => ys'.contains x) := by
  rw [Bool.eq_iff_iff, List.any_eq_true, List.any_eq_true]
  constructor
  · rintro ⟨y, hy, h⟩
    exact ⟨y, (h1 y).1 hy, by simpa using (h2 y).1 (by simpa using h)⟩
  · rintro ⟨y, hy, h⟩
    exact ⟨y, (h1 y).2 hy, by simpa using (h2 y).2 (by simpa using h)⟩
theorem spec_meet_loop (a b : List Int) (ha : a.length ≤ maxLen) (hb : b.length ≤ maxLen) : Ev (fun k => spec_MeetAt.l0 k a b 0) (a.any fun x => b.contains x) := by
  have L0 : ∀ d p, p + d = a.length → Ev (fun k => spec_MeetAt.l0 k a b (p : Int)) ((a.drop p).any fun x => b.contains x) := by
    intro d
    induction d with
    | zero =>
      intro p hp
      refine Ev.step (fun k => by rw [spec_MeetAt.l0]) ?_
      have cx : ¬ (p : Int) < (a.length : Int) := by omega
      simp only [cx, if_false]
      rw [List.drop_eq_nil_of_le (by omega)]
      exact Ev.now _
    | succ d ih =>
      intro p hp
      refine Ev.step (fun k => by rw [spec_MeetAt.l0]) ?_
      have cx : (p : Int) < (a.length : Int) := by omega
      have cx0 : (0 : Int) ≤ (p : Int) := by omega
      have hw : wrap64 ((p : Int) + 1) = ((p + 1 : Nat) : Int) := wi (n := a.length) (by omega) ha
      have hd : a.drop p = rd a (p : Int) :: a.drop (p + 1) := drop_cons a _ (by omega)
      simp only [cx, if_true]
      have L1 : ∀ e q, q + e = b.length → Ev (fun k => spec_MeetAt.l1 k a b (p : Int) (q : Int)) ((b.drop q).contains (rd a (p : Int)) || (a.drop (p + 1)).any fun x => b.contains x) := by
        intro e
        induction e with
        | zero =>
          intro q hq
          refine Ev.step (fun k => by rw [spec_MeetAt.l1]) ?_
          have cq : ¬ (q : Int) < (b.length : Int) := by omega
          simp only [cq, if_false, hw]
          rw [List.drop_eq_nil_of_le (by omega)]
          simpa using ih (p + 1) (by omega)
        | succ e ihe =>
          intro q hq
          refine Ev.step (fun k => by rw [spec_MeetAt.l1]) ?_
          have cq : (q : Int) < (b.length : Int) := by omega
          have cq0 : (0 : Int) ≤ (q : Int) := by omega
          have hwq : wrap64 ((q : Int) + 1) = ((q + 1 : Nat) : Int) := wi (n := b.length) (by omega) hb
          have hdq : b.drop q = rd b (q : Int) :: b.drop (q + 1) := drop_cons b _ (by omega)
          simp only [cq, cq0, cx, cx0, if_true, hwq]
          rw [hdq]
          by_cases e1 : rd a (p : Int) = rd b (q : Int)
          · simp only [e1, if_true, List.contains_cons, beq_self_eq_true, Bool.true_or]
            exact Ev.now _
          · have e2 : (rd a (p : Int) == rd b (q : Int)) = false := by simpa using e1
            simp only [e1, if_false, List.contains_cons, e2, Bool.false_or]
            exact ihe (q + 1) (by omega)
      have := L1 b.length 0 (by omega)
      rw [List.drop_zero] at this
      rw [hd, List.any_cons]
      exact this
  have := L0 a.length 0 (by omega)
  rw [List.drop_zero] at this
  exact this
theorem meet_same (c : Int) (l : List S67) (c' : Int) (l' : List S67) (s : ByteArray) (i j : Int) (box : List S55) (hl : l.length ≤ maxLen) (hs : ∀ x ∈ l, x.f0.size ≤ maxLen) (hl' : l'.length ≤ maxLen) (hs' : ∀ x ∈ l', x.f0.size ≤ maxLen) (hb : box.length ≤ maxLen) (hbs : ∀ x ∈ box, x.f0.size ≤ maxLen)
    (hc : -9223372036854775808 ≤ c ∧ c < 9223372036854775808) (hc' : -9223372036854775808 ≤ c' ∧ c' < 9223372036854775808) :
    ∃ b, Ev (fun k => spec_MeetAt.f k c l c' l' s i j box) b ∧ Ev (fun k => impl_MeetAt.f k c l c' l' s i j box) b := by
  unfold spec_MeetAt.f impl_MeetAt.f
  have r1 := spec_Rounds_ev box hb hbs
  have r2 := impl_Rounds_ev box hb hbs
  have bad : Ev (fun k => spec_MeetAt.j0 k s i j box true c l c' l') false := by
    refine Ev.step (fun k => by rw [spec_MeetAt.j0]) ?_
    simp only [if_true]
    exact Ev.now _
  cases g : (decide (1 ≤ rndS S55.f0 S55.f1 S55.f2 box) && decide (rndS S55.f0 S55.f1 S55.f2 box ≤ 600)) with
  | false =>
    refine ⟨false, Ev.then r1 ?_, Ev.then r2 ?_⟩
    · simp only [spec_l1In_eq, Option.bind_some, g, Bool.false_eq_true, if_false]
      exact bad
    · simp only [g, Bool.false_eq_true, if_false]
      exact Ev.now _
  | true =>
    have a1 := spec_AffOk_ev c l hl hs
    have a2 := spec_AffOk_ev c' l' hl' hs'
    have b1 := impl_AffOk_ev c l hl hs
    have b2 := impl_AffOk_ev c' l' hl' hs'
    cases e1 : affOkS S67.f0 S67.f1 c l with
    | false =>
      rw [e1] at a1 b1
      refine ⟨false, Ev.then r1 ?_, Ev.then r2 ?_⟩
      · simp only [spec_l1In_eq, Option.bind_some, g, if_true]
        refine Ev.then a1 ?_
        simp only [Bool.false_eq_true, if_false]
        exact bad
      · simp only [g, if_true]
        refine Ev.then b1 ?_
        simp only [Bool.false_eq_true, if_false]
        exact Ev.now _
    | true =>
      cases e2 : affOkS S67.f0 S67.f1 c' l' with
      | false =>
        rw [e1] at a1 b1
        rw [e2] at a2 b2
        refine ⟨false, Ev.then r1 ?_, Ev.then r2 ?_⟩
        · simp only [spec_l1In_eq, Option.bind_some, g, if_true]
          refine Ev.then a1 ?_
          simp only [if_true]
          refine Ev.then a2 ?_
          simp only [Bool.not_false]
          exact bad
        · simp only [g, if_true]
          refine Ev.then b1 ?_
          simp only [if_true]
          refine Ev.then b2 ?_
          simp only [Bool.false_eq_true, if_false]
          exact Ev.now _
      | true =>
        rw [e1] at a1 b1
        rw [e2] at a2 b2
        have g' := g
        simp only [Bool.and_eq_true, decide_eq_true_eq] at g'
        have hfu : fullS S55.f0 S55.f1 S55.f2 box = true := by
          cases hf : fullS S55.f0 S55.f1 S55.f2 box with
          | true => rfl
          | false =>
            have := g'.1
            unfold rndS at this
            rw [hf] at this
            simp at this
        obtain ⟨hfb, hb8⟩ := fullS_mem S55.f0 S55.f1 S55.f2 hfu
        have hle : ∀ r ∈ box, r.f1 ≤ r.f2 := fun r hr => (hfb r hr).1
        have hap := box_apart hfu
        have hA : prodA box ≤ 600 := by
          have h := g'.2
          unfold rndS at h
          rw [if_pos hfu] at h
          rw [rnd_prod box 1 hle (by omega) h, Int.one_mul] at h
          exact h
        have t1 : Apart S67.f0 l := by
          simp only [affOkS, Bool.and_eq_true] at e1
          exact affOk_apart l none e1.1
        have t2 : Apart S67.f0 l' := by
          simp only [affOkS, Bool.and_eq_true] at e2
          exact affOk_apart l' none e2.1
        have mem : ∀ (c i : Int) (l : List S67) (d : Nat), (d : Int) = prodN s box → Apart S67.f0 l → InR (valsL (coefL S67.f0 S67.f1 l) s box [wrap64 (c + sumB [⟨s, i⟩] l)]) ∧ ∀ v, v ∈ valsL (coefL S67.f0 S67.f1 l) s box [wrap64 (c + sumB [⟨s, i⟩] l)] ↔ v ∈ (rangeL 0 d).map fun y => wrap64 (c + sumB (decB s box y [⟨s, i⟩]) l) := by
          intro c i l d hd hl
          have hv := vals_reach (coefL S67.f0 S67.f1 l) s box [wrap64 (c + sumB [⟨s, i⟩] l)] hle (fun x hx => by
            simp only [List.mem_cons, List.not_mem_nil, or_false] at hx
            rw [hx]
            exact wrap64_range _)
          refine ⟨hv.1, fun v => (hv.2 v).trans ?_⟩
          have dr := dec_reach s l hl box [⟨s, i⟩] hle hap (fun r hr hn b hb => by
            simp only [List.mem_cons, List.not_mem_nil, or_false] at hb
            rw [hb]
            exact fun e => hn e.symm)
          obtain ⟨t, ht⟩ := wrap_rep (c + sumB [⟨s, i⟩] l)
          constructor
          · rintro ⟨x, hx, u, hu, rfl⟩
            simp only [List.mem_cons, List.not_mem_nil, or_false] at hx
            rw [hx, ht] at hu
            have := Reach_shift _ s (-(c + 18446744073709551616 * t)) box _ _ hu
            rw [show c + sumB [⟨s, i⟩] l + 18446744073709551616 * t + -(c + 18446744073709551616 * t) = sumB [⟨s, i⟩] l by omega] at this
            obtain ⟨y, y0, y1, hy⟩ := (dr _).2 this
            refine List.mem_map.2 ⟨y, (mem_rangeL y _ _).2 ⟨y0, by omega⟩, ?_⟩
            rw [hy, show c + (u + -(c + 18446744073709551616 * t)) = u + 18446744073709551616 * (-t) by omega, wrap_per]
          · intro h
            obtain ⟨y, hy, rfl⟩ := List.mem_map.1 h
            have hy' := (mem_rangeL y _ _).1 hy
            have := (dr _).1 ⟨y, hy'.1, by omega, rfl⟩
            have := Reach_shift _ s (c + 18446744073709551616 * t) box _ _ this
            refine ⟨wrap64 (c + sumB [⟨s, i⟩] l), by simp, _, by rw [ht, show c + sumB [⟨s, i⟩] l + 18446744073709551616 * t = sumB [⟨s, i⟩] l + (c + 18446744073709551616 * t) by omega]; exact this, ?_⟩
            rw [show sumB (decB s box y [⟨s, i⟩]) l + (c + 18446744073709551616 * t) = c + sumB (decB s box y [⟨s, i⟩]) l + 18446744073709551616 * t by omega, wrap_per]
        obtain ⟨xs, x1, x2, x3⟩ := impl_valuesOf_ev c l s i box hl hc hb8 hfb hA
        obtain ⟨ys, y1, y2, y3⟩ := impl_valuesOf_ev c' l' s j box hl' hc' hb8 hfb hA
        obtain ⟨d, d1, d2⟩ := spec_l11Vals_ev c l s i box hl hc hbs hfu g'.2
        obtain ⟨d', d1', d2'⟩ := spec_l11Vals_ev c' l' s j box hl' hc' hbs hfu g'.2
        have ma := mem c i l d d1 t1
        have mb := mem c' j l' d' d1' t2
        rw [← x3] at ma
        rw [← y3] at mb
        have pl := prodN_le s box hle
        have wd : 600 ≤ maxLen := by decide
        refine ⟨ys.any fun y => xs.contains y, Ev.then r1 ?_, Ev.then r2 ?_⟩
        rotate_left
        · simp only [g, if_true]
          refine Ev.then b1 ?_
          simp only [if_true]
          refine Ev.then b2 ?_
          simp only [if_true]
          refine Ev.then x1 (Ev.then y1 ?_)
          have wf : ∀ {q : List Int}, InR q → impl_MeetAt.wfs q = true := by
            intro q hq
            refine List.all_eq_true.2 fun x hx => ?_
            have := hq x hx
            simp [Lit.wf, IntKind.min, IntKind.max, IntKind.bits, IntKind.signed]
            omega
          have f : (impl_MeetAt.wfs xs && impl_MeetAt.wfs ys && decide (xs.length ≤ 140737488351232) && decide (ys.length ≤ 140737488351232)) = true := by
            rw [wf ma.1, wf mb.1, decide_eq_true (show xs.length ≤ 140737488351232 by omega), decide_eq_true (show ys.length ≤ 140737488351232 by omega)]
            rfl
          simp only [f, if_true]
          exact Ev.now _
        · simp only [spec_l1In_eq, Option.bind_some, g, if_true]
          refine Ev.then a1 ?_
          simp only [if_true]
          refine Ev.then a2 ?_
          simp only [Bool.not_true]
          refine Ev.step (fun k => by rw [spec_MeetAt.j0]) ?_
          simp only [Bool.false_eq_true, if_false]
          refine Ev.then d2 (Ev.then d2' ?_)
          rw [any_swap, any_mem ma.2 mb.2]
          exact spec_meet_loop _ _ (by simp only [List.length_map, rangeL_length]; omega) (by simp only [List.length_map, rangeL_length]; omega)
theorem cvT_size {l : List S76} (hs : ∀ x ∈ l, x.f0.size ≤ maxLen) : ∀ x ∈ l.map cvTerm, x.f0.size ≤ maxLen := by
  intro x hx
  obtain ⟨y, hy, rfl⟩ := List.mem_map.1 hx
  exact hs y hy
theorem cvR_size {l : List S53} (hs : ∀ x ∈ l, x.f0.size ≤ maxLen) : ∀ x ∈ l.map cvRng, x.f0.size ≤ maxLen := by
  intro x hx
  obtain ⟨y, hy, rfl⟩ := List.mem_map.1 hx
  exact hs y hy
theorem FnExactMeetAt (a0 : Int) (l : List S76) (a1 : Int) (l2 : List S76) (nm : ByteArray) (i j : Int) (box : List S53) (w0 : (Lit.int .i64 a0).wf = true) (hl : l.length ≤ maxLen) (hx : ∀ y ∈ l, y.f0.size ≤ maxLen ∧ (Lit.int .i64 y.f1).wf = true)
    (w1 : (Lit.int .i64 a1).wf = true) (hl2 : l2.length ≤ maxLen) (hx2 : ∀ y ∈ l2, y.f0.size ≤ maxLen ∧ (Lit.int .i64 y.f1).wf = true)
    (_ : nm.size ≤ maxLen) (_ : (Lit.int .i64 i).wf = true) (_ : (Lit.int .i64 j).wf = true)
    (hbl : box.length ≤ maxLen) (hbx : ∀ y ∈ box, y.f0.size ≤ maxLen ∧ (Lit.int .i64 y.f1).wf = true ∧ (Lit.int .i64 y.f2).wf = true) :
    ∃ k, laws_FnExactMeetAt.f k a0 l a1 l2 nm i j box = some true := by
  have hs : ∀ x ∈ l, x.f0.size ≤ maxLen := fun x h => (hx x h).1
  have hs2 : ∀ x ∈ l2, x.f0.size ≤ maxLen := fun x h => (hx2 x h).1
  have hbs : ∀ x ∈ box, x.f0.size ≤ maxLen := fun x h => (hbx x h).1
  apply Ev.rounds
  unfold laws_FnExactMeetAt.f
  by_cases big : (nm.size : Int) > 1048576
  · simp only [big, if_true]
    exact Ev.now _
  simp only [big, if_false]
  obtain ⟨t, h1, h2⟩ := szAff_ev a0 l hl hs 1048576 (by omega) (by omega)
  refine Ev.then h1 ?_
  by_cases e : t < 0
  · simp only [e, if_true]
    exact Ev.now _
  simp only [e, if_false]
  obtain ⟨t2, h1b, h2b⟩ := szAff_ev a1 l2 hl2 hs2 t (by omega) (by omega)
  refine Ev.then h1b ?_
  by_cases e2 : t2 < 0
  · simp only [e2, if_true]
    exact Ev.now _
  simp only [e2, if_false]
  obtain ⟨t3, h1c, h2c⟩ := szRngS_ev box hbl hbs t2 (by omega) (by omega)
  refine Ev.then h1c ?_
  by_cases e3 : t3 < 0
  · simp only [e3, if_true]
    exact Ev.now _
  simp only [e3, if_false]
  have h3 : l.length ≤ 1048576 := by omega
  have h3b : l2.length ≤ 1048576 := by omega
  have h3c : box.length ≤ 1048576 := by omega
  have h4 : (l.map cvTerm).length ≤ maxLen := by simp [maxLen]; omega
  have h4b : (l2.map cvTerm).length ≤ maxLen := by simp [maxLen]; omega
  have h4c : (box.map cvRng).length ≤ maxLen := by simp [maxLen]; omega
  have ta := toAff_ev a0 l h3
  have tb := toAff_ev a1 l2 h3b
  have tc := toRngS_ev box h3c
  obtain ⟨b, m1, m2⟩ := meet_same a0 (l.map cvTerm) a1 (l2.map cvTerm) nm i j (box.map cvRng) h4 (cvT_size hs) h4b (cvT_size hs2) h4c (cvR_size hbs) (wfI w0) (wfI w1)
  refine Ev.then ta (Ev.then tb (Ev.then tc (Ev.then m1 (Ev.then ta (Ev.then tb (Ev.then tc (Ev.then m2 ?_)))))))
  simp only [bne_self_eq_false, Bool.false_eq_true, if_false]
  refine Ev.then ta (Ev.then (eqAff_ev _ _ h4) ?_)
  simp only [if_true]
  refine Ev.then tb (Ev.then (eqAff_ev _ _ h4b) ?_)
  simp only [if_true]
  refine Ev.then tc (Ev.then (eqRngS_ev _ h4c) ?_)
  simp only [if_true]
  exact Ev.now _

end Go.Proofs.Ytmnlpadekgopjaa.Pure
