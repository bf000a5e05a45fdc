/- The pure statement of FnExactAffAt: what the printed functions compute makes the law answer true. Conditions: those in the statement. -/
import Derived.Test.YtbkoonfdkeeapaaLem
import Derived.Test.YtbkoonfdkeeapaaPFnExactAffAtx0
import Derived.Test.YtbkoonfdkeeapaaPFnExactAffAtx1
import Derived.Test.YtbkoonfdkeeapaaPFnExactAffAtx2
import Derived.Test.YtbkoonfdkeeapaaPFnExactAffAtx3
import Derived.Test.YtbkoonfdkeeapaaPFnExactAffAtx4
namespace Go.Proofs.Ytbkoonfdkeeapaa.Pure
open Go.RowKit Go.Proofs.Ytbkoonfdkeeapaa.PFnExactAffAt Go.Proofs.YtbkoonfdkeeapaaW.PrintWords Go.Proofs.YtbkoonfdkeeapaaW.PrintLast Go.Proofs.YtbkoonfdkeeapaaW.PrintMore Go.Proofs.Ytbkoonfdkeeapaa.Lem
set_option linter.unusedVariables false
set_option linter.unusedSimpArgs false

def cvTerm (x : S83) : S62 := ⟨x.f0, x.f1⟩
theorem szTerm_one (y : S83) (hs : y.f0.size ≤ maxLen) (a : Int) (h0 : 0 ≤ a) (h1 : a ≤ 1048576) : ∃ t, laws_szTerm.f y.f0 y.f1 a = some t ∧ (t < 0 ∨ 0 ≤ t ∧ t ≤ 1048576) := by
  unfold laws_szTerm.f
  simp only [maxLen] at hs
  rw [w64 (x := a - (y.f0.size : Int)) (by omega) (by omega)]
  by_cases c : a - (y.f0.size : Int) < 0
  · exact ⟨-1, by rw [if_pos c], .inl (by omega)⟩
  · exact ⟨_, by rw [if_neg c], .inr (by omega)⟩
theorem szTermS_ev (l : List S83) (hl : l.length ≤ maxLen) (hs : ∀ x ∈ l, x.f0.size ≤ maxLen) (a : Int) (h0 : 0 ≤ a) (h1 : a ≤ 1048576) :
    ∃ t, Ev (fun k => laws_szTermS.f k l a) t ∧ (t < 0 ∨ 0 ≤ t ∧ t ≤ 1048576 ∧ l.length ≤ 1048576) := by
  unfold laws_szTermS.f
  have hl' := hl
  simp only [maxLen] at hl'
  rw [w64 (x := a - (l.length : Int)) (by omega) (by omega)]
  by_cases c : a - (l.length : Int) < 0
  · simp only [c, if_true]
    exact ⟨-1, Ev.now _, .inl (by omega)⟩
  · simp only [c, if_false]
    have key : ∀ d i, i + d = l.length → ∀ x : Int, 0 ≤ x → x ≤ 1048576 → ∃ t, Ev (fun k => laws_szTermS.l0 k l x (i : Int)) t ∧ (t < 0 ∨ 0 ≤ t ∧ t ≤ 1048576) := by
      intro d
      induction d with
      | zero =>
        intro i hi x hx0 hx1
        refine ⟨x, Ev.step (fun k => by rw [laws_szTermS.l0]) ?_, .inr ⟨hx0, hx1⟩⟩
        have c : ¬ (i : Int) < (l.length : Int) := by omega
        simp only [c, if_false]
        exact Ev.now _
      | succ d ih =>
        intro i hi x hx0 hx1
        have c : (i : Int) < (l.length : Int) := by omega
        have c0 : (0 : Int) ≤ (i : Int) := by omega
        have hw : wrap64 ((i : Int) + 1) = ((i + 1 : Nat) : Int) := wi (n := l.length) (by omega) hl
        have hr : rd_T83 l (i : Int) ∈ l := getD_mem l _ (by omega)
        obtain ⟨t, ht, h2⟩ := szTerm_one (rd_T83 l (i : Int)) (hs _ hr) x hx0 hx1
        by_cases c2 : t < 0
        · refine ⟨-1, Ev.step (fun k => by rw [laws_szTermS.l0]) ?_, .inl (by omega)⟩
          simp only [c, c0, if_true, ht, Option.bind_some, c2]
          exact Ev.now _
        · obtain ⟨q, h3, h4⟩ := ih (i + 1) (by omega) t (by omega) (by omega)
          refine ⟨q, Ev.step (fun k => by rw [laws_szTermS.l0]) ?_, h4⟩
          simp only [c, c0, if_true, ht, Option.bind_some, c2, if_false, hw]
          exact h3
    obtain ⟨t, h2, h3⟩ := key l.length 0 (by omega) (a - (l.length : Int)) (by omega) (by omega)
    exact ⟨t, h2, h3.imp id fun h => ⟨h.1, h.2, by omega⟩⟩
theorem toTermS_ev (l : List S83) (hl : l.length ≤ 1048576) : Ev (fun k => laws_toTermS.f k l) (l.map cvTerm) := by
  unfold laws_toTermS.f
  have c1 : (0 : Int) ≤ (l.length : Int) := by omega
  have c2 : ((l.length : Int) : Int).toNat ≤ 11728124029610 := by omega
  simp only [c1, c2, if_true]
  have key : ∀ d i, i + d = l.length → Ev (fun k => laws_toTermS.l0 k l ((l.take i).map cvTerm ++ List.replicate d z62) (i : Int)) (l.map cvTerm) := by
    intro d
    induction d with
    | zero =>
      intro i hi
      refine Ev.step (fun k => by rw [laws_toTermS.l0]) ?_
      have c : ¬ (i : Int) < (l.length : Int) := by omega
      simp only [c, if_false]
      have : l.take i = l := List.take_of_length_le (by omega)
      rw [this]
      simpa using Ev.now (List.map cvTerm l)
    | succ d ih =>
      intro i hi
      refine Ev.step (fun k => by rw [laws_toTermS.l0]) ?_
      have c : (i : Int) < (l.length : Int) := by omega
      have c0 : (0 : Int) ≤ (i : Int) := by omega
      have hw : wrap64 ((i : Int) + 1) = ((i + 1 : Nat) : Int) := wi (n := l.length) (by omega) (by simp only [maxLen]; omega)
      have c3 : (i : Int) < ((((l.take i).map cvTerm ++ List.replicate (d + 1) z62).length : Nat) : Int) := by
        rw [List.length_append, List.length_map, List.length_take, List.length_replicate]
        omega
      simp only [c, c0, if_true, laws_toTerm.f, Option.bind_some, c3, hw]
      have e : (((l.take i).map cvTerm ++ List.replicate (d + 1) z62).set ((i : Int) : Int).toNat (cvTerm (rd_T83 l (i : Int)))) = (l.take (i + 1)).map cvTerm ++ List.replicate d z62 := by
        have hg : rd_T83 l (i : Int) = l[i]'(by omega) := by
          simp [rd_T83, List.getElem?_eq_getElem (show i < l.length by omega)]
        rw [hg, Int.toNat_natCast, List.take_add_one, List.getElem?_eq_getElem (show i < l.length by omega)]
        rw [List.set_append_right _ _ (by simp; omega)]
        have : i - ((l.take i).map cvTerm).length = 0 := by simp; omega
        rw [this, List.replicate_succ, List.set_cons_zero]
        simp only [Option.toList_some, List.map_append, List.map_cons, List.map_nil, List.append_assoc, List.cons_append, List.nil_append]
      have h2 := ih (i + 1) (by omega)
      rw [← e] at h2
      exact h2
  have h0 := key l.length 0 (by omega)
  simpa using h0
theorem eqTerm_one (x : S62) : laws_eqTerm.f x.f0 x.f1 x.f0 x.f1 = some true := by
  unfold laws_eqTerm.f
  simp
theorem eqTermS_ev (l : List S62) (hl : l.length ≤ maxLen) : Ev (fun k => laws_eqTermS.f k l l) true := by
  unfold laws_eqTermS.f
  simp only [if_true]
  have key : ∀ d i, i + d = l.length → Ev (fun k => laws_eqTermS.l0 k l l (i : Int)) true := by
    intro d
    induction d with
    | zero =>
      intro i hi
      refine Ev.step (fun k => by rw [laws_eqTermS.l0]) ?_
      have c : ¬ (i : Int) < (l.length : Int) := by omega
      simp only [c, if_false]
      exact Ev.now _
    | succ d ih =>
      intro i hi
      refine Ev.step (fun k => by rw [laws_eqTermS.l0]) ?_
      have c : (i : Int) < (l.length : Int) := by omega
      have c0 : (0 : Int) ≤ (i : Int) := by omega
      have hw : wrap64 ((i : Int) + 1) = ((i + 1 : Nat) : Int) := wi (n := l.length) (by omega) hl
      simp only [c, c0, if_true, eqTerm_one (rd_T62 l (i : Int)), Option.bind_some, hw]
      exact ih (i + 1) (by omega)
  exact key l.length 0 (by omega)
def cvBind (x : S75) : S76 := ⟨x.f0, x.f1⟩
theorem szBind_one (y : S75) (hs : y.f0.size ≤ maxLen) (a : Int) (h0 : 0 ≤ a) (h1 : a ≤ 1048576) : ∃ t, laws_szBind.f y.f0 y.f1 a = some t ∧ (t < 0 ∨ 0 ≤ t ∧ t ≤ 1048576) := by
  unfold laws_szBind.f
  simp only [maxLen] at hs
  rw [w64 (x := a - (y.f0.size : Int)) (by omega) (by omega)]
  by_cases c : a - (y.f0.size : Int) < 0
  · exact ⟨-1, by rw [if_pos c], .inl (by omega)⟩
  · exact ⟨_, by rw [if_neg c], .inr (by omega)⟩
theorem szBindS_ev (l : List S75) (hl : l.length ≤ maxLen) (hs : ∀ x ∈ l, x.f0.size ≤ maxLen) (a : Int) (h0 : 0 ≤ a) (h1 : a ≤ 1048576) :
    ∃ t, Ev (fun k => laws_szBindS.f k l a) t ∧ (t < 0 ∨ 0 ≤ t ∧ t ≤ 1048576 ∧ l.length ≤ 1048576) := by
  unfold laws_szBindS.f
  have hl' := hl
  simp only [maxLen] at hl'
  rw [w64 (x := a - (l.length : Int)) (by omega) (by omega)]
  by_cases c : a - (l.length : Int) < 0
  · simp only [c, if_true]
    exact ⟨-1, Ev.now _, .inl (by omega)⟩
  · simp only [c, if_false]
    have key : ∀ d i, i + d = l.length → ∀ x : Int, 0 ≤ x → x ≤ 1048576 → ∃ t, Ev (fun k => laws_szBindS.l0 k l x (i : Int)) t ∧ (t < 0 ∨ 0 ≤ t ∧ t ≤ 1048576) := by
      intro d
      induction d with
      | zero =>
        intro i hi x hx0 hx1
        refine ⟨x, Ev.step (fun k => by rw [laws_szBindS.l0]) ?_, .inr ⟨hx0, hx1⟩⟩
        have c : ¬ (i : Int) < (l.length : Int) := by omega
        simp only [c, if_false]
        exact Ev.now _
      | succ d ih =>
        intro i hi x hx0 hx1
        have c : (i : Int) < (l.length : Int) := by omega
        have c0 : (0 : Int) ≤ (i : Int) := by omega
        have hw : wrap64 ((i : Int) + 1) = ((i + 1 : Nat) : Int) := wi (n := l.length) (by omega) hl
        have hr : rd_T75 l (i : Int) ∈ l := getD_mem l _ (by omega)
        obtain ⟨t, ht, h2⟩ := szBind_one (rd_T75 l (i : Int)) (hs _ hr) x hx0 hx1
        by_cases c2 : t < 0
        · refine ⟨-1, Ev.step (fun k => by rw [laws_szBindS.l0]) ?_, .inl (by omega)⟩
          simp only [c, c0, if_true, ht, Option.bind_some, c2]
          exact Ev.now _
        · obtain ⟨q, h3, h4⟩ := ih (i + 1) (by omega) t (by omega) (by omega)
          refine ⟨q, Ev.step (fun k => by rw [laws_szBindS.l0]) ?_, h4⟩
          simp only [c, c0, if_true, ht, Option.bind_some, c2, if_false, hw]
          exact h3
    obtain ⟨t, h2, h3⟩ := key l.length 0 (by omega) (a - (l.length : Int)) (by omega) (by omega)
    exact ⟨t, h2, h3.imp id fun h => ⟨h.1, h.2, by omega⟩⟩
theorem toBindS_ev (l : List S75) (hl : l.length ≤ 1048576) : Ev (fun k => laws_toBindS.f k l) (l.map cvBind) := by
  unfold laws_toBindS.f
  have c1 : (0 : Int) ≤ (l.length : Int) := by omega
  have c2 : ((l.length : Int) : Int).toNat ≤ 11728124029610 := by omega
  simp only [c1, c2, if_true]
  have key : ∀ d i, i + d = l.length → Ev (fun k => laws_toBindS.l0 k l ((l.take i).map cvBind ++ List.replicate d z76) (i : Int)) (l.map cvBind) := by
    intro d
    induction d with
    | zero =>
      intro i hi
      refine Ev.step (fun k => by rw [laws_toBindS.l0]) ?_
      have c : ¬ (i : Int) < (l.length : Int) := by omega
      simp only [c, if_false]
      have : l.take i = l := List.take_of_length_le (by omega)
      rw [this]
      simpa using Ev.now (List.map cvBind l)
    | succ d ih =>
      intro i hi
      refine Ev.step (fun k => by rw [laws_toBindS.l0]) ?_
      have c : (i : Int) < (l.length : Int) := by omega
      have c0 : (0 : Int) ≤ (i : Int) := by omega
      have hw : wrap64 ((i : Int) + 1) = ((i + 1 : Nat) : Int) := wi (n := l.length) (by omega) (by simp only [maxLen]; omega)
      have c3 : (i : Int) < ((((l.take i).map cvBind ++ List.replicate (d + 1) z76).length : Nat) : Int) := by
        rw [List.length_append, List.length_map, List.length_take, List.length_replicate]
        omega
      simp only [c, c0, if_true, laws_toBind.f, Option.bind_some, c3, hw]
      have e : (((l.take i).map cvBind ++ List.replicate (d + 1) z76).set ((i : Int) : Int).toNat (cvBind (rd_T75 l (i : Int)))) = (l.take (i + 1)).map cvBind ++ List.replicate d z76 := by
        have hg : rd_T75 l (i : Int) = l[i]'(by omega) := by
          simp [rd_T75, List.getElem?_eq_getElem (show i < l.length by omega)]
        rw [hg, Int.toNat_natCast, List.take_add_one, List.getElem?_eq_getElem (show i < l.length by omega)]
        rw [List.set_append_right _ _ (by simp; omega)]
        have : i - ((l.take i).map cvBind).length = 0 := by simp; omega
        rw [this, List.replicate_succ, List.set_cons_zero]
        simp only [Option.toList_some, List.map_append, List.map_cons, List.map_nil, List.append_assoc, List.cons_append, List.nil_append]
      have h2 := ih (i + 1) (by omega)
      rw [← e] at h2
      exact h2
  have h0 := key l.length 0 (by omega)
  simpa using h0
theorem eqBind_one (x : S76) : laws_eqBind.f x.f0 x.f1 x.f0 x.f1 = some true := by
  unfold laws_eqBind.f
  simp
theorem eqBindS_ev (l : List S76) (hl : l.length ≤ maxLen) : Ev (fun k => laws_eqBindS.f k l l) true := by
  unfold laws_eqBindS.f
  simp only [if_true]
  have key : ∀ d i, i + d = l.length → Ev (fun k => laws_eqBindS.l0 k l l (i : Int)) true := by
    intro d
    induction d with
    | zero =>
      intro i hi
      refine Ev.step (fun k => by rw [laws_eqBindS.l0]) ?_
      have c : ¬ (i : Int) < (l.length : Int) := by omega
      simp only [c, if_false]
      exact Ev.now _
    | succ d ih =>
      intro i hi
      refine Ev.step (fun k => by rw [laws_eqBindS.l0]) ?_
      have c : (i : Int) < (l.length : Int) := by omega
      have c0 : (0 : Int) ≤ (i : Int) := by omega
      have hw : wrap64 ((i : Int) + 1) = ((i + 1 : Nat) : Int) := wi (n := l.length) (by omega) hl
      simp only [c, c0, if_true, eqBind_one (rd_T76 l (i : Int)), Option.bind_some, hw]
      exact ih (i + 1) (by omega)
  exact key l.length 0 (by omega)
theorem szAff_ev (c : Int) (l : List S83) (hl : l.length ≤ maxLen) (hs : ∀ x ∈ l, x.f0.size ≤ maxLen) (a : Int) (h0 : 0 ≤ a) (h1 : a ≤ 1048576) :
    ∃ t, Ev (fun k => laws_szAff.f k c l a) t ∧ (t < 0 ∨ 0 ≤ t ∧ t ≤ 1048576 ∧ l.length ≤ 1048576) := by
  unfold laws_szAff.f
  obtain ⟨t, h2, h3⟩ := szTermS_ev l hl hs a h0 h1
  by_cases e : t < 0
  · refine ⟨-1, Ev.then h2 ?_, .inl (by omega)⟩
    simp only [e, if_true]
    exact Ev.now _
  · refine ⟨t, Ev.then h2 ?_, h3⟩
    simp only [e, if_false]
    exact Ev.now _
theorem toAff_ev (c : Int) (l : List S83) (hl : l.length ≤ 1048576) : Ev (fun k => laws_toAff.f k c l) (c, l.map cvTerm) := by
  unfold laws_toAff.f
  exact Ev.then (toTermS_ev l hl) (Ev.now _)
theorem eqAff_ev (c : Int) (l : List S62) (hl : l.length ≤ maxLen) : Ev (fun k => laws_eqAff.f k c l c l) true := by
  unfold laws_eqAff.f
  simp only [if_true]
  refine Ev.then (eqTermS_ev l hl) ?_
  simp only [if_true]
  exact Ev.now _
theorem impl_boundTo_ev (bs : List S76) (s : ByteArray) (hl : bs.length ≤ maxLen) : ∃ b, Ev (fun k => impl_boundTo.f k bs s) (boundS S76.f0 S76.f1 bs s, b) := by
  unfold impl_boundTo.f boundS
  have key : ∀ d, d ≤ bs.length → ∃ b, Ev (fun k => impl_boundTo.l0 k bs s ((d : Int) - 1)) (lastR S76.f0 S76.f1 (bs.take d).reverse s, b) := by
    intro d
    induction d with
    | zero =>
      intro _
      refine ⟨false, Ev.step (fun k => by rw [impl_boundTo.l0]) ?_⟩
      have c : ¬ ((0 : Nat) : Int) - 1 ≥ 0 := by omega
      simp only [c, if_false]
      exact Ev.now _
    | succ d ih =>
      intro hd
      have e0 : (((d + 1 : Nat) : Int) - 1) = (d : Int) := by omega
      have c : (d : Int) ≥ 0 := by omega
      have c0 : (0 : Int) ≤ (d : Int) := by omega
      have c1 : (d : Int) < (bs.length : Int) := by omega
      have hw : wrap64 ((d : Int) - 1) = (d : Int) - 1 := by
        simp only [maxLen] at hl
        exact w64 (by omega) (by omega)
      have ht : (bs.take (d + 1)).reverse = rd_T76 bs (d : Int) :: (bs.take d).reverse := by
        rw [List.take_add_one, List.getElem?_eq_getElem (show d < bs.length by omega)]
        simp [rd_T76, List.getElem?_eq_getElem (show d < bs.length by omega)]
      rw [ht, e0]
      by_cases e : (rd_T76 bs (d : Int)).f0.toList = s.toList
      · refine ⟨true, Ev.step (fun k => by rw [impl_boundTo.l0]) ?_⟩
        simp only [c, c0, c1, if_true, e, lastR]
        exact Ev.now _
      · obtain ⟨b, hb⟩ := ih (by omega)
        refine ⟨b, Ev.step (fun k => by rw [impl_boundTo.l0]) ?_⟩
        simp only [c, c0, c1, if_true, e, if_false, lastR, hw]
        exact hb
  have hw : wrap64 ((bs.length : Int) - 1) = (bs.length : Int) - 1 := by
    simp only [maxLen] at hl
    exact w64 (by omega) (by omega)
  rw [hw]
  have := key bs.length (Nat.le_refl _)
  rwa [List.take_length] at this
theorem impl_AffAt_ev (c : Int) (l : List S62) (bs : List S76) (hl : l.length ≤ maxLen) (hb : bs.length ≤ maxLen) :
    Ev (fun k => impl_AffAt.f k c l bs) (affAtL S62.f0 S62.f1 S76.f0 S76.f1 bs l c) := by
  unfold impl_AffAt.f
  have key : ∀ d i, i + d = l.length → ∀ x, Ev (fun k => impl_AffAt.l0 k bs x l (l.length : Int) (i : Int)) (affAtL S62.f0 S62.f1 S76.f0 S76.f1 bs (l.drop i) x) := by
    intro d
    induction d with
    | zero =>
      intro i hi x
      refine Ev.step (fun k => by rw [impl_AffAt.l0]) ?_
      have c : ¬ (i : Int) < (l.length : Int) := by omega
      simp only [c, if_false]
      rw [List.drop_eq_nil_of_le (by omega)]
      exact Ev.now _
    | succ d ih =>
      intro i hi x
      refine Ev.step (fun k => by rw [impl_AffAt.l0]) ?_
      have c : (i : Int) < (l.length : Int) := by omega
      have c0 : (0 : Int) ≤ (i : Int) := by omega
      have hw : wrap64 ((i : Int) + 1) = ((i + 1 : Nat) : Int) := wi (n := l.length) (by omega) hl
      have hd : l.drop i = rd_T62 l (i : Int) :: l.drop (i + 1) := drop_cons l _ (by omega)
      obtain ⟨b, hbd⟩ := impl_boundTo_ev bs (rd_T62 l (i : Int)).f0 hb
      rw [hd]
      simp only [c, c0, if_true, hw, affAtL]
      exact Ev.then hbd (ih (i + 1) (by omega) _)
  exact key l.length 0 (by omega) c
theorem spec_AffAt_l1_ev (c : Int) (l : List S62) (bs : List S76) (hb : bs.length ≤ maxLen) (x : Int) (i : Nat) (hi : i < l.length) (r : Int)
    (hr : Ev (fun k => spec_AffAt.l0 k bs (wrap64 (x + wrap64 ((rd_T62 l (i : Int)).f1 * boundS S76.f0 S76.f1 bs (rd_T62 l (i : Int)).f0))) (wrap64 ((i : Int) + 1)) c l) r) (hx : wrap64 x = x) :
    Ev (fun k => spec_AffAt.l1 k bs x (i : Int) (wrap64 ((bs.length : Int) - 1)) c l) r := by
  have hw : wrap64 ((bs.length : Int) - 1) = (bs.length : Int) - 1 := by
    simp only [maxLen] at hb
    exact w64 (by omega) (by omega)
  rw [hw]
  have key : ∀ d, d ≤ bs.length → lastR S76.f0 S76.f1 (bs.take d).reverse (rd_T62 l (i : Int)).f0 = boundS S76.f0 S76.f1 bs (rd_T62 l (i : Int)).f0 →
      Ev (fun k => spec_AffAt.l1 k bs x (i : Int) ((d : Int) - 1) c l) r := by
    intro d
    induction d with
    | zero =>
      intro _ h0
      refine Ev.step (fun k => by rw [spec_AffAt.l1]) ?_
      have c : ¬ ((0 : Nat) : Int) - 1 ≥ 0 := by omega
      simp only [c, if_false]
      rw [← h0] at hr
      simp only [List.take_zero, List.reverse_nil, lastR, Int.mul_zero] at hr
      rw [show wrap64 0 = 0 from w64 (by omega) (by omega), Int.add_zero, hx] at hr
      exact hr
    | succ d ih =>
      intro hd h0
      have e0 : (((d + 1 : Nat) : Int) - 1) = (d : Int) := by omega
      have c1 : (d : Int) ≥ 0 := by omega
      have c0 : (0 : Int) ≤ (d : Int) := by omega
      have c2 : (d : Int) < (bs.length : Int) := by omega
      have c3 : (0 : Int) ≤ (i : Int) := by omega
      have c4 : (i : Int) < (l.length : Int) := by omega
      have hw : wrap64 ((d : Int) - 1) = (d : Int) - 1 := by
        simp only [maxLen] at hb
        exact w64 (by omega) (by omega)
      have ht : (bs.take (d + 1)).reverse = rd_T76 bs (d : Int) :: (bs.take d).reverse := by
        rw [List.take_add_one, List.getElem?_eq_getElem (show d < bs.length by omega)]
        simp [rd_T76, List.getElem?_eq_getElem (show d < bs.length by omega)]
      rw [ht] at h0
      simp only [lastR] at h0
      rw [e0]
      refine Ev.step (fun k => by rw [spec_AffAt.l1]) ?_
      by_cases e : (rd_T76 bs (d : Int)).f0.toList = (rd_T62 l (i : Int)).f0.toList
      · rw [if_pos e] at h0
        simp only [c1, c0, c2, c3, c4, if_true, e, h0]
        exact hr
      · rw [if_neg e] at h0
        simp only [c1, c0, c2, c3, c4, if_true, e, if_false, hw]
        exact ih (by omega) h0
  exact key bs.length (Nat.le_refl _) (by rw [List.take_length]; rfl)
theorem spec_AffAt_ev (c : Int) (l : List S62) (bs : List S76) (hl : l.length ≤ maxLen) (hb : bs.length ≤ maxLen) (hc : wrap64 c = c) :
    Ev (fun k => spec_AffAt.f k c l bs) (affAtL S62.f0 S62.f1 S76.f0 S76.f1 bs l c) := by
  unfold spec_AffAt.f
  have key : ∀ d i, i + d = l.length → ∀ x, wrap64 x = x → Ev (fun k => spec_AffAt.l0 k bs x (i : Int) c l) (affAtL S62.f0 S62.f1 S76.f0 S76.f1 bs (l.drop i) x) := by
    intro d
    induction d with
    | zero =>
      intro i hi x _
      refine Ev.step (fun k => by rw [spec_AffAt.l0]) ?_
      have c : ¬ (i : Int) < (l.length : Int) := by omega
      simp only [c, if_false]
      rw [List.drop_eq_nil_of_le (by omega)]
      exact Ev.now _
    | succ d ih =>
      intro i hi x hx
      refine Ev.step (fun k => by rw [spec_AffAt.l0]) ?_
      have c : (i : Int) < (l.length : Int) := by omega
      have hw : wrap64 ((i : Int) + 1) = ((i + 1 : Nat) : Int) := wi (n := l.length) (by omega) hl
      have hd : l.drop i = rd_T62 l (i : Int) :: l.drop (i + 1) := drop_cons l _ (by omega)
      rw [hd]
      simp only [c, if_true, affAtL]
      refine spec_AffAt_l1_ev _ l bs hb x i (by omega) _ ?_ hx
      rw [hw]
      exact ih (i + 1) (by omega) _ (by
        have := wrap64_range (x + wrap64 ((rd_T62 l (i : Int)).f1 * boundS S76.f0 S76.f1 bs (rd_T62 l (i : Int)).f0))
        exact w64 (by omega) (by omega))
  exact key l.length 0 (by omega) c hc
theorem FnExactAffAt (a0 : Int) (l : List S83) (bs : List S75) (h0 : (Lit.int .i64 a0).wf = true) (hl : l.length ≤ maxLen) (hx : ∀ y ∈ l, y.f0.size ≤ maxLen ∧ (Lit.int .i64 y.f1).wf = true) (hbl : bs.length ≤ maxLen) (hbx : ∀ y ∈ bs, y.f0.size ≤ maxLen ∧ (Lit.int .i64 y.f1).wf = true) :
    ∃ k, laws_FnExactAffAt.f k a0 l bs = some true := by
  have hs : ∀ x ∈ l, x.f0.size ≤ maxLen := fun x h => (hx x h).1
  have hbs : ∀ x ∈ bs, x.f0.size ≤ maxLen := fun x h => (hbx x h).1
  apply Ev.rounds
  unfold laws_FnExactAffAt.f
  obtain ⟨t, h1, h2⟩ := szAff_ev a0 l hl hs 1048576 (by omega) (by omega)
  refine Ev.then h1 ?_
  by_cases e : t < 0
  · simp only [e, if_true]
    exact Ev.now _
  · simp only [e, if_false]
    obtain ⟨t2, h1b, h2b⟩ := szBindS_ev bs hbl hbs t (by omega) (by omega)
    refine Ev.then h1b ?_
    by_cases e2 : t2 < 0
    · simp only [e2, if_true]
      exact Ev.now _
    · simp only [e2, if_false]
      have h3 : l.length ≤ 1048576 := by omega
      have h3b : bs.length ≤ 1048576 := by omega
      have h4 : (l.map cvTerm).length ≤ maxLen := by simp [maxLen]; omega
      have h4b : (bs.map cvBind).length ≤ maxLen := by simp [maxLen]; omega
      have ta := toAff_ev a0 l h3
      have tb := toBindS_ev bs h3b
      have hc : wrap64 a0 = a0 := w64 (wfI h0).1 (wfI h0).2
      refine Ev.then ta (Ev.then tb (Ev.then (spec_AffAt_ev _ _ _ h4 h4b hc) (Ev.then ta (Ev.then tb (Ev.then (impl_AffAt_ev _ _ _ h4 h4b) ?_)))))
      simp only [if_true]
      refine Ev.then ta (Ev.then (eqAff_ev _ _ h4) ?_)
      simp only [if_true]
      refine Ev.then tb (Ev.then (eqBindS_ev _ h4b) ?_)
      simp only [if_true]
      exact Ev.now _

end Go.Proofs.Ytbkoonfdkeeapaa.Pure
