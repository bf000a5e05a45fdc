-- The functions of a law as plain Lean functions, each with its contract: written by a program of this session.
import Derived.Test.YtelklalagebdgaaPFnBoxesx0
import Derived.Test.YtelklalagebdgaaPFnBoxesx1
import Derived.Test.YtelklalagebdgaaPFnBoxesx2
import Derived.Test.YtelklalagebdgaaPFnBoxesx3
import Derived.Test.YtelklalagebdgaaPFnBoxesx4
namespace Go.Proofs.Ytelklalagebdgaa.PFnBoxes
open Go.RowKit Go.Proofs.YtelklalagebdgaaW.PrintWords Go.Proofs.YtelklalagebdgaaW.PrintLast Go.Proofs.YtelklalagebdgaaW.PrintMore
attribute [local go_sem] max2_int min2_int max_two min_two max_three min_three max_four min_four   -- for this text's walks alone
set_option linter.unusedVariables false
set_option linter.unusedSimpArgs false

/-! ### laws_FnBoxes: function 3 -/
mutual
def laws_FnBoxes.j0 : Nat → List Int → List (S33) → Int → Int → Bool → Int → List (S73) → Option (Bool)
  | 0, _, _, _, _, _, _, _ => none
  | k + 1, x0, x4, x5, x7, x46, x231000, x231001 => if x46 = true then (none) else (if 0 < (x4.length : Int) then (laws_FnBoxes.l0 k x0 x4 x5 x7 false false 0 ((rd_T33 x4 0).f1) x231000 x231001) else (none))
def laws_FnBoxes.l0 : Nat → List Int → List (S33) → Int → Int → Bool → Bool → Int → Int → Int → List (S73) → Option (Bool)
  | 0, _, _, _, _, _, _, _, _, _, _ => none
  | k + 1, x0, x4, x5, x7, x9, x10, x11, x12, x231000, x231001 => if 0 < (x4.length : Int) then (if x12 ≤ ((rd_T33 x4 0).f2) then (if 1 < (x4.length : Int) then (laws_FnBoxes.l1 k x0 x4 x5 x7 x9 x10 x11 x12 ((rd_T33 x4 1).f1) x231000 x231001) else (none)) else ((laws_at.f x0 2).bind fun t248 => (if x9 = true then (if x10 = true then ((impl_Rounds.f k x4).bind fun t249 => (if x11 = t249 then ((impl_InArr.f k x231000 x231001 x4 t248).bind fun t250 => (if x5 ≥ 0 then (if (t250 == (decide (x7 < t248))) = true then ((impl_BoxOk.f k x4).bind fun t251 => (some t251)) else (none)) else (if (t250 == false) = true then ((impl_BoxOk.f k x4).bind fun t252 => (some t252)) else (none)))) else (none))) else (none)) else (none)))) else (none)
def laws_FnBoxes.l1 : Nat → List Int → List (S33) → Int → Int → Bool → Bool → Int → Int → Int → Int → List (S73) → Option (Bool)
  | 0, _, _, _, _, _, _, _, _, _, _, _ => none
  | k + 1, x0, x4, x5, x7, x9, x10, x11, x12, x13, x231000, x231001 => if 1 < (x4.length : Int) then (if x13 ≤ ((rd_T33 x4 1).f2) then (if 2 < (x4.length : Int) then (laws_FnBoxes.l2 k x0 x4 x5 x7 x9 x10 x11 x12 x13 ((rd_T33 x4 2).f1) x231000 x231001) else (none)) else (laws_FnBoxes.l0 k x0 x4 x5 x7 x9 x10 x11 (wrap64 (x12 + 1)) x231000 x231001)) else (none)
def laws_FnBoxes.l2 : Nat → List Int → List (S33) → Int → Int → Bool → Bool → Int → Int → Int → Int → Int → List (S73) → Option (Bool)
  | 0, _, _, _, _, _, _, _, _, _, _, _, _ => none
  | k + 1, x0, x4, x5, x7, x9, x10, x11, x12, x13, x14, x231000, x231001 => if 2 < (x4.length : Int) then (if x14 ≤ ((rd_T33 x4 2).f2) then (if 0 < (x4.length : Int) then (if 1 < (x4.length : Int) then ((impl_AffAt.f k x231000 x231001 (([(⟨(rd_T33 x4 0).f0, x12⟩ : S36), (⟨(rd_T33 x4 1).f0, x13⟩ : S36), (⟨(rd_T33 x4 2).f0, x14⟩ : S36)] : List (S36)))).bind fun t247 => (if t247 < x5 then (none) else (if t247 > x7 then (none) else (if x9 = true then (if x10 = true then (laws_FnBoxes.l2 k x0 x4 x5 x7 true true (wrap64 (x11 + 1)) x12 x13 (wrap64 (x14 + 1)) x231000 x231001) else (laws_FnBoxes.l2 k x0 x4 x5 x7 true (t247 == x7) (wrap64 (x11 + 1)) x12 x13 (wrap64 (x14 + 1)) x231000 x231001)) else (if x10 = true then (laws_FnBoxes.l2 k x0 x4 x5 x7 (t247 == x5) true (wrap64 (x11 + 1)) x12 x13 (wrap64 (x14 + 1)) x231000 x231001) else (laws_FnBoxes.l2 k x0 x4 x5 x7 (t247 == x5) (t247 == x7) (wrap64 (x11 + 1)) x12 x13 (wrap64 (x14 + 1)) x231000 x231001)))))) else (none)) else (none)) else (laws_FnBoxes.l1 k x0 x4 x5 x7 x9 x10 x11 x12 (wrap64 (x13 + 1)) x231000 x231001)) else (none)
end
def laws_FnBoxes.f (k : Nat) (l0 : List Int) : Option (Bool) := (laws_big.f l0).bind fun t222 => (if t222 = true then (some true) else ((spec_DrawBox.f k l0).bind fun bt223 => ((impl_Least.f k bt223.1 bt223.2.1 bt223.2.2).bind fun bt231 => ((impl_Most.f k bt223.1 bt223.2.1 bt223.2.2).bind fun bt233 => (if bt231.2 = true then (if bt233.2 = true then (laws_FnBoxes.j0 k l0 bt223.2.2 bt231.1 bt233.1 (decide (bt231.1 > bt233.1)) bt223.1 bt223.2.1) else (laws_FnBoxes.j0 k l0 bt223.2.2 bt231.1 bt233.1 true bt223.1 bt223.2.1)) else (laws_FnBoxes.j0 k l0 bt223.2.2 bt231.1 bt233.1 true bt223.1 bt223.2.1))))))
theorem laws_FnBoxes.mono_l : ∀ k, (∀ y0 y1 y2 y3 y4 y5 y6, LeO (laws_FnBoxes.j0 k y0 y1 y2 y3 y4 y5 y6) (laws_FnBoxes.j0 (k + 1) y0 y1 y2 y3 y4 y5 y6)) ∧ (∀ y0 y1 y2 y3 y4 y5 y6 y7 y8 y9, LeO (laws_FnBoxes.l0 k y0 y1 y2 y3 y4 y5 y6 y7 y8 y9) (laws_FnBoxes.l0 (k + 1) y0 y1 y2 y3 y4 y5 y6 y7 y8 y9)) ∧ (∀ y0 y1 y2 y3 y4 y5 y6 y7 y8 y9 y10, LeO (laws_FnBoxes.l1 k y0 y1 y2 y3 y4 y5 y6 y7 y8 y9 y10) (laws_FnBoxes.l1 (k + 1) y0 y1 y2 y3 y4 y5 y6 y7 y8 y9 y10)) ∧ (∀ y0 y1 y2 y3 y4 y5 y6 y7 y8 y9 y10 y11, LeO (laws_FnBoxes.l2 k y0 y1 y2 y3 y4 y5 y6 y7 y8 y9 y10 y11) (laws_FnBoxes.l2 (k + 1) y0 y1 y2 y3 y4 y5 y6 y7 y8 y9 y10 y11))
  | 0 => ⟨fun _ _ _ _ _ _ _ r h => by simp [laws_FnBoxes.j0] at h, fun _ _ _ _ _ _ _ _ _ _ r h => by simp [laws_FnBoxes.l0] at h, fun _ _ _ _ _ _ _ _ _ _ _ r h => by simp [laws_FnBoxes.l1] at h, fun _ _ _ _ _ _ _ _ _ _ _ _ r h => by simp [laws_FnBoxes.l2] at h⟩
  | k + 1 => by
    obtain ⟨ih0, ih1, ih2, ih3⟩ := laws_FnBoxes.mono_l k
    refine ⟨?_, ?_, ?_, ?_⟩
    · intro y0 y1 y2 y3 y4 y5 y6
      unfold laws_FnBoxes.j0
      repeat' first
      | (with_reducible exact ih0 _ _ _ _ _ _ _)
      | (with_reducible exact ih1 _ _ _ _ _ _ _ _ _ _)
      | (with_reducible exact ih2 _ _ _ _ _ _ _ _ _ _ _)
      | (with_reducible exact ih3 _ _ _ _ _ _ _ _ _ _ _ _)
      | (with_reducible exact impl_AffAt.mono _ _ _ _)
      | (with_reducible exact impl_BoxOk.mono _ _)
      | (with_reducible exact impl_InArr.mono _ _ _ _ _)
      | (with_reducible exact impl_Least.mono _ _ _ _)
      | (with_reducible exact impl_Most.mono _ _ _ _)
      | (with_reducible exact impl_Rounds.mono _ _)
      | (with_reducible exact spec_DrawBox.mono _ _)
      | (with_reducible exact LeO.refl _)
      | (with_reducible exact LeO.none _)
      | (with_reducible refine LeO.ite ?_ ?_)
      | (with_reducible refine LeO.bind ?_ (fun _ => ?_))
      | exact ih0 _ _ _ _ _ _ _
      | exact ih1 _ _ _ _ _ _ _ _ _ _
      | exact ih2 _ _ _ _ _ _ _ _ _ _ _
      | exact ih3 _ _ _ _ _ _ _ _ _ _ _ _
      | exact impl_AffAt.mono _ _ _ _
      | exact impl_BoxOk.mono _ _
      | exact impl_InArr.mono _ _ _ _ _
      | exact impl_Least.mono _ _ _ _
      | exact impl_Most.mono _ _ _ _
      | exact impl_Rounds.mono _ _
      | exact spec_DrawBox.mono _ _
      | exact LeO.none _
      | refine LeO.ite ?_ ?_
      | refine LeO.bind ?_ (fun _ => ?_)
    · intro y0 y1 y2 y3 y4 y5 y6 y7 y8 y9
      unfold laws_FnBoxes.l0
      repeat' first
      | (with_reducible exact ih0 _ _ _ _ _ _ _)
      | (with_reducible exact ih1 _ _ _ _ _ _ _ _ _ _)
      | (with_reducible exact ih2 _ _ _ _ _ _ _ _ _ _ _)
      | (with_reducible exact ih3 _ _ _ _ _ _ _ _ _ _ _ _)
      | (with_reducible exact impl_AffAt.mono _ _ _ _)
      | (with_reducible exact impl_BoxOk.mono _ _)
      | (with_reducible exact impl_InArr.mono _ _ _ _ _)
      | (with_reducible exact impl_Least.mono _ _ _ _)
      | (with_reducible exact impl_Most.mono _ _ _ _)
      | (with_reducible exact impl_Rounds.mono _ _)
      | (with_reducible exact spec_DrawBox.mono _ _)
      | (with_reducible exact LeO.refl _)
      | (with_reducible exact LeO.none _)
      | (with_reducible refine LeO.ite ?_ ?_)
      | (with_reducible refine LeO.bind ?_ (fun _ => ?_))
      | exact ih0 _ _ _ _ _ _ _
      | exact ih1 _ _ _ _ _ _ _ _ _ _
      | exact ih2 _ _ _ _ _ _ _ _ _ _ _
      | exact ih3 _ _ _ _ _ _ _ _ _ _ _ _
      | exact impl_AffAt.mono _ _ _ _
      | exact impl_BoxOk.mono _ _
      | exact impl_InArr.mono _ _ _ _ _
      | exact impl_Least.mono _ _ _ _
      | exact impl_Most.mono _ _ _ _
      | exact impl_Rounds.mono _ _
      | exact spec_DrawBox.mono _ _
      | exact LeO.none _
      | refine LeO.ite ?_ ?_
      | refine LeO.bind ?_ (fun _ => ?_)
    · intro y0 y1 y2 y3 y4 y5 y6 y7 y8 y9 y10
      unfold laws_FnBoxes.l1
      repeat' first
      | (with_reducible exact ih0 _ _ _ _ _ _ _)
      | (with_reducible exact ih1 _ _ _ _ _ _ _ _ _ _)
      | (with_reducible exact ih2 _ _ _ _ _ _ _ _ _ _ _)
      | (with_reducible exact ih3 _ _ _ _ _ _ _ _ _ _ _ _)
      | (with_reducible exact impl_AffAt.mono _ _ _ _)
      | (with_reducible exact impl_BoxOk.mono _ _)
      | (with_reducible exact impl_InArr.mono _ _ _ _ _)
      | (with_reducible exact impl_Least.mono _ _ _ _)
      | (with_reducible exact impl_Most.mono _ _ _ _)
      | (with_reducible exact impl_Rounds.mono _ _)
      | (with_reducible exact spec_DrawBox.mono _ _)
      | (with_reducible exact LeO.refl _)
      | (with_reducible exact LeO.none _)
      | (with_reducible refine LeO.ite ?_ ?_)
      | (with_reducible refine LeO.bind ?_ (fun _ => ?_))
      | exact ih0 _ _ _ _ _ _ _
      | exact ih1 _ _ _ _ _ _ _ _ _ _
      | exact ih2 _ _ _ _ _ _ _ _ _ _ _
      | exact ih3 _ _ _ _ _ _ _ _ _ _ _ _
      | exact impl_AffAt.mono _ _ _ _
      | exact impl_BoxOk.mono _ _
      | exact impl_InArr.mono _ _ _ _ _
      | exact impl_Least.mono _ _ _ _
      | exact impl_Most.mono _ _ _ _
      | exact impl_Rounds.mono _ _
      | exact spec_DrawBox.mono _ _
      | exact LeO.none _
      | refine LeO.ite ?_ ?_
      | refine LeO.bind ?_ (fun _ => ?_)
    · intro y0 y1 y2 y3 y4 y5 y6 y7 y8 y9 y10 y11
      unfold laws_FnBoxes.l2
      repeat' first
      | (with_reducible exact ih0 _ _ _ _ _ _ _)
      | (with_reducible exact ih1 _ _ _ _ _ _ _ _ _ _)
      | (with_reducible exact ih2 _ _ _ _ _ _ _ _ _ _ _)
      | (with_reducible exact ih3 _ _ _ _ _ _ _ _ _ _ _ _)
      | (with_reducible exact impl_AffAt.mono _ _ _ _)
      | (with_reducible exact impl_BoxOk.mono _ _)
      | (with_reducible exact impl_InArr.mono _ _ _ _ _)
      | (with_reducible exact impl_Least.mono _ _ _ _)
      | (with_reducible exact impl_Most.mono _ _ _ _)
      | (with_reducible exact impl_Rounds.mono _ _)
      | (with_reducible exact spec_DrawBox.mono _ _)
      | (with_reducible exact LeO.refl _)
      | (with_reducible exact LeO.none _)
      | (with_reducible refine LeO.ite ?_ ?_)
      | (with_reducible refine LeO.bind ?_ (fun _ => ?_))
      | exact ih0 _ _ _ _ _ _ _
      | exact ih1 _ _ _ _ _ _ _ _ _ _
      | exact ih2 _ _ _ _ _ _ _ _ _ _ _
      | exact ih3 _ _ _ _ _ _ _ _ _ _ _ _
      | exact impl_AffAt.mono _ _ _ _
      | exact impl_BoxOk.mono _ _
      | exact impl_InArr.mono _ _ _ _ _
      | exact impl_Least.mono _ _ _ _
      | exact impl_Most.mono _ _ _ _
      | exact impl_Rounds.mono _ _
      | exact spec_DrawBox.mono _ _
      | exact LeO.none _
      | refine LeO.ite ?_ ?_
      | refine LeO.bind ?_ (fun _ => ?_)
theorem laws_FnBoxes.mono : ∀ a0 k, LeO (laws_FnBoxes.f k a0) (laws_FnBoxes.f (k + 1) a0) := by
  intro a0 k
  obtain ⟨ih0, ih1, ih2, ih3⟩ := laws_FnBoxes.mono_l k
  unfold laws_FnBoxes.f
  repeat' first
      | (with_reducible exact ih0 _ _ _ _ _ _ _)
      | (with_reducible exact ih1 _ _ _ _ _ _ _ _ _ _)
      | (with_reducible exact ih2 _ _ _ _ _ _ _ _ _ _ _)
      | (with_reducible exact ih3 _ _ _ _ _ _ _ _ _ _ _ _)
      | (with_reducible exact impl_AffAt.mono _ _ _ _)
      | (with_reducible exact impl_BoxOk.mono _ _)
      | (with_reducible exact impl_InArr.mono _ _ _ _ _)
      | (with_reducible exact impl_Least.mono _ _ _ _)
      | (with_reducible exact impl_Most.mono _ _ _ _)
      | (with_reducible exact impl_Rounds.mono _ _)
      | (with_reducible exact spec_DrawBox.mono _ _)
      | (with_reducible exact LeO.refl _)
      | (with_reducible exact LeO.none _)
      | (with_reducible refine LeO.ite ?_ ?_)
      | (with_reducible refine LeO.bind ?_ (fun _ => ?_))
      | exact ih0 _ _ _ _ _ _ _
      | exact ih1 _ _ _ _ _ _ _ _ _ _
      | exact ih2 _ _ _ _ _ _ _ _ _ _ _
      | exact ih3 _ _ _ _ _ _ _ _ _ _ _ _
      | exact impl_AffAt.mono _ _ _ _
      | exact impl_BoxOk.mono _ _
      | exact impl_InArr.mono _ _ _ _ _
      | exact impl_Least.mono _ _ _ _
      | exact impl_Most.mono _ _ _ _
      | exact impl_Rounds.mono _ _
      | exact spec_DrawBox.mono _ _
      | exact LeO.none _
      | refine LeO.ite ?_ ?_
      | refine LeO.bind ?_ (fun _ => ?_)
def laws_FnBoxes.T20 : Bool × List (List Nat × List Nat) := (true, [([], []), ([], []), ([1], [1]), ([2], [2]), ([3], [3]), ([], []), ([4, 5], [4, 5]), ([], []), ([7], [7]), ([8], [8]), ([9], [9]), ([], []), ([10, 11], [10, 11]), ([], []), ([13], [13]), ([14], [14]), ([15], [15]), ([], []), ([16, 17], [16, 17]), ([6, 12, 18], [6, 12, 18]), ([0, 19], [0, 19]), ([20, 20, 0, 1, 2, 3, 4, 5, 6, 7, 8, 9, 10, 11, 12, 13, 14, 15, 16, 17, 18, 19, 20], [20])])
def laws_FnBoxes.B20 : List Nat := [0, 0, 2, 6, 14, 0, 62, 0, 128, 384, 896, 0, 3968, 0, 8192, 24576, 57344, 0, 253952, 524286, 1048575, 2097151]
theorem laws_FnBoxes.tab20 : rtab .any (opsOf Try.f3 20) = laws_FnBoxes.T20 := by kernel_rfl
theorem laws_FnBoxes.bits20 : waitsOk laws_FnBoxes.T20.2 laws_FnBoxes.B20 = true := by kernel_rfl
set_option maxHeartbeats 8000000 in
set_option maxRecDepth 100000 in
theorem laws_FnBoxes.calls (k : Nat) (A0 : Option Addr) (c0 : Nat) (l0 : List Int) (r : Bool) (w : World) (hr0 : Kd.C (Kd.int .u8) w A0 l0.length l0) (hc0 : l0.length ≤ c0) (h : laws_FnBoxes.f k l0 = some r) :
    Calls Try.prog 3 #[.slice A0 l0.length c0] w fun e w' => e = .returned (.bool r) ∧ Below w.heap.size w w' := by
  have hu26 := Try.underlying26
  have hu36 := Try.underlying36
  have HR0 := Aside0.mk hr0
  have HC0 := Aside0.mk hc0
  clear hr0 hc0
  have HB := Aside0.mk (Below.refl w.heap.size w)
  have H : ((laws_big.f l0).bind fun t222 => (if t222 = true then (some true) else ((spec_DrawBox.f k l0).bind fun bt223 => ((impl_Least.f k bt223.1 bt223.2.1 bt223.2.2).bind fun bt231 => ((impl_Most.f k bt223.1 bt223.2.1 bt223.2.2).bind fun bt233 => (if bt231.2 = true then (if bt233.2 = true then (laws_FnBoxes.j0 k l0 bt223.2.2 bt231.1 bt233.1 (decide (bt231.1 > bt233.1)) bt223.1 bt223.2.1) else (laws_FnBoxes.j0 k l0 bt223.2.2 bt231.1 bt233.1 true bt223.1 bt223.2.1)) else (laws_FnBoxes.j0 k l0 bt223.2.2 bt231.1 bt233.1 true bt223.1 bt223.2.1))))))) = some r := h
  clear h
  replace H := Option.bind_eq_some_iff.mp H
  obtain ⟨t222, A20, H⟩ := H
  replace H : (if t222 = true then (some true) else ((spec_DrawBox.f k l0).bind fun bt223 => ((impl_Least.f k bt223.1 bt223.2.1 bt223.2.2).bind fun bt231 => ((impl_Most.f k bt223.1 bt223.2.1 bt223.2.2).bind fun bt233 => (if bt231.2 = true then (if bt233.2 = true then (laws_FnBoxes.j0 k l0 bt223.2.2 bt231.1 bt233.1 (decide (bt231.1 > bt233.1)) bt223.1 bt223.2.1) else (laws_FnBoxes.j0 k l0 bt223.2.2 bt231.1 bt233.1 true bt223.1 bt223.2.1)) else (laws_FnBoxes.j0 k l0 bt223.2.2 bt231.1 bt233.1 true bt223.1 bt223.2.1)))))) = some r := H
  have A2 := Aside0.mk A20
  clear A20
  by_cases c3 : t222 = true
  · subst c3
    have H1 : (some true) = some r := by rw [if_pos rfl] at H; exact H
    clear H
    have H := H1
    clear H1
    obtain rfl := Option.some.inj H
    go_enter Try.func3, Try.ntmps3
    go_wp2_with (first | ((with_reducible refine gate_callee (f := 9) rfl ?_); refine goesL_ (some 18) rfl rfl Try.func9 (by kernel_rfl) rfl #[.slice A0 l0.length c0] rfl (by (try simp only [List.map_toArray, List.map_cons, List.map_nil]); first | done | rfl | (simp only [List.length_drop, List.length_take]; rfl)) ?_; (with_reducible refine (laws_big.calls _ _ l0 true _ ?side1 ?side2 A2.out).mono ?_); (case side1 => repeat (first | exact HR0.out | (with_reducible refine Kd.C_alloc ?_ _) | (with_reducible refine Kd.C_drewN ?_ _) | (with_reducible refine Kd.C_drew ?_))); (case side2 => exact HC0.out); rintro e w' ⟨rfl, ⟨nd, rfl⟩⟩; refine ⟨_, rfl, ?_⟩))
    go_ret
    exact ⟨by first | rfl | (simp [errW_none, errW_some] <;> rfl) | (simp [*, errW_none, errW_some] <;> rfl), by repeat (first | (with_reducible first | exact HB.out | apply below_alloc | apply pw_below_drewN | apply below_drew1) | exact HB.out)⟩
  · replace c3 := Bool.eq_false_iff.mpr c3
    subst c3
    have H1 : ((spec_DrawBox.f k l0).bind fun bt223 => ((impl_Least.f k bt223.1 bt223.2.1 bt223.2.2).bind fun bt231 => ((impl_Most.f k bt223.1 bt223.2.1 bt223.2.2).bind fun bt233 => (if bt231.2 = true then (if bt233.2 = true then (laws_FnBoxes.j0 k l0 bt223.2.2 bt231.1 bt233.1 (decide (bt231.1 > bt233.1)) bt223.1 bt223.2.1) else (laws_FnBoxes.j0 k l0 bt223.2.2 bt231.1 bt233.1 true bt223.1 bt223.2.1)) else (laws_FnBoxes.j0 k l0 bt223.2.2 bt231.1 bt233.1 true bt223.1 bt223.2.1))))) = some r := by rw [if_neg (show ¬ (false = true) by decide)] at H; exact H
    clear H
    have H := H1
    clear H1
    replace H := Option.bind_eq_some_iff.mp H
    obtain ⟨⟨t223, t224, t227⟩, A40, H⟩ := H
    replace H : ((impl_Least.f k t223 t224 t227).bind fun bt231 => ((impl_Most.f k t223 t224 t227).bind fun bt233 => (if bt231.2 = true then (if bt233.2 = true then (laws_FnBoxes.j0 k l0 t227 bt231.1 bt233.1 (decide (bt231.1 > bt233.1)) t223 t224) else (laws_FnBoxes.j0 k l0 t227 bt231.1 bt233.1 true t223 t224)) else (laws_FnBoxes.j0 k l0 t227 bt231.1 bt233.1 true t223 t224)))) = some r := H
    have A4 := Aside0.mk A40
    clear A40
    replace H := Option.bind_eq_some_iff.mp H
    obtain ⟨⟨t231, t232⟩, A50, H⟩ := H
    replace H : ((impl_Most.f k t223 t224 t227).bind fun bt233 => (if t232 = true then (if bt233.2 = true then (laws_FnBoxes.j0 k l0 t227 t231 bt233.1 (decide (t231 > bt233.1)) t223 t224) else (laws_FnBoxes.j0 k l0 t227 t231 bt233.1 true t223 t224)) else (laws_FnBoxes.j0 k l0 t227 t231 bt233.1 true t223 t224))) = some r := H
    have A5 := Aside0.mk A50
    clear A50
    replace H := Option.bind_eq_some_iff.mp H
    obtain ⟨⟨t233, t234⟩, A60, H⟩ := H
    replace H : (if t232 = true then (if t234 = true then (laws_FnBoxes.j0 k l0 t227 t231 t233 (decide (t231 > t233)) t223 t224) else (laws_FnBoxes.j0 k l0 t227 t231 t233 true t223 t224)) else (laws_FnBoxes.j0 k l0 t227 t231 t233 true t223 t224)) = some r := H
    have A6 := Aside0.mk A60
    clear A60
    have HC7 := Aside0.mk H
    clear H
    go_enter Try.func3, Try.ntmps3
    go_upto_region 6 with (first | ((with_reducible refine gate_callee (f := 9) rfl ?_); refine goesL_ (some 18) rfl rfl Try.func9 (by kernel_rfl) rfl #[.slice A0 l0.length c0] rfl (by (try simp only [List.map_toArray, List.map_cons, List.map_nil]); first | done | rfl | (simp only [List.length_drop, List.length_take]; rfl)) ?_; (with_reducible refine (laws_big.calls _ _ l0 false _ ?side1 ?side2 A2.out).mono ?_); (case side1 => repeat (first | exact HR0.out | (with_reducible refine Kd.C_alloc ?_ _) | (with_reducible refine Kd.C_drewN ?_ _) | (with_reducible refine Kd.C_drew ?_))); (case side2 => exact HC0.out); rintro e w' ⟨rfl, ⟨nd, rfl⟩⟩; refine ⟨_, rfl, ?_⟩) | ((with_reducible refine gate_callee (f := 10) rfl ?_); refine goesL_ (some 21) rfl rfl Try.func10 (by kernel_rfl) rfl #[.slice A0 l0.length c0] rfl (by (try simp only [List.map_toArray, List.map_cons, List.map_nil]); first | done | rfl | (simp only [List.length_drop, List.length_take]; rfl)) ?_; (with_reducible refine (spec_DrawBox.calls k _ _ l0 t223 t224 t227 _ ?side1 ?side2 A4.out).mono ?_); (case side1 => repeat (first | exact HR0.out | (with_reducible refine Kd.C_alloc ?_ _) | (with_reducible refine Kd.C_drewN ?_ _) | (with_reducible refine Kd.C_drew ?_))); (case side2 => exact HC0.out); rintro e w8 ⟨v225, v228, rfl, ho0, ho1, hb⟩; refine ⟨_, rfl, ?_⟩; have n0_ := Aside0.mk (Kd.R_lower ho0 (below_size (by repeat (first | (with_reducible first | exact HB.out | apply below_alloc | apply pw_below_drewN | apply below_drew1) | exact HB.out)))); have n1_ := Aside0.mk (Kd.R_lower ho1 (below_size (by repeat (first | (with_reducible first | exact HB.out | apply below_alloc | apply pw_below_drewN | apply below_drew1) | exact HB.out)))); have n2_ := Aside0.mk (below_step (by repeat (first | (with_reducible first | exact HB.out | apply below_alloc | apply pw_below_drewN | apply below_drew1) | exact HB.out)) hb); clear HB; have HO226 := n0_; have HO229 := n1_; have HB := n2_; clear n0_ n1_ n2_; (try clear hb); (try clear hb2); (try clear hk); (try clear hi); (try clear ho0); (try clear ho1)) | ((with_reducible refine gate_dst (N := 3) rfl ?_); refine box_event ?hg (N := 3) ?hd (cs := #[.int .i64 0, .slice none 0 0]) (t := 26) ?hr ?_; (case hd => rfl); (case hg => rfl); (case hr => first | (go_simp; done) | (go_simp; rfl)); intro gb230 hg w9 hbox hb; have n0_ := Aside0.mk (Kd.R_below (by (with_reducible repeat (first | apply Kd.R_alloc | apply Kd.R_drewN | apply Kd.R_drew)); exact HO226.out) hb); have n1_ := Aside0.mk (Kd.R_below (by (with_reducible repeat (first | apply Kd.R_alloc | apply Kd.R_drewN | apply Kd.R_drew)); exact HO229.out) hb); have n2_ := Aside0.mk (below_step (by repeat (first | (with_reducible first | exact HB.out | apply below_alloc | apply pw_below_drewN | apply below_drew1) | exact HB.out)) hb); have n3_ := Aside0.mk (hbox); have n4_ := Aside0.mk ((by rw [hg]; exact (below_size (by repeat (first | (with_reducible first | exact HB.out | apply below_alloc | apply pw_below_drewN | apply below_drew1) | exact HB.out))) : w.heap.size ≤ gb230)); have n5_ := Aside0.mk ((by rw [hg]; exact (below_size (by repeat (first | (with_reducible first | exact HB.out | apply below_alloc | apply pw_below_drewN | apply below_drew1) | exact HB.out))) : w.heap.size ≤ gb230)); clear HO226; clear HO229; clear HB; have HO226 := n0_; have HO229 := n1_; have HB := n2_; have BK230 := n3_; have GW230 := n4_; have GE230 := n5_; clear n0_ n1_ n2_ n3_ n4_ n5_; clear hb hbox hg; have hcz10_0 : w9.cell? ⟨gb230, 0, none⟩ = some (.int .i64 0) := (blk_cell BK230.out 0).trans rfl; have hcz10_1 : w9.cell? ⟨gb230, 1, none⟩ = some (.slice none 0 0) := (blk_cell BK230.out 1).trans rfl; have hfz10_0 := blk_frozen BK230.out 0; have hfz10_1 := blk_frozen BK230.out 1; obtain ⟨Ao11, co11, eo11⟩ := Kd.R_slice HO226.out; subst eo11; obtain ⟨Ao12, co12, eo12⟩ := Kd.R_slice HO229.out; subst eo12) | ((with_reducible refine gate_callee (f := 11) rfl ?_); refine goesL_ (some 27) rfl rfl Try.func11 (by kernel_rfl) rfl #[.agg #[.int .i64 t223, .slice Ao11 t224.length co11], .slice Ao12 t227.length co12] rfl (by (try simp only [List.map_toArray, List.map_cons, List.map_nil]); first | done | rfl | (simp only [List.length_drop, List.length_take]; rfl)) ?_; (with_reducible refine (impl_Least.calls k t223 _ _ t224 _ _ t227 t231 t232 _ ?side1 ?side2 ?side3 ?side4 A5.out).mono ?_); (case side1 => refine (Kd.R_reads' (e := 73) (base := w.heap.size) (ok := fun k_ => True) (n := t224.length) (c := co11) ?_).2.2; exact (by (with_reducible repeat (first | apply Kd.R_alloc | apply Kd.R_drewN | apply Kd.R_drew)); exact (Kd.R_mono (Kd.R_far (p := ⟨gb230, 1, none⟩) (Kd.R_far (p := ⟨gb230, 0, none⟩) (Kd.R_types HO226.out BK230.out (by decide)) (fun _ hk => hk.2) (.int .i64 t223)) (fun _ hk => hk.2) (.slice Ao11 t224.length co11)) (fun _ h_ => h_.1)))); (case side2 => exact (Kd.R_reads' HO226.out).2.1); (case side3 => refine (Kd.R_reads' (e := 33) (base := w.heap.size) (ok := fun k_ => True) (n := t227.length) (c := co12) ?_).2.2; exact (by (with_reducible repeat (first | apply Kd.R_alloc | apply Kd.R_drewN | apply Kd.R_drew)); exact (Kd.R_mono (Kd.R_far (p := ⟨gb230, 1, none⟩) (Kd.R_far (p := ⟨gb230, 0, none⟩) (Kd.R_types HO229.out BK230.out (by decide)) (fun _ hk => hk.2) (.int .i64 t223)) (fun _ hk => hk.2) (.slice Ao11 t224.length co11)) (fun _ h_ => h_.1)))); (case side4 => exact (Kd.R_reads' HO229.out).2.1); rintro e w13 ⟨rfl, hb⟩; refine ⟨_, rfl, ?_⟩; have n0_ := Aside0.mk (Kd.R_below (by (with_reducible repeat (first | apply Kd.R_alloc | apply Kd.R_drewN | apply Kd.R_drew)); exact (Kd.R_mono (Kd.R_far (p := ⟨gb230, 1, none⟩) (Kd.R_far (p := ⟨gb230, 0, none⟩) (Kd.R_types HO226.out BK230.out (by decide)) (fun _ hk => hk.2) (.int .i64 t223)) (fun _ hk => hk.2) (.slice Ao11 t224.length co11)) (fun _ h_ => h_.1))) hb); have n1_ := Aside0.mk (Kd.R_below (by (with_reducible repeat (first | apply Kd.R_alloc | apply Kd.R_drewN | apply Kd.R_drew)); exact (Kd.R_mono (Kd.R_far (p := ⟨gb230, 1, none⟩) (Kd.R_far (p := ⟨gb230, 0, none⟩) (Kd.R_types HO229.out BK230.out (by decide)) (fun _ hk => hk.2) (.int .i64 t223)) (fun _ hk => hk.2) (.slice Ao11 t224.length co11)) (fun _ h_ => h_.1))) hb); have n2_ := Aside0.mk (blk_below (g := gb230) (o := .cells #[.int .i64 t223, .slice Ao11 t224.length co11] 26 (0, 0)) (by (with_reducible repeat (first | refine blk_drewN ?_ _ | refine blk_drew ?_ | refine blk_alloc ?_ _)); refine blk_put (cs := #[.int .i64 t223, .slice none 0 0]) ?_ 1 _ rfl; (with_reducible repeat (first | refine blk_drewN ?_ _ | refine blk_drew ?_ | refine blk_alloc ?_ _)); refine blk_put (cs := #[.int .i64 0, .slice none 0 0]) ?_ 0 _ rfl; (with_reducible repeat (first | refine blk_drewN ?_ _ | refine blk_drew ?_ | refine blk_alloc ?_ _)); exact BK230.out) hb); have n3_ := Aside0.mk (below_step (by repeat (first | (with_reducible first | exact HB.out | apply below_alloc | apply pw_below_drewN | apply below_drew1 | refine below_set ?_ GE230.out) | exact HB.out)) hb); clear HO226; clear HO229; clear BK230; clear HB; have HO226 := n0_; have HO229 := n1_; have BK230 := n2_; have HB := n3_; clear n0_ n1_ n2_ n3_; (try clear hb); (try clear hb2); (try clear hk); (try clear hi); have hcz14_0 : w13.cell? ⟨gb230, 0, none⟩ = some (.int .i64 t223) := (blk_cell BK230.out 0).trans rfl; have hcz14_1 : w13.cell? ⟨gb230, 1, none⟩ = some (.slice Ao11 t224.length co11) := (blk_cell BK230.out 1).trans rfl; have hfz14_0 := blk_frozen BK230.out 0; have hfz14_1 := blk_frozen BK230.out 1) | ((with_reducible refine gate_callee (f := 12) rfl ?_); refine goesL_ (some 33) rfl rfl Try.func12 (by kernel_rfl) rfl #[.agg #[.int .i64 t223, .slice Ao11 t224.length co11], .slice Ao12 t227.length co12] rfl (by (try simp only [List.map_toArray, List.map_cons, List.map_nil]); first | done | rfl | (simp only [List.length_drop, List.length_take]; rfl)) ?_; (with_reducible refine (impl_Most.calls k t223 _ _ t224 _ _ t227 t233 t234 _ ?side1 ?side2 ?side3 ?side4 A6.out).mono ?_); (case side1 => repeat (first | exact (Kd.R_reads' HO226.out).2.2 | (with_reducible refine Kd.C_alloc ?_ _) | (with_reducible refine Kd.C_drewN ?_ _) | (with_reducible refine Kd.C_drew ?_))); (case side2 => exact (Kd.R_reads' HO226.out).2.1); (case side3 => repeat (first | exact (Kd.R_reads' HO229.out).2.2 | (with_reducible refine Kd.C_alloc ?_ _) | (with_reducible refine Kd.C_drewN ?_ _) | (with_reducible refine Kd.C_drew ?_))); (case side4 => exact (Kd.R_reads' HO229.out).2.1); rintro e w15 ⟨rfl, hb⟩; refine ⟨_, rfl, ?_⟩; have n0_ := Aside0.mk (Kd.R_below (by (with_reducible repeat (first | apply Kd.R_alloc | apply Kd.R_drewN | apply Kd.R_drew)); exact HO226.out) hb); have n1_ := Aside0.mk (Kd.R_below (by (with_reducible repeat (first | apply Kd.R_alloc | apply Kd.R_drewN | apply Kd.R_drew)); exact HO229.out) hb); have n2_ := Aside0.mk (blk_below (g := gb230) (o := .cells #[.int .i64 t223, .slice Ao11 t224.length co11] 26 (0, 0)) (by (with_reducible repeat (first | refine blk_drewN ?_ _ | refine blk_drew ?_ | refine blk_alloc ?_ _)); exact BK230.out) hb); have n3_ := Aside0.mk (below_step (by repeat (first | (with_reducible first | exact HB.out | apply below_alloc | apply pw_below_drewN | apply below_drew1 | refine below_set ?_ GE230.out) | exact HB.out)) hb); clear HO226; clear HO229; clear BK230; clear HB; have HO226 := n0_; have HO229 := n1_; have BK230 := n2_; have HB := n3_; clear n0_ n1_ n2_ n3_; (try clear hb); (try clear hb2); (try clear hk); (try clear hi)))
    (try simp only [Act.put, List.setIfInBounds_toArray, List.set_cons_zero, List.set_cons_succ])
    go_cut [46] (fun v46 wc => ∃ (kq : Nat) (x46_6 : Bool), v46 = .bool x46_6 ∧ Aside0 (laws_FnBoxes.j0 kq l0 t227 t231 t233 x46_6 t223 t224 = some r) ∧ Aside0 (kq ≤ k) ∧ Aside0 (Kd.R k33 33 wc w.heap.size (fun _ => True) (.slice Ao12 t227.length co12) t227) ∧ Aside0 (Kd.R k73 73 wc w.heap.size (fun _ => True) (.slice Ao11 t224.length co11) t224) ∧ Aside0 (wc.heap[gb230]? = some (.cells #[.int .i64 t223, (.slice Ao11 t224.length co11)] 26 (0, 0))) ∧ Aside0 (Below w.heap.size w wc))
    case first =>
      have H := HC7.out
      clear HC7
      by_cases c16 : t232 = true
      · subst c16
        have H1 : (if t234 = true then (laws_FnBoxes.j0 k l0 t227 t231 t233 (decide (t231 > t233)) t223 t224) else (laws_FnBoxes.j0 k l0 t227 t231 t233 true t223 t224)) = some r := by rw [if_pos rfl] at H; exact H
        clear H
        have H := H1
        clear H1
        by_cases c17 : t234 = true
        · subst c17
          have H1 : (laws_FnBoxes.j0 k l0 t227 t231 t233 (decide (t231 > t233)) t223 t224) = some r := by rw [if_pos rfl] at H; exact H
          clear H
          have H := H1
          clear H1
          have H' := Aside0.mk H
          clear H
          go_wp2
          go_meet
          case rel => exact ⟨_, (decide (t231 > t233)), (by first | rfl | (simp; done) | (simp [*]; done)), H', ⟨by first | omega | exact Nat.le_refl _⟩, ⟨by (with_reducible repeat (first | apply Kd.R_alloc | apply Kd.R_drewN | apply Kd.R_drew)); exact HO229.out⟩, ⟨by (with_reducible repeat (first | apply Kd.R_alloc | apply Kd.R_drewN | apply Kd.R_drew)); exact HO226.out⟩, ⟨by (with_reducible repeat (first | refine blk_drewN ?_ _ | refine blk_drew ?_ | refine blk_alloc ?_ _)); exact BK230.out⟩, ⟨by repeat (first | (with_reducible first | exact HB.out | apply below_alloc | apply pw_below_drewN | apply below_drew1 | refine below_set ?_ GE230.out) | exact HB.out)⟩⟩
        · replace c17 := Bool.eq_false_iff.mpr c17
          subst c17
          have H1 : (laws_FnBoxes.j0 k l0 t227 t231 t233 true t223 t224) = some r := by rw [if_neg (show ¬ (false = true) by decide)] at H; exact H
          clear H
          have H := H1
          clear H1
          have H' := Aside0.mk H
          clear H
          go_wp2
          go_meet
          case rel => exact ⟨_, (true), (by first | rfl | (simp; done) | (simp [*]; done)), H', ⟨by first | omega | exact Nat.le_refl _⟩, ⟨by (with_reducible repeat (first | apply Kd.R_alloc | apply Kd.R_drewN | apply Kd.R_drew)); exact HO229.out⟩, ⟨by (with_reducible repeat (first | apply Kd.R_alloc | apply Kd.R_drewN | apply Kd.R_drew)); exact HO226.out⟩, ⟨by (with_reducible repeat (first | refine blk_drewN ?_ _ | refine blk_drew ?_ | refine blk_alloc ?_ _)); exact BK230.out⟩, ⟨by repeat (first | (with_reducible first | exact HB.out | apply below_alloc | apply pw_below_drewN | apply below_drew1 | refine below_set ?_ GE230.out) | exact HB.out)⟩⟩
      · replace c16 := Bool.eq_false_iff.mpr c16
        subst c16
        have H1 : (laws_FnBoxes.j0 k l0 t227 t231 t233 true t223 t224) = some r := by rw [if_neg (show ¬ (false = true) by decide)] at H; exact H
        clear H
        have H := H1
        clear H1
        have H' := Aside0.mk H
        clear H
        go_wp2
        go_meet
        case rel => exact ⟨_, (true), (by first | rfl | (simp; done) | (simp [*]; done)), H', ⟨by first | omega | exact Nat.le_refl _⟩, ⟨by (with_reducible repeat (first | apply Kd.R_alloc | apply Kd.R_drewN | apply Kd.R_drew)); exact HO229.out⟩, ⟨by (with_reducible repeat (first | apply Kd.R_alloc | apply Kd.R_drewN | apply Kd.R_drew)); exact HO226.out⟩, ⟨by (with_reducible repeat (first | refine blk_drewN ?_ _ | refine blk_drew ?_ | refine blk_alloc ?_ _)); exact BK230.out⟩, ⟨by repeat (first | (with_reducible first | exact HB.out | apply below_alloc | apply pw_below_drewN | apply below_drew1 | refine below_set ?_ GE230.out) | exact HB.out)⟩⟩
    case rest =>
      clear HC7
      try clear c1
      try clear p2
      try clear c3
      try clear c9
      try clear c10
      try clear c11
      try clear c12
      try clear c16
      try clear c17
      try clear hcz10_0
      try clear hcz10_1
      try clear hcz14_0
      try clear hcz14_1
      try clear hfz10_0
      try clear hfz10_1
      try clear hfz14_0
      try clear hfz14_1
      obtain ⟨kq, x46_6, rfl, HA, HJ6, HO_4, HO_231001, BK230, HB⟩ := hcut
      cases kq with
      | zero => exact absurd HA.out (by simp [laws_FnBoxes.j0])
      | succ kj6 =>
        have H := HA.out
        clear HA
        simp only [laws_FnBoxes.j0] at H
        by_cases c18 : x46_6 = true
        · subst c18
          have H1 : (none) = some r := by rw [if_pos rfl] at H; exact H
          clear H
          have H := H1
          clear H1
          exact absurd H (by simp)
        · replace c18 := Bool.eq_false_iff.mpr c18
          subst c18
          have H1 : (if 0 < (t227.length : Int) then (laws_FnBoxes.l0 kj6 l0 t227 t231 t233 false false 0 ((rd_T33 t227 0).f1) t223 t224) else (none)) = some r := by rw [if_neg (show ¬ (false = true) by decide)] at H; exact H
          clear H
          have H := H1
          clear H1
          by_cases c19 : 0 < (t227.length : Int)
          · rw [if_pos c19] at H
            have c19b0 : decide (0 < (t227.length : Int)) = true := decide_eq_true c19
            have c19b1 : decide (0 < t227.length) = true := decide_eq_true (by omega)
            clear c19
            have H' := Aside0.mk H
            clear H
            have p235 : 0 ≤ (0 : Int) := (by omega)
            have q235 : 0 < (t227.length : Int) := of_decide_eq_true (by first | (with_reducible assumption) | assumption)
            obtain ⟨ad235, e235, hx235_0, hx235_1, hx235_2⟩ := at_T33 (Kd.R_reads' HO_4.out).2.2 0 p235 q235
            cases e235
            have qi235 : (0 < t227.length) = True := eq_true (by omega)
            (try rw [show ((0 : Int)).toNat = 0 from rfl] at hx235_0)
            (try rw [show 0 * 3 = 0 from rfl] at hx235_0)
            (try rw [Addr.add_zero'] at hx235_0)
            (try rw [show ((0 : Int)).toNat = 0 from rfl] at hx235_1)
            (try rw [show 0 * 3 = 0 from rfl] at hx235_1)
            (try rw [Addr.add_zero'] at hx235_1)
            (try rw [show ((0 : Int)).toNat = 0 from rfl] at hx235_2)
            (try rw [show 0 * 3 = 0 from rfl] at hx235_2)
            (try rw [Addr.add_zero'] at hx235_2)
            replace p235 := eq_true p235
            replace q235 := eq_true q235
            go_wp2
            go_loopg [9, 10, 11, 12] kj6 (fun kq v9 v10 v11 v12 w' => ∃ (x9_2 : Bool) (x10_2 : Bool) (x11_2 : Int) (x12_2 : Int), v9 = .bool x9_2 ∧ v10 = .bool x10_2 ∧ v11 = .int .i64 x11_2 ∧ v12 = .int .i64 x12_2 ∧ Aside0 (laws_FnBoxes.l0 kq l0 t227 t231 t233 x9_2 x10_2 x11_2 x12_2 t223 t224 = some r) ∧ Aside0 (kq ≤ kj6) ∧ Aside0 (Kd.R k33 33 w' w.heap.size (fun _ => True) (.slice (some ad235) t227.length co12) t227) ∧ Aside0 (Kd.R k73 73 w' w.heap.size (fun _ => True) (.slice Ao11 t224.length co11) t224) ∧ Aside0 (w'.heap[gb230]? = some (.cells #[.int .i64 t223, (.slice Ao11 t224.length co11)] 26 (0, 0))) ∧ Aside0 (Below w.heap.size w w'))
            case atStart => exact ⟨(false), (false), (0), ((rd_T33 t227 0).f1), (by first | rfl | (simp; done) | (simp [*]; done)), (by first | rfl | (simp; done) | (simp [*]; done)), (by first | rfl | (simp; done) | (simp [*]; done)), (by first | rfl | (simp; done) | (simp [*]; done)), H', ⟨Nat.le_refl _⟩, ⟨by (with_reducible repeat (first | apply Kd.R_alloc | apply Kd.R_drewN | apply Kd.R_drew)); exact HO_4.out⟩, ⟨by (with_reducible repeat (first | apply Kd.R_alloc | apply Kd.R_drewN | apply Kd.R_drew)); exact HO_231001.out⟩, ⟨by (with_reducible repeat (first | refine blk_drewN ?_ _ | refine blk_drew ?_ | refine blk_alloc ?_ _)); exact BK230.out⟩, ⟨by repeat (first | (with_reducible first | exact HB.out | apply below_alloc | apply pw_below_drewN | apply below_drew1 | refine below_set ?_ GE230.out) | exact HB.out)⟩⟩
            case round =>
              clear H'
              try clear c1
              try clear p2
              try clear q2
              try clear hx2
              try clear qi2
              try clear c3
              try clear c9
              try clear c10
              try clear c11
              try clear c12
              try clear c16
              try clear c17
              try clear c18
              try clear c19
              try clear c19b0
              try clear c19b1
              try clear hcz10_0
              try clear hcz10_1
              try clear hcz14_0
              try clear hcz14_1
              try clear hfz10_0
              try clear hfz10_1
              try clear hfz14_0
              try clear hfz14_1
              try clear hx235_0
              try clear hx235_1
              try clear hx235_2
              try clear p2
              try clear p235
              try clear q235
              obtain ⟨x9_2, x10_2, x11_2, x12_2, rfl, rfl, rfl, rfl, HA, HK2, HO_4, HO_231001, BK230, HB⟩ := hrel
              cases gk with
              | zero => exact absurd HA.out (by simp [laws_FnBoxes.l0])
              | succ k2 =>
                have H := HA.out
                clear HA
                simp only [laws_FnBoxes.l0] at H
                by_cases c20 : 0 < (t227.length : Int)
                · rw [if_pos c20] at H
                  have c20b0 : decide (0 < (t227.length : Int)) = true := decide_eq_true c20
                  have c20b1 : decide (0 < t227.length) = true := decide_eq_true (by omega)
                  clear c20
                  by_cases c21 : x12_2 ≤ ((rd_T33 t227 0).f2)
                  · rw [if_pos c21] at H
                    have c21b0 : decide (x12_2 ≤ ((rd_T33 t227 0).f2)) = true := decide_eq_true c21
                    clear c21
                    by_cases c22 : 1 < (t227.length : Int)
                    · rw [if_pos c22] at H
                      have c22b0 : decide (1 < (t227.length : Int)) = true := decide_eq_true c22
                      have c22b1 : decide (1 < t227.length) = true := decide_eq_true (by omega)
                      clear c22
                      have H' := Aside0.mk H
                      clear H
                      have p236 : 0 ≤ (0 : Int) := (by omega)
                      have q236 : 0 < (t227.length : Int) := of_decide_eq_true (by first | (with_reducible assumption) | assumption)
                      obtain ⟨ad236, e236, hx236_0, hx236_1, hx236_2⟩ := at_T33 (Kd.R_reads' HO_4.out).2.2 0 p236 q236
                      obtain rfl : ad235 = ad236 := (by injection e236)
                      have qi236 : (0 < t227.length) = True := eq_true (by omega)
                      (try rw [show ((0 : Int)).toNat = 0 from rfl] at hx236_0)
                      (try rw [show 0 * 3 = 0 from rfl] at hx236_0)
                      (try rw [Addr.add_zero'] at hx236_0)
                      (try rw [show ((0 : Int)).toNat = 0 from rfl] at hx236_1)
                      (try rw [show 0 * 3 = 0 from rfl] at hx236_1)
                      (try rw [Addr.add_zero'] at hx236_1)
                      (try rw [show ((0 : Int)).toNat = 0 from rfl] at hx236_2)
                      (try rw [show 0 * 3 = 0 from rfl] at hx236_2)
                      (try rw [Addr.add_zero'] at hx236_2)
                      replace p236 := eq_true p236
                      replace q236 := eq_true q236
                      have p237 : 0 ≤ (1 : Int) := (by omega)
                      have q237 : 1 < (t227.length : Int) := of_decide_eq_true (by first | (with_reducible assumption) | assumption)
                      obtain ⟨ad237, e237, hx237_0, hx237_1, hx237_2⟩ := at_T33 (Kd.R_reads' HO_4.out).2.2 1 p237 q237
                      obtain rfl : ad235 = ad237 := (by injection e237)
                      (try simp only [show (1 : Int).toNat = 1 from rfl, Nat.reduceMul, Nat.reduceEqDiff, Go.Addr.add, ↓reduceIte] at hx237_0)
                      (try simp only [show (1 : Int).toNat = 1 from rfl, Nat.reduceMul, Nat.reduceEqDiff, Go.Addr.add, ↓reduceIte] at hx237_1)
                      (try simp only [show (1 : Int).toNat = 1 from rfl, Nat.reduceMul, Nat.reduceEqDiff, Go.Addr.add, ↓reduceIte] at hx237_2)
                      have qi237 : (1 < t227.length) = True := eq_true (by omega)
                      (try rw [show ((1 : Int)).toNat = 1 from rfl] at hx237_0)
                      (try rw [show 1 * 3 = 3 from rfl] at hx237_0)
                      (try rw [show ((1 : Int)).toNat = 1 from rfl] at hx237_1)
                      (try rw [show 1 * 3 = 3 from rfl] at hx237_1)
                      (try rw [show ((1 : Int)).toNat = 1 from rfl] at hx237_2)
                      (try rw [show 1 * 3 = 3 from rfl] at hx237_2)
                      replace p237 := eq_true p237
                      replace q237 := eq_true q237
                      go_wp2
                      go_loopg [9, 10, 11, 13] k2 (fun kq v9 v10 v11 v13 w' => ∃ (x9_3 : Bool) (x10_3 : Bool) (x11_3 : Int) (x13_3 : Int), v9 = .bool x9_3 ∧ v10 = .bool x10_3 ∧ v11 = .int .i64 x11_3 ∧ v13 = .int .i64 x13_3 ∧ Aside0 (laws_FnBoxes.l1 kq l0 t227 t231 t233 x9_3 x10_3 x11_3 x12_2 x13_3 t223 t224 = some r) ∧ Aside0 (kq ≤ k2) ∧ Aside0 (Kd.R k33 33 w' w.heap.size (fun _ => True) (.slice (some ad235) t227.length co12) t227) ∧ Aside0 (Kd.R k73 73 w' w.heap.size (fun _ => True) (.slice Ao11 t224.length co11) t224) ∧ Aside0 (w'.heap[gb230]? = some (.cells #[.int .i64 t223, (.slice Ao11 t224.length co11)] 26 (0, 0))) ∧ Aside0 (Below w.heap.size w w'))
                      case atStart => exact ⟨(x9_2), (x10_2), (x11_2), ((rd_T33 t227 1).f1), (by first | rfl | (simp; done) | (simp [*]; done)), (by first | rfl | (simp; done) | (simp [*]; done)), (by first | rfl | (simp; done) | (simp [*]; done)), (by first | rfl | (simp; done) | (simp [*]; done)), H', ⟨Nat.le_refl _⟩, ⟨by (with_reducible repeat (first | apply Kd.R_alloc | apply Kd.R_drewN | apply Kd.R_drew)); exact HO_4.out⟩, ⟨by (with_reducible repeat (first | apply Kd.R_alloc | apply Kd.R_drewN | apply Kd.R_drew)); exact HO_231001.out⟩, ⟨by (with_reducible repeat (first | refine blk_drewN ?_ _ | refine blk_drew ?_ | refine blk_alloc ?_ _)); exact BK230.out⟩, ⟨by repeat (first | (with_reducible first | exact HB.out | apply below_alloc | apply pw_below_drewN | apply below_drew1 | refine below_set ?_ GE230.out) | exact HB.out)⟩⟩
                      case round =>
                        clear H'
                        try clear c1
                        try clear c2
                        try clear p2
                        try clear q2
                        try clear hx2
                        try clear qi2
                        try clear c3
                        try clear c9
                        try clear c10
                        try clear c11
                        try clear c12
                        try clear c16
                        try clear c17
                        try clear c18
                        try clear c19
                        try clear c19b0
                        try clear c19b1
                        try clear c20
                        try clear c20b0
                        try clear c20b1
                        try clear c21
                        try clear c21b0
                        try clear c22
                        try clear c22b0
                        try clear c22b1
                        try clear hcz10_0
                        try clear hcz10_1
                        try clear hcz14_0
                        try clear hcz14_1
                        try clear hfz10_0
                        try clear hfz10_1
                        try clear hfz14_0
                        try clear hfz14_1
                        try clear hx235_0
                        try clear hx235_1
                        try clear hx235_2
                        try clear hx236_0
                        try clear hx236_1
                        try clear hx236_2
                        try clear hx237_0
                        try clear hx237_1
                        try clear hx237_2
                        try clear p2
                        try clear p235
                        try clear p236
                        try clear p237
                        try clear q2
                        try clear q235
                        try clear q236
                        try clear q237
                        obtain ⟨x9_3, x10_3, x11_3, x13_3, rfl, rfl, rfl, rfl, HA, HK3, HO_4, HO_231001, BK230, HB⟩ := hrel
                        cases gk with
                        | zero => exact absurd HA.out (by simp [laws_FnBoxes.l1])
                        | succ k3 =>
                          have H := HA.out
                          clear HA
                          simp only [laws_FnBoxes.l1] at H
                          by_cases c23 : 1 < (t227.length : Int)
                          · rw [if_pos c23] at H
                            have c23b0 : decide (1 < (t227.length : Int)) = true := decide_eq_true c23
                            have c23b1 : decide (1 < t227.length) = true := decide_eq_true (by omega)
                            clear c23
                            by_cases c24 : x13_3 ≤ ((rd_T33 t227 1).f2)
                            · rw [if_pos c24] at H
                              have c24b0 : decide (x13_3 ≤ ((rd_T33 t227 1).f2)) = true := decide_eq_true c24
                              clear c24
                              by_cases c25 : 2 < (t227.length : Int)
                              · rw [if_pos c25] at H
                                have c25b0 : decide (2 < (t227.length : Int)) = true := decide_eq_true c25
                                have c25b1 : decide (2 < t227.length) = true := decide_eq_true (by omega)
                                clear c25
                                have H' := Aside0.mk H
                                clear H
                                have p238 : 0 ≤ (1 : Int) := (by omega)
                                have q238 : 1 < (t227.length : Int) := of_decide_eq_true (by first | (with_reducible assumption) | assumption)
                                obtain ⟨ad238, e238, hx238_0, hx238_1, hx238_2⟩ := at_T33 (Kd.R_reads' HO_4.out).2.2 1 p238 q238
                                obtain rfl : ad235 = ad238 := (by injection e238)
                                (try simp only [show (1 : Int).toNat = 1 from rfl, Nat.reduceMul, Nat.reduceEqDiff, Go.Addr.add, ↓reduceIte] at hx238_0)
                                (try simp only [show (1 : Int).toNat = 1 from rfl, Nat.reduceMul, Nat.reduceEqDiff, Go.Addr.add, ↓reduceIte] at hx238_1)
                                (try simp only [show (1 : Int).toNat = 1 from rfl, Nat.reduceMul, Nat.reduceEqDiff, Go.Addr.add, ↓reduceIte] at hx238_2)
                                have qi238 : (1 < t227.length) = True := eq_true (by omega)
                                (try rw [show ((1 : Int)).toNat = 1 from rfl] at hx238_0)
                                (try rw [show 1 * 3 = 3 from rfl] at hx238_0)
                                (try rw [show ((1 : Int)).toNat = 1 from rfl] at hx238_1)
                                (try rw [show 1 * 3 = 3 from rfl] at hx238_1)
                                (try rw [show ((1 : Int)).toNat = 1 from rfl] at hx238_2)
                                (try rw [show 1 * 3 = 3 from rfl] at hx238_2)
                                replace p238 := eq_true p238
                                replace q238 := eq_true q238
                                have p239 : 0 ≤ (2 : Int) := (by omega)
                                have q239 : 2 < (t227.length : Int) := of_decide_eq_true (by first | (with_reducible assumption) | assumption)
                                obtain ⟨ad239, e239, hx239_0, hx239_1, hx239_2⟩ := at_T33 (Kd.R_reads' HO_4.out).2.2 2 p239 q239
                                obtain rfl : ad235 = ad239 := (by injection e239)
                                (try simp only [show (2 : Int).toNat = 2 from rfl, Nat.reduceMul, Nat.reduceEqDiff, Go.Addr.add, ↓reduceIte] at hx239_0)
                                (try simp only [show (2 : Int).toNat = 2 from rfl, Nat.reduceMul, Nat.reduceEqDiff, Go.Addr.add, ↓reduceIte] at hx239_1)
                                (try simp only [show (2 : Int).toNat = 2 from rfl, Nat.reduceMul, Nat.reduceEqDiff, Go.Addr.add, ↓reduceIte] at hx239_2)
                                have qi239 : (2 < t227.length) = True := eq_true (by omega)
                                (try rw [show ((2 : Int)).toNat = 2 from rfl] at hx239_0)
                                (try rw [show 2 * 3 = 6 from rfl] at hx239_0)
                                (try rw [show ((2 : Int)).toNat = 2 from rfl] at hx239_1)
                                (try rw [show 2 * 3 = 6 from rfl] at hx239_1)
                                (try rw [show ((2 : Int)).toNat = 2 from rfl] at hx239_2)
                                (try rw [show 2 * 3 = 6 from rfl] at hx239_2)
                                replace p239 := eq_true p239
                                replace q239 := eq_true q239
                                go_wp2
                                go_loopg [9, 10, 11, 14] k3 (fun kq v9 v10 v11 v14 w' => ∃ (x9_4 : Bool) (x10_4 : Bool) (x11_4 : Int) (x14_4 : Int), v9 = .bool x9_4 ∧ v10 = .bool x10_4 ∧ v11 = .int .i64 x11_4 ∧ v14 = .int .i64 x14_4 ∧ Aside0 (laws_FnBoxes.l2 kq l0 t227 t231 t233 x9_4 x10_4 x11_4 x12_2 x13_3 x14_4 t223 t224 = some r) ∧ Aside0 (kq ≤ k3) ∧ Aside0 (Kd.R k33 33 w' w.heap.size (fun _ => True) (.slice (some ad235) t227.length co12) t227) ∧ Aside0 (Kd.R k73 73 w' w.heap.size (fun _ => True) (.slice Ao11 t224.length co11) t224) ∧ Aside0 (w'.heap[gb230]? = some (.cells #[.int .i64 t223, (.slice Ao11 t224.length co11)] 26 (0, 0))) ∧ Aside0 (Below w.heap.size w w'))
                                case atStart => exact ⟨(x9_3), (x10_3), (x11_3), ((rd_T33 t227 2).f1), (by first | rfl | (simp; done) | (simp [*]; done)), (by first | rfl | (simp; done) | (simp [*]; done)), (by first | rfl | (simp; done) | (simp [*]; done)), (by first | rfl | (simp; done) | (simp [*]; done)), H', ⟨Nat.le_refl _⟩, ⟨by (with_reducible repeat (first | apply Kd.R_alloc | apply Kd.R_drewN | apply Kd.R_drew)); exact HO_4.out⟩, ⟨by (with_reducible repeat (first | apply Kd.R_alloc | apply Kd.R_drewN | apply Kd.R_drew)); exact HO_231001.out⟩, ⟨by (with_reducible repeat (first | refine blk_drewN ?_ _ | refine blk_drew ?_ | refine blk_alloc ?_ _)); exact BK230.out⟩, ⟨by repeat (first | (with_reducible first | exact HB.out | apply below_alloc | apply pw_below_drewN | apply below_drew1 | refine below_set ?_ GE230.out) | exact HB.out)⟩⟩
                                case round =>
                                  clear H'
                                  try clear c1
                                  try clear c2
                                  try clear p2
                                  try clear q2
                                  try clear hx2
                                  try clear qi2
                                  try clear c3
                                  try clear c9
                                  try clear c10
                                  try clear c11
                                  try clear c12
                                  try clear c16
                                  try clear c17
                                  try clear c18
                                  try clear c19
                                  try clear c19b0
                                  try clear c19b1
                                  try clear c20
                                  try clear c20b0
                                  try clear c20b1
                                  try clear c21
                                  try clear c21b0
                                  try clear c22
                                  try clear c22b0
                                  try clear c22b1
                                  try clear c23
                                  try clear c23b0
                                  try clear c23b1
                                  try clear p23
                                  try clear q23
                                  try clear hx23
                                  try clear qi23
                                  try clear c24
                                  try clear c24b0
                                  try clear c25
                                  try clear c25b0
                                  try clear c25b1
                                  try clear hcz10_0
                                  try clear hcz10_1
                                  try clear hcz14_0
                                  try clear hcz14_1
                                  try clear hfz10_0
                                  try clear hfz10_1
                                  try clear hfz14_0
                                  try clear hfz14_1
                                  try clear hx235_0
                                  try clear hx235_1
                                  try clear hx235_2
                                  try clear hx236_0
                                  try clear hx236_1
                                  try clear hx236_2
                                  try clear hx237_0
                                  try clear hx237_1
                                  try clear hx237_2
                                  try clear hx238_0
                                  try clear hx238_1
                                  try clear hx238_2
                                  try clear hx239_0
                                  try clear hx239_1
                                  try clear hx239_2
                                  try clear p2
                                  try clear p235
                                  try clear p236
                                  try clear p237
                                  try clear p238
                                  try clear p239
                                  try clear q2
                                  try clear q235
                                  try clear q236
                                  try clear q237
                                  try clear q238
                                  try clear q239
                                  obtain ⟨x9_4, x10_4, x11_4, x14_4, rfl, rfl, rfl, rfl, HA, HK4, HO_4, HO_231001, BK230, HB⟩ := hrel
                                  cases gk with
                                  | zero => exact absurd HA.out (by simp [laws_FnBoxes.l2])
                                  | succ k4 =>
                                    have H := HA.out
                                    clear HA
                                    simp only [laws_FnBoxes.l2] at H
                                    by_cases c26 : 2 < (t227.length : Int)
                                    · rw [if_pos c26] at H
                                      have c26b0 : decide (2 < (t227.length : Int)) = true := decide_eq_true c26
                                      have c26b1 : decide (2 < t227.length) = true := decide_eq_true (by omega)
                                      clear c26
                                      by_cases c27 : x14_4 ≤ ((rd_T33 t227 2).f2)
                                      · rw [if_pos c27] at H
                                        have c27b0 : decide (x14_4 ≤ ((rd_T33 t227 2).f2)) = true := decide_eq_true c27
                                        clear c27
                                        by_cases c28 : 0 < (t227.length : Int)
                                        · rw [if_pos c28] at H
                                          have c28b0 : decide (0 < (t227.length : Int)) = true := decide_eq_true c28
                                          have c28b1 : decide (0 < t227.length) = true := decide_eq_true (by omega)
                                          clear c28
                                          by_cases c29 : 1 < (t227.length : Int)
                                          · rw [if_pos c29] at H
                                            have c29b0 : decide (1 < (t227.length : Int)) = true := decide_eq_true c29
                                            have c29b1 : decide (1 < t227.length) = true := decide_eq_true (by omega)
                                            clear c29
                                            obtain ⟨y244, hy244⟩ : ∃ y_ : List (S36), y_ = (([(⟨(rd_T33 t227 0).f0, x12_2⟩ : S36), (⟨(rd_T33 t227 1).f0, x13_3⟩ : S36), (⟨(rd_T33 t227 2).f0, x14_4⟩ : S36)] : List (S36))) := ⟨_, rfl⟩
                                            replace H : ((impl_AffAt.f k4 t223 t224 y244).bind fun t247 => (if t247 < t231 then (none) else (if t247 > t233 then (none) else (if x9_4 = true then (if x10_4 = true then (laws_FnBoxes.l2 k4 l0 t227 t231 t233 true true (wrap64 (x11_4 + 1)) x12_2 x13_3 (wrap64 (x14_4 + 1)) t223 t224) else (laws_FnBoxes.l2 k4 l0 t227 t231 t233 true (t247 == t233) (wrap64 (x11_4 + 1)) x12_2 x13_3 (wrap64 (x14_4 + 1)) t223 t224)) else (if x10_4 = true then (laws_FnBoxes.l2 k4 l0 t227 t231 t233 (t247 == t231) true (wrap64 (x11_4 + 1)) x12_2 x13_3 (wrap64 (x14_4 + 1)) t223 t224) else (laws_FnBoxes.l2 k4 l0 t227 t231 t233 (t247 == t231) (t247 == t233) (wrap64 (x11_4 + 1)) x12_2 x13_3 (wrap64 (x14_4 + 1)) t223 t224)))))) = some r := by first | (rw [hy244]; with_reducible exact H) | (have H2_ := (Option.bind_some _ _).symm.trans H; rw [hy244]; with_reducible exact H2_) | (have H2_ := (Option.bind_some _ _).symm.trans H; with_reducible exact H2_) | with_reducible exact H | (rw [hy244]; exact H) | exact H
                                            have Ny244 := Aside0.mk hy244
                                            clear hy244
                                            replace H := Option.bind_eq_some_iff.mp H
                                            obtain ⟨t247, A300, H⟩ := H
                                            replace H : (if t247 < t231 then (none) else (if t247 > t233 then (none) else (if x9_4 = true then (if x10_4 = true then (laws_FnBoxes.l2 k4 l0 t227 t231 t233 true true (wrap64 (x11_4 + 1)) x12_2 x13_3 (wrap64 (x14_4 + 1)) t223 t224) else (laws_FnBoxes.l2 k4 l0 t227 t231 t233 true (t247 == t233) (wrap64 (x11_4 + 1)) x12_2 x13_3 (wrap64 (x14_4 + 1)) t223 t224)) else (if x10_4 = true then (laws_FnBoxes.l2 k4 l0 t227 t231 t233 (t247 == t231) true (wrap64 (x11_4 + 1)) x12_2 x13_3 (wrap64 (x14_4 + 1)) t223 t224) else (laws_FnBoxes.l2 k4 l0 t227 t231 t233 (t247 == t231) (t247 == t233) (wrap64 (x11_4 + 1)) x12_2 x13_3 (wrap64 (x14_4 + 1)) t223 t224))))) = some r := H
                                            have A30 := Aside0.mk A300
                                            clear A300
                                            by_cases c31 : t247 < t231
                                            · rw [if_pos c31] at H
                                              exact absurd H (by simp)
                                            · rw [if_neg c31] at H
                                              have c31b0 : decide (t247 < t231) = false := decide_eq_false c31
                                              clear c31
                                              by_cases c32 : t247 > t233
                                              · rw [if_pos c32] at H
                                                exact absurd H (by simp)
                                              · rw [if_neg c32] at H
                                                have c32b0 : decide (t233 < t247) = false := decide_eq_false c32
                                                clear c32
                                                by_cases c33 : x9_4 = true
                                                · subst c33
                                                  have H1 : (if x10_4 = true then (laws_FnBoxes.l2 k4 l0 t227 t231 t233 true true (wrap64 (x11_4 + 1)) x12_2 x13_3 (wrap64 (x14_4 + 1)) t223 t224) else (laws_FnBoxes.l2 k4 l0 t227 t231 t233 true (t247 == t233) (wrap64 (x11_4 + 1)) x12_2 x13_3 (wrap64 (x14_4 + 1)) t223 t224)) = some r := by rw [if_pos rfl] at H; exact H
                                                  clear H
                                                  have H := H1
                                                  clear H1
                                                  by_cases c34 : x10_4 = true
                                                  · subst c34
                                                    have H1 : (laws_FnBoxes.l2 k4 l0 t227 t231 t233 true true (wrap64 (x11_4 + 1)) x12_2 x13_3 (wrap64 (x14_4 + 1)) t223 t224) = some r := by rw [if_pos rfl] at H; exact H
                                                    clear H
                                                    have H := H1
                                                    clear H1
                                                    have H' := Aside0.mk H
                                                    clear H
                                                    have p240 : 0 ≤ (2 : Int) := (by omega)
                                                    have q240 : 2 < (t227.length : Int) := of_decide_eq_true (by first | (with_reducible assumption) | assumption)
                                                    obtain ⟨ad240, e240, hx240_0, hx240_1, hx240_2⟩ := at_T33 (Kd.R_reads' HO_4.out).2.2 2 p240 q240
                                                    obtain rfl : ad235 = ad240 := (by injection e240)
                                                    (try simp only [show (2 : Int).toNat = 2 from rfl, Nat.reduceMul, Nat.reduceEqDiff, Go.Addr.add, ↓reduceIte] at hx240_0)
                                                    (try simp only [show (2 : Int).toNat = 2 from rfl, Nat.reduceMul, Nat.reduceEqDiff, Go.Addr.add, ↓reduceIte] at hx240_1)
                                                    (try simp only [show (2 : Int).toNat = 2 from rfl, Nat.reduceMul, Nat.reduceEqDiff, Go.Addr.add, ↓reduceIte] at hx240_2)
                                                    have qi240 : (2 < t227.length) = True := eq_true (by omega)
                                                    (try rw [show ((2 : Int)).toNat = 2 from rfl] at hx240_0)
                                                    (try rw [show 2 * 3 = 6 from rfl] at hx240_0)
                                                    (try rw [show ((2 : Int)).toNat = 2 from rfl] at hx240_1)
                                                    (try rw [show 2 * 3 = 6 from rfl] at hx240_1)
                                                    (try rw [show ((2 : Int)).toNat = 2 from rfl] at hx240_2)
                                                    (try rw [show 2 * 3 = 6 from rfl] at hx240_2)
                                                    replace p240 := eq_true p240
                                                    replace q240 := eq_true q240
                                                    try go_wp2
                                                    have n0_ := Aside0.mk (Kd.R_drew HO_4.out)
                                                    have n1_ := Aside0.mk (Kd.R_drew HO_231001.out)
                                                    have n2_ := Aside0.mk (blk_drew BK230.out)
                                                    have n3_ := Aside0.mk (below_drew1 HB.out)
                                                    clear HO_4
                                                    clear HO_231001
                                                    clear BK230
                                                    clear HB
                                                    have HO_4 := n0_
                                                    have HO_231001 := n1_
                                                    have BK230 := n2_
                                                    have HB := n3_
                                                    clear n0_ n1_ n2_ n3_
                                                    have p241 : 0 ≤ (0 : Int) := (by omega)
                                                    have q241 : 0 < (t227.length : Int) := of_decide_eq_true (by first | (with_reducible assumption) | assumption)
                                                    obtain ⟨ad241, e241, hx241_0, hx241_1, hx241_2⟩ := at_T33 (Kd.R_reads' HO_4.out).2.2 0 p241 q241
                                                    obtain rfl : ad235 = ad241 := (by injection e241)
                                                    have qi241 : (0 < t227.length) = True := eq_true (by omega)
                                                    (try rw [show ((0 : Int)).toNat = 0 from rfl] at hx241_0)
                                                    (try rw [show 0 * 3 = 0 from rfl] at hx241_0)
                                                    (try rw [Addr.add_zero'] at hx241_0)
                                                    (try rw [show ((0 : Int)).toNat = 0 from rfl] at hx241_1)
                                                    (try rw [show 0 * 3 = 0 from rfl] at hx241_1)
                                                    (try rw [Addr.add_zero'] at hx241_1)
                                                    (try rw [show ((0 : Int)).toNat = 0 from rfl] at hx241_2)
                                                    (try rw [show 0 * 3 = 0 from rfl] at hx241_2)
                                                    (try rw [Addr.add_zero'] at hx241_2)
                                                    replace p241 := eq_true p241
                                                    replace q241 := eq_true q241
                                                    have p242 : 0 ≤ (1 : Int) := (by omega)
                                                    have q242 : 1 < (t227.length : Int) := of_decide_eq_true (by first | (with_reducible assumption) | assumption)
                                                    obtain ⟨ad242, e242, hx242_0, hx242_1, hx242_2⟩ := at_T33 (Kd.R_reads' HO_4.out).2.2 1 p242 q242
                                                    obtain rfl : ad235 = ad242 := (by injection e242)
                                                    (try simp only [show (1 : Int).toNat = 1 from rfl, Nat.reduceMul, Nat.reduceEqDiff, Go.Addr.add, ↓reduceIte] at hx242_0)
                                                    (try simp only [show (1 : Int).toNat = 1 from rfl, Nat.reduceMul, Nat.reduceEqDiff, Go.Addr.add, ↓reduceIte] at hx242_1)
                                                    (try simp only [show (1 : Int).toNat = 1 from rfl, Nat.reduceMul, Nat.reduceEqDiff, Go.Addr.add, ↓reduceIte] at hx242_2)
                                                    have qi242 : (1 < t227.length) = True := eq_true (by omega)
                                                    (try rw [show ((1 : Int)).toNat = 1 from rfl] at hx242_0)
                                                    (try rw [show 1 * 3 = 3 from rfl] at hx242_0)
                                                    (try rw [show ((1 : Int)).toNat = 1 from rfl] at hx242_1)
                                                    (try rw [show 1 * 3 = 3 from rfl] at hx242_1)
                                                    (try rw [show ((1 : Int)).toNat = 1 from rfl] at hx242_2)
                                                    (try rw [show 1 * 3 = 3 from rfl] at hx242_2)
                                                    replace p242 := eq_true p242
                                                    replace q242 := eq_true q242
                                                    have p243 : 0 ≤ (2 : Int) := (by omega)
                                                    have q243 : 2 < (t227.length : Int) := of_decide_eq_true (by first | (with_reducible assumption) | assumption)
                                                    obtain ⟨ad243, e243, hx243_0, hx243_1, hx243_2⟩ := at_T33 (Kd.R_reads' HO_4.out).2.2 2 p243 q243
                                                    obtain rfl : ad235 = ad243 := (by injection e243)
                                                    (try simp only [show (2 : Int).toNat = 2 from rfl, Nat.reduceMul, Nat.reduceEqDiff, Go.Addr.add, ↓reduceIte] at hx243_0)
                                                    (try simp only [show (2 : Int).toNat = 2 from rfl, Nat.reduceMul, Nat.reduceEqDiff, Go.Addr.add, ↓reduceIte] at hx243_1)
                                                    (try simp only [show (2 : Int).toNat = 2 from rfl, Nat.reduceMul, Nat.reduceEqDiff, Go.Addr.add, ↓reduceIte] at hx243_2)
                                                    have qi243 : (2 < t227.length) = True := eq_true (by omega)
                                                    (try rw [show ((2 : Int)).toNat = 2 from rfl] at hx243_0)
                                                    (try rw [show 2 * 3 = 6 from rfl] at hx243_0)
                                                    (try rw [show ((2 : Int)).toNat = 2 from rfl] at hx243_1)
                                                    (try rw [show 2 * 3 = 6 from rfl] at hx243_1)
                                                    (try rw [show ((2 : Int)).toNat = 2 from rfl] at hx243_2)
                                                    (try rw [show 2 * 3 = 6 from rfl] at hx243_2)
                                                    replace p243 := eq_true p243
                                                    replace q243 := eq_true q243
                                                    refine start_ (n := 22) (S := fun w' => w'.cell? ⟨gb230, 0, none⟩ = some (.int .i64 t223) ∧ w'.cell? ⟨gb230, 1, none⟩ = some (.slice Ao11 t224.length co11) ∧ w'.cell? ad235 = some (.string ((rd_T33 t227 0).f0)) ∧ w'.cell? ⟨ad235.block, ad235.off + 1, none⟩ = some (.int .i64 ((rd_T33 t227 0).f1)) ∧ w'.cell? ⟨ad235.block, ad235.off + 2, none⟩ = some (.int .i64 ((rd_T33 t227 0).f2)) ∧ w'.cell? ⟨ad235.block, ad235.off + 3, none⟩ = some (.string ((rd_T33 t227 1).f0)) ∧ w'.cell? ⟨ad235.block, ad235.off + 3 + 1, none⟩ = some (.int .i64 ((rd_T33 t227 1).f1)) ∧ w'.cell? ⟨ad235.block, ad235.off + 3 + 2, none⟩ = some (.int .i64 ((rd_T33 t227 1).f2)) ∧ w'.cell? ⟨ad235.block, ad235.off + 6, none⟩ = some (.string ((rd_T33 t227 2).f0)) ∧ w'.cell? ⟨ad235.block, ad235.off + 6 + 1, none⟩ = some (.int .i64 ((rd_T33 t227 2).f1)) ∧ w'.cell? ⟨ad235.block, ad235.off + 6 + 2, none⟩ = some (.int .i64 ((rd_T33 t227 2).f2))) (ds := []) #[false, false, false, false, false, false, false, false, false, false, false, false, false, false, false, false, false, false, false, false, false, false] (by kernel_rfl) rfl rfl ⟨(blk_cell BK230.out 0).trans rfl, (blk_cell BK230.out 1).trans rfl, hx241_0, hx241_1, hx241_2, hx242_0, hx242_1, hx242_2, hx243_0, hx243_1, hx243_2⟩ (fun hHeld => ?_); refine with_tabW laws_FnBoxes.tab20 laws_FnBoxes.bits20 (fun HT_ HW_ => ?_)
                                                    generalize wr.drew = w35 at HO_4 HO_231001 BK230 HB hx241_0 hx241_1 hx241_2 hx242_0 hx242_1 hx242_2 hx243_0 hx243_1 hx243_2 hHeld ⊢
                                                    refine pure_ (i := 1) (N := some 84) (v := ?_) (a' := ?_) #[false, true, false, false, false, false, false, false, false, false, false, false, false, false, false, false, false, false, false, false, false, false] rfl rfl (any_of HT_.out (by kernel_rfl)) (fun _ _ _ h => h) (Or.inl ⟨by rfl, ?_⟩) ?_ ?_
                                                    rotate_left
                                                    · intro w'
                                                      go_simp
                                                      with_reducible rfl
                                                    rotate_left
                                                    · simp only [Act.put, List.setIfInBounds_toArray, List.set_cons_zero, List.set_cons_succ, i64_w, i32_w]
                                                      rfl
                                                    refine pure_ (i := 2) (N := some 85) (v := ?_) (a' := ?_) #[false, true, true, false, false, false, false, false, false, false, false, false, false, false, false, false, false, false, false, false, false, false] rfl rfl (any_of HT_.out (by kernel_rfl)) (fun _ _ _ h => h) (Or.inl ⟨by rfl, ?_⟩) ?_ ?_
                                                    rotate_left
                                                    · intro w'
                                                      go_simp
                                                      with_reducible rfl
                                                    rotate_left
                                                    · simp only [Act.put, List.setIfInBounds_toArray, List.set_cons_zero, List.set_cons_succ, i64_w, i32_w]
                                                      rfl
                                                    refine pure_ (i := 3) (N := some 86) (v := ?_) (a' := ?_) #[false, true, true, true, false, false, false, false, false, false, false, false, false, false, false, false, false, false, false, false, false, false] rfl rfl (any_of HT_.out (by kernel_rfl)) (fun _ _ _ h => h) (Or.inl ⟨by rfl, ?_⟩) ?_ ?_
                                                    rotate_left
                                                    · intro w'
                                                      go_simp
                                                      with_reducible rfl
                                                    rotate_left
                                                    · simp only [Act.put, List.setIfInBounds_toArray, List.set_cons_zero, List.set_cons_succ, i64_w, i32_w]
                                                      rfl
                                                    refine pure_ (i := 5) (N := some 88) (v := ?_) (a' := ?_) #[false, true, true, true, false, true, false, false, false, false, false, false, false, false, false, false, false, false, false, false, false, false] rfl rfl (any_of HT_.out (by kernel_rfl)) (fun _ _ _ h => h) (Or.inl ⟨by rfl, ?_⟩) ?_ ?_
                                                    rotate_left
                                                    · intro w'
                                                      go_simp
                                                      with_reducible rfl
                                                    rotate_left
                                                    · simp only [Act.put, List.setIfInBounds_toArray, List.set_cons_zero, List.set_cons_succ, i64_w, i32_w]
                                                      rfl
                                                    refine pure_ (i := 7) (N := some 90) (v := ?_) (a' := ?_) #[false, true, true, true, false, true, false, true, false, false, false, false, false, false, false, false, false, false, false, false, false, false] rfl rfl (any_of HT_.out (by kernel_rfl)) (fun _ _ _ h => h) (Or.inl ⟨by rfl, ?_⟩) ?_ ?_
                                                    rotate_left
                                                    · intro w'
                                                      go_simp
                                                      with_reducible rfl
                                                    rotate_left
                                                    · simp only [Act.put, List.setIfInBounds_toArray, List.set_cons_zero, List.set_cons_succ, i64_w, i32_w]
                                                      rfl
                                                    refine pure_ (i := 8) (N := some 91) (v := ?_) (a' := ?_) #[false, true, true, true, false, true, false, true, true, false, false, false, false, false, false, false, false, false, false, false, false, false] rfl rfl (any_of HT_.out (by kernel_rfl)) (fun _ _ _ h => h) (Or.inl ⟨by rfl, ?_⟩) ?_ ?_
                                                    rotate_left
                                                    · intro w'
                                                      go_simp
                                                      with_reducible rfl
                                                    rotate_left
                                                    · simp only [Act.put, List.setIfInBounds_toArray, List.set_cons_zero, List.set_cons_succ, i64_w, i32_w]
                                                      rfl
                                                    refine pure_ (i := 9) (N := some 92) (v := ?_) (a' := ?_) #[false, true, true, true, false, true, false, true, true, true, false, false, false, false, false, false, false, false, false, false, false, false] rfl rfl (any_of HT_.out (by kernel_rfl)) (fun _ _ _ h => h) (Or.inl ⟨by rfl, ?_⟩) ?_ ?_
                                                    rotate_left
                                                    · intro w'
                                                      go_simp
                                                      with_reducible rfl
                                                    rotate_left
                                                    · simp only [Act.put, List.setIfInBounds_toArray, List.set_cons_zero, List.set_cons_succ, i64_w, i32_w]
                                                      rfl
                                                    refine pure_ (i := 11) (N := some 94) (v := ?_) (a' := ?_) #[false, true, true, true, false, true, false, true, true, true, false, true, false, false, false, false, false, false, false, false, false, false] rfl rfl (any_of HT_.out (by kernel_rfl)) (fun _ _ _ h => h) (Or.inl ⟨by rfl, ?_⟩) ?_ ?_
                                                    rotate_left
                                                    · intro w'
                                                      go_simp
                                                      with_reducible rfl
                                                    rotate_left
                                                    · simp only [Act.put, List.setIfInBounds_toArray, List.set_cons_zero, List.set_cons_succ, i64_w, i32_w]
                                                      rfl
                                                    refine pure_ (i := 13) (N := some 96) (v := ?_) (a' := ?_) #[false, true, true, true, false, true, false, true, true, true, false, true, false, true, false, false, false, false, false, false, false, false] rfl rfl (any_of HT_.out (by kernel_rfl)) (fun _ _ _ h => h) (Or.inl ⟨by rfl, ?_⟩) ?_ ?_
                                                    rotate_left
                                                    · intro w'
                                                      go_simp
                                                      with_reducible rfl
                                                    rotate_left
                                                    · simp only [Act.put, List.setIfInBounds_toArray, List.set_cons_zero, List.set_cons_succ, i64_w, i32_w]
                                                      rfl
                                                    refine pure_ (i := 14) (N := some 97) (v := ?_) (a' := ?_) #[false, true, true, true, false, true, false, true, true, true, false, true, false, true, true, false, false, false, false, false, false, false] rfl rfl (any_of HT_.out (by kernel_rfl)) (fun _ _ _ h => h) (Or.inl ⟨by rfl, ?_⟩) ?_ ?_
                                                    rotate_left
                                                    · intro w'
                                                      go_simp
                                                      with_reducible rfl
                                                    rotate_left
                                                    · simp only [Act.put, List.setIfInBounds_toArray, List.set_cons_zero, List.set_cons_succ, i64_w, i32_w]
                                                      rfl
                                                    refine pure_ (i := 15) (N := some 98) (v := ?_) (a' := ?_) #[false, true, true, true, false, true, false, true, true, true, false, true, false, true, true, true, false, false, false, false, false, false] rfl rfl (any_of HT_.out (by kernel_rfl)) (fun _ _ _ h => h) (Or.inl ⟨by rfl, ?_⟩) ?_ ?_
                                                    rotate_left
                                                    · intro w'
                                                      go_simp
                                                      with_reducible rfl
                                                    rotate_left
                                                    · simp only [Act.put, List.setIfInBounds_toArray, List.set_cons_zero, List.set_cons_succ, i64_w, i32_w]
                                                      rfl
                                                    refine pure_ (i := 17) (N := some 100) (v := ?_) (a' := ?_) #[false, true, true, true, false, true, false, true, true, true, false, true, false, true, true, true, false, true, false, false, false, false] rfl rfl (any_of HT_.out (by kernel_rfl)) (fun _ _ _ h => h) (Or.inl ⟨by rfl, ?_⟩) ?_ ?_
                                                    rotate_left
                                                    · intro w'
                                                      go_simp
                                                      with_reducible rfl
                                                    rotate_left
                                                    · simp only [Act.put, List.setIfInBounds_toArray, List.set_cons_zero, List.set_cons_succ, i64_w, i32_w]
                                                      rfl
                                                    refine take_ (i := 0) (N := some 83) (v := ?_) (a' := ?_) #[true, true, true, true, false, true, false, true, true, true, false, true, false, true, true, true, false, true, false, false, false, false] rfl rfl (take_ofW HT_.out HW_.out (by kernel_rfl)) (fun _ _ _ h => h) (Or.inl ⟨by rfl, ?_⟩) hHeld ?_ ?_
                                                    rotate_left
                                                    · rintro w' ⟨s0, s1, s2, s3, s4, s5, s6, s7, s8, s9, s10⟩
                                                      go_simp
                                                      with_reducible rfl
                                                    rotate_left
                                                    · simp only [Act.put, List.setIfInBounds_toArray, List.set_cons_zero, List.set_cons_succ, i64_w, i32_w]
                                                      rfl
                                                    refine take_ (i := 4) (N := some 87) (v := ?_) (a' := ?_) #[true, true, true, true, true, true, false, true, true, true, false, true, false, true, true, true, false, true, false, false, false, false] rfl rfl (take_ofW HT_.out HW_.out (by kernel_rfl)) (fun _ _ _ h => h) (Or.inl ⟨by rfl, ?_⟩) hHeld ?_ ?_
                                                    rotate_left
                                                    · rintro w' ⟨s0, s1, s2, s3, s4, s5, s6, s7, s8, s9, s10⟩
                                                      go_simp
                                                      with_reducible rfl
                                                    rotate_left
                                                    · simp only [Act.put, List.setIfInBounds_toArray, List.set_cons_zero, List.set_cons_succ, i64_w, i32_w]
                                                      rfl
                                                    refine pure_ (i := 6) (N := some 89) (v := ?_) (a' := ?_) #[true, true, true, true, true, true, true, true, true, true, false, true, false, true, true, true, false, true, false, false, false, false] rfl rfl (any_of HT_.out (by kernel_rfl)) (fun _ _ _ h => h) (Or.inl ⟨by rfl, ?_⟩) ?_ ?_
                                                    rotate_left
                                                    · intro w'
                                                      go_simp
                                                      with_reducible rfl
                                                    rotate_left
                                                    · simp only [Act.put, List.setIfInBounds_toArray, List.set_cons_zero, List.set_cons_succ, i64_w, i32_w]
                                                      rfl
                                                    refine take_ (i := 10) (N := some 93) (v := ?_) (a' := ?_) #[true, true, true, true, true, true, true, true, true, true, true, true, false, true, true, true, false, true, false, false, false, false] rfl rfl (take_ofW HT_.out HW_.out (by kernel_rfl)) (fun _ _ _ h => h) (Or.inl ⟨by rfl, ?_⟩) hHeld ?_ ?_
                                                    rotate_left
                                                    · rintro w' ⟨s0, s1, s2, s3, s4, s5, s6, s7, s8, s9, s10⟩
                                                      go_simp
                                                      with_reducible rfl
                                                    rotate_left
                                                    · simp only [Act.put, List.setIfInBounds_toArray, List.set_cons_zero, List.set_cons_succ, i64_w, i32_w]
                                                      rfl
                                                    refine pure_ (i := 12) (N := some 95) (v := ?_) (a' := ?_) #[true, true, true, true, true, true, true, true, true, true, true, true, true, true, true, true, false, true, false, false, false, false] rfl rfl (any_of HT_.out (by kernel_rfl)) (fun _ _ _ h => h) (Or.inl ⟨by rfl, ?_⟩) ?_ ?_
                                                    rotate_left
                                                    · intro w'
                                                      go_simp
                                                      with_reducible rfl
                                                    rotate_left
                                                    · simp only [Act.put, List.setIfInBounds_toArray, List.set_cons_zero, List.set_cons_succ, i64_w, i32_w]
                                                      rfl
                                                    refine take_ (i := 16) (N := some 99) (v := ?_) (a' := ?_) #[true, true, true, true, true, true, true, true, true, true, true, true, true, true, true, true, true, true, false, false, false, false] rfl rfl (take_ofW HT_.out HW_.out (by kernel_rfl)) (fun _ _ _ h => h) (Or.inl ⟨by rfl, ?_⟩) hHeld ?_ ?_
                                                    rotate_left
                                                    · rintro w' ⟨s0, s1, s2, s3, s4, s5, s6, s7, s8, s9, s10⟩
                                                      go_simp
                                                      with_reducible rfl
                                                    rotate_left
                                                    · simp only [Act.put, List.setIfInBounds_toArray, List.set_cons_zero, List.set_cons_succ, i64_w, i32_w]
                                                      rfl
                                                    refine pure_ (i := 18) (N := some 101) (v := ?_) (a' := ?_) #[true, true, true, true, true, true, true, true, true, true, true, true, true, true, true, true, true, true, true, false, false, false] rfl rfl (any_of HT_.out (by kernel_rfl)) (fun _ _ _ h => h) (Or.inl ⟨by rfl, ?_⟩) ?_ ?_
                                                    rotate_left
                                                    · intro w'
                                                      go_simp
                                                      with_reducible rfl
                                                    rotate_left
                                                    · simp only [Act.put, List.setIfInBounds_toArray, List.set_cons_zero, List.set_cons_succ, i64_w, i32_w]
                                                      rfl
                                                    refine one_ (i := 19) (N := some 102) #[true, true, true, true, true, true, true, true, true, true, true, true, true, true, true, true, true, true, true, true, false, false] rfl rfl (one_of HT_.out (by kernel_rfl)) (by decide) (fun K hK => ?_)
                                                    refine Kd.R_lit_step k36 _ 36 ?hg (N := 102) ?hd (xs := ([(⟨(rd_T33 t227 0).f0, x12_2⟩ : S36), (⟨(rd_T33 t227 1).f0, x13_3⟩ : S36), (⟨(rd_T33 t227 2).f0, x14_4⟩ : S36)] : List (S36))) (inner := [.string ((rd_T33 t227 0).f0), .int .i64 x12_2, .string ((rd_T33 t227 1).f0), .int .i64 x13_3, .string ((rd_T33 t227 2).f0), .int .i64 x14_4]) (ok := fun _ => True) (okp := fun _ => True) ?hr ?hp (fun _ hk => hk) trivial (Below.refl _ _) (Nat.le_refl _) (by simp) ?_; (case hd => rfl); (case hg => rfl); (case hr => first | (go_simp; done) | (go_simp; rfl)); (case hp => exact (Reps.c2 (show Kd.M k36 _ _ _ (⟨(rd_T33 t227 0).f0, x12_2⟩ : S36) [.string ((rd_T33 t227 0).f0), .int .i64 x12_2] from (k36_mkM _ _ _ (⟨(rd_T33 t227 0).f0, x12_2⟩ : S36) )) (Reps.c2 (show Kd.M k36 _ _ _ (⟨(rd_T33 t227 1).f0, x13_3⟩ : S36) [.string ((rd_T33 t227 1).f0), .int .i64 x13_3] from (k36_mkM _ _ _ (⟨(rd_T33 t227 1).f0, x13_3⟩ : S36) )) (Reps.c2 (show Kd.M k36 _ _ _ (⟨(rd_T33 t227 2).f0, x14_4⟩ : S36) [.string ((rd_T33 t227 2).f0), .int .i64 x14_4] from (k36_mkM _ _ _ (⟨(rd_T33 t227 2).f0, x14_4⟩ : S36) )) (Reps.none _ _)))))
                                                    intro v245 w36 ho37 hb hg_ hnew_
                                                    have HS2_ := (hb.cell (World.block_lt_of_cell? _ _ (hHeld.2.2.1))).trans (hHeld.2.2.1)
                                                    have HS3_ := (hb.cell (World.block_lt_of_cell? _ _ (hHeld.2.2.2.1))).trans (hHeld.2.2.2.1)
                                                    have HS4_ := (hb.cell (World.block_lt_of_cell? _ _ (hHeld.2.2.2.2.1))).trans (hHeld.2.2.2.2.1)
                                                    have HS5_ := (hb.cell (World.block_lt_of_cell? _ _ (hHeld.2.2.2.2.2.1))).trans (hHeld.2.2.2.2.2.1)
                                                    have HS6_ := (hb.cell (World.block_lt_of_cell? _ _ (hHeld.2.2.2.2.2.2.1))).trans (hHeld.2.2.2.2.2.2.1)
                                                    have HS7_ := (hb.cell (World.block_lt_of_cell? _ _ (hHeld.2.2.2.2.2.2.2.1))).trans (hHeld.2.2.2.2.2.2.2.1)
                                                    have HS8_ := (hb.cell (World.block_lt_of_cell? _ _ (hHeld.2.2.2.2.2.2.2.2.1))).trans (hHeld.2.2.2.2.2.2.2.2.1)
                                                    have HS9_ := (hb.cell (World.block_lt_of_cell? _ _ (hHeld.2.2.2.2.2.2.2.2.2.1))).trans (hHeld.2.2.2.2.2.2.2.2.2.1)
                                                    have HS10_ := (hb.cell (World.block_lt_of_cell? _ _ (hHeld.2.2.2.2.2.2.2.2.2.2))).trans (hHeld.2.2.2.2.2.2.2.2.2.2)
                                                    clear hg_ hnew_
                                                    (first | rw [← Ny244.out] at ho37 | (simp only [Int.reduceToNat] at ho37; rw [← Ny244.out] at ho37))
                                                    have n0_ := Aside0.mk (Kd.R_below (by (with_reducible repeat (first | apply Kd.R_alloc | apply Kd.R_drewN | apply Kd.R_drew)); exact HO_4.out) hb)
                                                    have n1_ := Aside0.mk (Kd.R_below (by (with_reducible repeat (first | apply Kd.R_alloc | apply Kd.R_drewN | apply Kd.R_drew)); exact HO_231001.out) hb)
                                                    have n2_ := Aside0.mk (Kd.R_lower ho37 (below_size (by repeat (first | (with_reducible first | exact HB.out | apply below_alloc | apply pw_below_drewN | apply below_drew1 | refine below_set ?_ GE230.out) | exact HB.out))))
                                                    have n3_ := Aside0.mk (blk_below (g := gb230) (o := .cells #[.int .i64 t223, .slice Ao11 t224.length co11] 26 (0, 0)) (by (with_reducible repeat (first | refine blk_drewN ?_ _ | refine blk_drew ?_ | refine blk_alloc ?_ _)); exact BK230.out) hb)
                                                    have n4_ := Aside0.mk (below_step (by repeat (first | (with_reducible first | exact HB.out | apply below_alloc | apply pw_below_drewN | apply below_drew1 | refine below_set ?_ GE230.out) | exact HB.out)) hb)
                                                    clear HO_4
                                                    clear HO_231001
                                                    clear BK230
                                                    clear HB
                                                    have HO_4 := n0_
                                                    have HO_231001 := n1_
                                                    have HO246 := n2_
                                                    have BK230 := n3_
                                                    have HB := n4_
                                                    clear n0_ n1_ n2_ n3_ n4_
                                                    clear hb ho37
                                                    obtain ⟨Ao38, co38, eo38⟩ := Kd.R_slice HO246.out
                                                    (first | subst eo38 | (injection eo38 with f1_ f2_ f3_; have f4_ := f1_.symm; have f5_ := f3_.symm; clear f1_ f2_ f3_; subst f4_; subst f5_))
                                                    refine hK.out _ _ ⟨(blk_cell BK230.out 0).trans rfl, (blk_cell BK230.out 1).trans rfl, HS2_, HS3_, HS4_, HS5_, HS6_, HS7_, HS8_, HS9_, HS10_⟩ (fun hHeld => ?_)
                                                    clear hK K
                                                    refine norm_ (a' := ?_) ?_ ?_
                                                    rotate_left
                                                    · show Act.put _ (some 102) _ = _
                                                      simp only [Act.put, List.setIfInBounds_toArray, List.set_cons_zero, List.set_cons_succ, i64_w, i32_w]
                                                      rfl
                                                    refine one_ (i := 20) (N := some 103) #[true, true, true, true, true, true, true, true, true, true, true, true, true, true, true, true, true, true, true, true, true, false] rfl rfl (one_of HT_.out (by kernel_rfl)) (by decide) (fun K hK => ?_)
                                                    refine goes_ Try.func13 (by kernel_rfl) rfl #[.agg #[.int .i64 t223, .slice Ao11 t224.length co11], .slice Ao38 y244.length co38] (by rfl) rfl rfl (by (try simp only [List.map_toArray, List.map_cons, List.map_nil]); first | done | rfl | (simp only [List.length_drop, List.length_take]; rfl)) ?_
                                                    with_reducible refine (impl_AffAt.calls k4 t223 _ _ t224 _ _ y244 t247 _ ?side1 ?side2 ?side3 ?side4 A30.out).mono ?_
                                                    (case side1 => repeat (first | exact (Kd.R_reads' HO_231001.out).2.2 | (with_reducible refine Kd.C_alloc ?_ _) | (with_reducible refine Kd.C_drewN ?_ _) | (with_reducible refine Kd.C_drew ?_)))
                                                    (case side2 => exact (Kd.R_reads' HO_231001.out).2.1)
                                                    (case side3 => repeat (first | exact (Kd.R_reads' HO246.out).2.2 | (with_reducible refine Kd.C_alloc ?_ _) | (with_reducible refine Kd.C_drewN ?_ _) | (with_reducible refine Kd.C_drew ?_)))
                                                    (case side4 => exact (Kd.R_reads' HO246.out).2.1)
                                                    rintro e w39 ⟨rfl, hb⟩
                                                    have HS2_ := (hb.cell (World.block_lt_of_cell? _ _ (hHeld.2.2.1))).trans (hHeld.2.2.1)
                                                    have HS3_ := (hb.cell (World.block_lt_of_cell? _ _ (hHeld.2.2.2.1))).trans (hHeld.2.2.2.1)
                                                    have HS4_ := (hb.cell (World.block_lt_of_cell? _ _ (hHeld.2.2.2.2.1))).trans (hHeld.2.2.2.2.1)
                                                    have HS5_ := (hb.cell (World.block_lt_of_cell? _ _ (hHeld.2.2.2.2.2.1))).trans (hHeld.2.2.2.2.2.1)
                                                    have HS6_ := (hb.cell (World.block_lt_of_cell? _ _ (hHeld.2.2.2.2.2.2.1))).trans (hHeld.2.2.2.2.2.2.1)
                                                    have HS7_ := (hb.cell (World.block_lt_of_cell? _ _ (hHeld.2.2.2.2.2.2.2.1))).trans (hHeld.2.2.2.2.2.2.2.1)
                                                    have HS8_ := (hb.cell (World.block_lt_of_cell? _ _ (hHeld.2.2.2.2.2.2.2.2.1))).trans (hHeld.2.2.2.2.2.2.2.2.1)
                                                    have HS9_ := (hb.cell (World.block_lt_of_cell? _ _ (hHeld.2.2.2.2.2.2.2.2.2.1))).trans (hHeld.2.2.2.2.2.2.2.2.2.1)
                                                    have HS10_ := (hb.cell (World.block_lt_of_cell? _ _ (hHeld.2.2.2.2.2.2.2.2.2.2))).trans (hHeld.2.2.2.2.2.2.2.2.2.2)
                                                    refine ⟨_, rfl, ?_⟩
                                                    have n0_ := Aside0.mk (Kd.R_below (by (with_reducible repeat (first | apply Kd.R_alloc | apply Kd.R_drewN | apply Kd.R_drew)); exact HO_4.out) hb)
                                                    have n1_ := Aside0.mk (Kd.R_below (by (with_reducible repeat (first | apply Kd.R_alloc | apply Kd.R_drewN | apply Kd.R_drew)); exact HO_231001.out) hb)
                                                    have n2_ := Aside0.mk (Kd.R_below (by (with_reducible repeat (first | apply Kd.R_alloc | apply Kd.R_drewN | apply Kd.R_drew)); exact HO246.out) hb)
                                                    have n3_ := Aside0.mk (blk_below (g := gb230) (o := .cells #[.int .i64 t223, .slice Ao11 t224.length co11] 26 (0, 0)) (by (with_reducible repeat (first | refine blk_drewN ?_ _ | refine blk_drew ?_ | refine blk_alloc ?_ _)); exact BK230.out) hb)
                                                    have n4_ := Aside0.mk (below_step (by repeat (first | (with_reducible first | exact HB.out | apply below_alloc | apply pw_below_drewN | apply below_drew1 | refine below_set ?_ GE230.out) | exact HB.out)) hb)
                                                    clear HO_4
                                                    clear HO_231001
                                                    clear HO246
                                                    clear BK230
                                                    clear HB
                                                    have HO_4 := n0_
                                                    have HO_231001 := n1_
                                                    have HO246 := n2_
                                                    have BK230 := n3_
                                                    have HB := n4_
                                                    clear n0_ n1_ n2_ n3_ n4_
                                                    (try clear hb)
                                                    (try clear hb2)
                                                    (try clear hk)
                                                    (try clear hi)
                                                    refine hK.out _ _ ⟨(blk_cell BK230.out 0).trans rfl, (blk_cell BK230.out 1).trans rfl, HS2_, HS3_, HS4_, HS5_, HS6_, HS7_, HS8_, HS9_, HS10_⟩ (fun hHeld => ?_)
                                                    clear hK K
                                                    refine norm_ (a' := ?_) ?_ ?_
                                                    rotate_left
                                                    · show Act.put _ (some 103) _ = _
                                                      simp only [Act.put, List.setIfInBounds_toArray, List.set_cons_zero, List.set_cons_succ, i64_w, i32_w]
                                                      rfl
                                                    refine pure_ (i := 21) (N := some 15) (v := ?_) (a' := ?_) #[true, true, true, true, true, true, true, true, true, true, true, true, true, true, true, true, true, true, true, true, true, true] rfl rfl (any_of HT_.out (by kernel_rfl)) (fun _ _ _ h => h) (Or.inl ⟨by rfl, ?_⟩) ?_ ?_
                                                    rotate_left
                                                    · intro w'
                                                      go_simp
                                                      with_reducible rfl
                                                    rotate_left
                                                    · simp only [Act.put, List.setIfInBounds_toArray, List.set_cons_zero, List.set_cons_succ, i64_w, i32_w]
                                                      rfl
                                                    refine done_ (done_of HT_.out (by kernel_rfl)) ?_
                                                    try go_wp2
                                                    go_roundg k4
                                                    case measure => have := HJ6.out; have := HK2.out; have := HK3.out; have := HK4.out; omega
                                                    case rel => exact ⟨(true), (true), (wrap64 (x11_4 + 1)), (wrap64 (x14_4 + 1)), (by first | rfl | (simp; done) | (simp [*]; done)), (by first | rfl | (simp; done) | (simp [*]; done)), (by first | rfl | (simp; done) | (simp [*]; done)), (by first | rfl | (simp; done) | (simp [*]; done)), H', ⟨by have := HJ6.out; have := HK2.out; have := HK3.out; have := HK4.out; omega⟩, ⟨by (with_reducible repeat (first | apply Kd.R_alloc | apply Kd.R_drewN | apply Kd.R_drew)); exact HO_4.out⟩, ⟨by (with_reducible repeat (first | apply Kd.R_alloc | apply Kd.R_drewN | apply Kd.R_drew)); exact HO_231001.out⟩, ⟨by (with_reducible repeat (first | refine blk_drewN ?_ _ | refine blk_drew ?_ | refine blk_alloc ?_ _)); exact BK230.out⟩, ⟨by repeat (first | (with_reducible first | exact HB.out | apply below_alloc | apply pw_below_drewN | apply below_drew1 | refine below_set ?_ GE230.out) | exact HB.out)⟩⟩
                                                  · replace c34 := Bool.eq_false_iff.mpr c34
                                                    subst c34
                                                    have H1 : (laws_FnBoxes.l2 k4 l0 t227 t231 t233 true (t247 == t233) (wrap64 (x11_4 + 1)) x12_2 x13_3 (wrap64 (x14_4 + 1)) t223 t224) = some r := by rw [if_neg (show ¬ (false = true) by decide)] at H; exact H
                                                    clear H
                                                    have H := H1
                                                    clear H1
                                                    have H' := Aside0.mk H
                                                    clear H
                                                    have p240 : 0 ≤ (2 : Int) := (by omega)
                                                    have q240 : 2 < (t227.length : Int) := of_decide_eq_true (by first | (with_reducible assumption) | assumption)
                                                    obtain ⟨ad240, e240, hx240_0, hx240_1, hx240_2⟩ := at_T33 (Kd.R_reads' HO_4.out).2.2 2 p240 q240
                                                    obtain rfl : ad235 = ad240 := (by injection e240)
                                                    (try simp only [show (2 : Int).toNat = 2 from rfl, Nat.reduceMul, Nat.reduceEqDiff, Go.Addr.add, ↓reduceIte] at hx240_0)
                                                    (try simp only [show (2 : Int).toNat = 2 from rfl, Nat.reduceMul, Nat.reduceEqDiff, Go.Addr.add, ↓reduceIte] at hx240_1)
                                                    (try simp only [show (2 : Int).toNat = 2 from rfl, Nat.reduceMul, Nat.reduceEqDiff, Go.Addr.add, ↓reduceIte] at hx240_2)
                                                    have qi240 : (2 < t227.length) = True := eq_true (by omega)
                                                    (try rw [show ((2 : Int)).toNat = 2 from rfl] at hx240_0)
                                                    (try rw [show 2 * 3 = 6 from rfl] at hx240_0)
                                                    (try rw [show ((2 : Int)).toNat = 2 from rfl] at hx240_1)
                                                    (try rw [show 2 * 3 = 6 from rfl] at hx240_1)
                                                    (try rw [show ((2 : Int)).toNat = 2 from rfl] at hx240_2)
                                                    (try rw [show 2 * 3 = 6 from rfl] at hx240_2)
                                                    replace p240 := eq_true p240
                                                    replace q240 := eq_true q240
                                                    try go_wp2
                                                    have n0_ := Aside0.mk (Kd.R_drew HO_4.out)
                                                    have n1_ := Aside0.mk (Kd.R_drew HO_231001.out)
                                                    have n2_ := Aside0.mk (blk_drew BK230.out)
                                                    have n3_ := Aside0.mk (below_drew1 HB.out)
                                                    clear HO_4
                                                    clear HO_231001
                                                    clear BK230
                                                    clear HB
                                                    have HO_4 := n0_
                                                    have HO_231001 := n1_
                                                    have BK230 := n2_
                                                    have HB := n3_
                                                    clear n0_ n1_ n2_ n3_
                                                    have p241 : 0 ≤ (0 : Int) := (by omega)
                                                    have q241 : 0 < (t227.length : Int) := of_decide_eq_true (by first | (with_reducible assumption) | assumption)
                                                    obtain ⟨ad241, e241, hx241_0, hx241_1, hx241_2⟩ := at_T33 (Kd.R_reads' HO_4.out).2.2 0 p241 q241
                                                    obtain rfl : ad235 = ad241 := (by injection e241)
                                                    have qi241 : (0 < t227.length) = True := eq_true (by omega)
                                                    (try rw [show ((0 : Int)).toNat = 0 from rfl] at hx241_0)
                                                    (try rw [show 0 * 3 = 0 from rfl] at hx241_0)
                                                    (try rw [Addr.add_zero'] at hx241_0)
                                                    (try rw [show ((0 : Int)).toNat = 0 from rfl] at hx241_1)
                                                    (try rw [show 0 * 3 = 0 from rfl] at hx241_1)
                                                    (try rw [Addr.add_zero'] at hx241_1)
                                                    (try rw [show ((0 : Int)).toNat = 0 from rfl] at hx241_2)
                                                    (try rw [show 0 * 3 = 0 from rfl] at hx241_2)
                                                    (try rw [Addr.add_zero'] at hx241_2)
                                                    replace p241 := eq_true p241
                                                    replace q241 := eq_true q241
                                                    have p242 : 0 ≤ (1 : Int) := (by omega)
                                                    have q242 : 1 < (t227.length : Int) := of_decide_eq_true (by first | (with_reducible assumption) | assumption)
                                                    obtain ⟨ad242, e242, hx242_0, hx242_1, hx242_2⟩ := at_T33 (Kd.R_reads' HO_4.out).2.2 1 p242 q242
                                                    obtain rfl : ad235 = ad242 := (by injection e242)
                                                    (try simp only [show (1 : Int).toNat = 1 from rfl, Nat.reduceMul, Nat.reduceEqDiff, Go.Addr.add, ↓reduceIte] at hx242_0)
                                                    (try simp only [show (1 : Int).toNat = 1 from rfl, Nat.reduceMul, Nat.reduceEqDiff, Go.Addr.add, ↓reduceIte] at hx242_1)
                                                    (try simp only [show (1 : Int).toNat = 1 from rfl, Nat.reduceMul, Nat.reduceEqDiff, Go.Addr.add, ↓reduceIte] at hx242_2)
                                                    have qi242 : (1 < t227.length) = True := eq_true (by omega)
                                                    (try rw [show ((1 : Int)).toNat = 1 from rfl] at hx242_0)
                                                    (try rw [show 1 * 3 = 3 from rfl] at hx242_0)
                                                    (try rw [show ((1 : Int)).toNat = 1 from rfl] at hx242_1)
                                                    (try rw [show 1 * 3 = 3 from rfl] at hx242_1)
                                                    (try rw [show ((1 : Int)).toNat = 1 from rfl] at hx242_2)
                                                    (try rw [show 1 * 3 = 3 from rfl] at hx242_2)
                                                    replace p242 := eq_true p242
                                                    replace q242 := eq_true q242
                                                    have p243 : 0 ≤ (2 : Int) := (by omega)
                                                    have q243 : 2 < (t227.length : Int) := of_decide_eq_true (by first | (with_reducible assumption) | assumption)
                                                    obtain ⟨ad243, e243, hx243_0, hx243_1, hx243_2⟩ := at_T33 (Kd.R_reads' HO_4.out).2.2 2 p243 q243
                                                    obtain rfl : ad235 = ad243 := (by injection e243)
                                                    (try simp only [show (2 : Int).toNat = 2 from rfl, Nat.reduceMul, Nat.reduceEqDiff, Go.Addr.add, ↓reduceIte] at hx243_0)
                                                    (try simp only [show (2 : Int).toNat = 2 from rfl, Nat.reduceMul, Nat.reduceEqDiff, Go.Addr.add, ↓reduceIte] at hx243_1)
                                                    (try simp only [show (2 : Int).toNat = 2 from rfl, Nat.reduceMul, Nat.reduceEqDiff, Go.Addr.add, ↓reduceIte] at hx243_2)
                                                    have qi243 : (2 < t227.length) = True := eq_true (by omega)
                                                    (try rw [show ((2 : Int)).toNat = 2 from rfl] at hx243_0)
                                                    (try rw [show 2 * 3 = 6 from rfl] at hx243_0)
                                                    (try rw [show ((2 : Int)).toNat = 2 from rfl] at hx243_1)
                                                    (try rw [show 2 * 3 = 6 from rfl] at hx243_1)
                                                    (try rw [show ((2 : Int)).toNat = 2 from rfl] at hx243_2)
                                                    (try rw [show 2 * 3 = 6 from rfl] at hx243_2)
                                                    replace p243 := eq_true p243
                                                    replace q243 := eq_true q243
                                                    refine start_ (n := 22) (S := fun w' => w'.cell? ⟨gb230, 0, none⟩ = some (.int .i64 t223) ∧ w'.cell? ⟨gb230, 1, none⟩ = some (.slice Ao11 t224.length co11) ∧ w'.cell? ad235 = some (.string ((rd_T33 t227 0).f0)) ∧ w'.cell? ⟨ad235.block, ad235.off + 1, none⟩ = some (.int .i64 ((rd_T33 t227 0).f1)) ∧ w'.cell? ⟨ad235.block, ad235.off + 2, none⟩ = some (.int .i64 ((rd_T33 t227 0).f2)) ∧ w'.cell? ⟨ad235.block, ad235.off + 3, none⟩ = some (.string ((rd_T33 t227 1).f0)) ∧ w'.cell? ⟨ad235.block, ad235.off + 3 + 1, none⟩ = some (.int .i64 ((rd_T33 t227 1).f1)) ∧ w'.cell? ⟨ad235.block, ad235.off + 3 + 2, none⟩ = some (.int .i64 ((rd_T33 t227 1).f2)) ∧ w'.cell? ⟨ad235.block, ad235.off + 6, none⟩ = some (.string ((rd_T33 t227 2).f0)) ∧ w'.cell? ⟨ad235.block, ad235.off + 6 + 1, none⟩ = some (.int .i64 ((rd_T33 t227 2).f1)) ∧ w'.cell? ⟨ad235.block, ad235.off + 6 + 2, none⟩ = some (.int .i64 ((rd_T33 t227 2).f2))) (ds := []) #[false, false, false, false, false, false, false, false, false, false, false, false, false, false, false, false, false, false, false, false, false, false] (by kernel_rfl) rfl rfl ⟨(blk_cell BK230.out 0).trans rfl, (blk_cell BK230.out 1).trans rfl, hx241_0, hx241_1, hx241_2, hx242_0, hx242_1, hx242_2, hx243_0, hx243_1, hx243_2⟩ (fun hHeld => ?_); refine with_tabW laws_FnBoxes.tab20 laws_FnBoxes.bits20 (fun HT_ HW_ => ?_)
                                                    generalize wr.drew = w40 at HO_4 HO_231001 BK230 HB hx241_0 hx241_1 hx241_2 hx242_0 hx242_1 hx242_2 hx243_0 hx243_1 hx243_2 hHeld ⊢
                                                    refine pure_ (i := 1) (N := some 84) (v := ?_) (a' := ?_) #[false, true, false, false, false, false, false, false, false, false, false, false, false, false, false, false, false, false, false, false, false, false] rfl rfl (any_of HT_.out (by kernel_rfl)) (fun _ _ _ h => h) (Or.inl ⟨by rfl, ?_⟩) ?_ ?_
                                                    rotate_left
                                                    · intro w'
                                                      go_simp
                                                      with_reducible rfl
                                                    rotate_left
                                                    · simp only [Act.put, List.setIfInBounds_toArray, List.set_cons_zero, List.set_cons_succ, i64_w, i32_w]
                                                      rfl
                                                    refine pure_ (i := 2) (N := some 85) (v := ?_) (a' := ?_) #[false, true, true, false, false, false, false, false, false, false, false, false, false, false, false, false, false, false, false, false, false, false] rfl rfl (any_of HT_.out (by kernel_rfl)) (fun _ _ _ h => h) (Or.inl ⟨by rfl, ?_⟩) ?_ ?_
                                                    rotate_left
                                                    · intro w'
                                                      go_simp
                                                      with_reducible rfl
                                                    rotate_left
                                                    · simp only [Act.put, List.setIfInBounds_toArray, List.set_cons_zero, List.set_cons_succ, i64_w, i32_w]
                                                      rfl
                                                    refine pure_ (i := 3) (N := some 86) (v := ?_) (a' := ?_) #[false, true, true, true, false, false, false, false, false, false, false, false, false, false, false, false, false, false, false, false, false, false] rfl rfl (any_of HT_.out (by kernel_rfl)) (fun _ _ _ h => h) (Or.inl ⟨by rfl, ?_⟩) ?_ ?_
                                                    rotate_left
                                                    · intro w'
                                                      go_simp
                                                      with_reducible rfl
                                                    rotate_left
                                                    · simp only [Act.put, List.setIfInBounds_toArray, List.set_cons_zero, List.set_cons_succ, i64_w, i32_w]
                                                      rfl
                                                    refine pure_ (i := 5) (N := some 88) (v := ?_) (a' := ?_) #[false, true, true, true, false, true, false, false, false, false, false, false, false, false, false, false, false, false, false, false, false, false] rfl rfl (any_of HT_.out (by kernel_rfl)) (fun _ _ _ h => h) (Or.inl ⟨by rfl, ?_⟩) ?_ ?_
                                                    rotate_left
                                                    · intro w'
                                                      go_simp
                                                      with_reducible rfl
                                                    rotate_left
                                                    · simp only [Act.put, List.setIfInBounds_toArray, List.set_cons_zero, List.set_cons_succ, i64_w, i32_w]
                                                      rfl
                                                    refine pure_ (i := 7) (N := some 90) (v := ?_) (a' := ?_) #[false, true, true, true, false, true, false, true, false, false, false, false, false, false, false, false, false, false, false, false, false, false] rfl rfl (any_of HT_.out (by kernel_rfl)) (fun _ _ _ h => h) (Or.inl ⟨by rfl, ?_⟩) ?_ ?_
                                                    rotate_left
                                                    · intro w'
                                                      go_simp
                                                      with_reducible rfl
                                                    rotate_left
                                                    · simp only [Act.put, List.setIfInBounds_toArray, List.set_cons_zero, List.set_cons_succ, i64_w, i32_w]
                                                      rfl
                                                    refine pure_ (i := 8) (N := some 91) (v := ?_) (a' := ?_) #[false, true, true, true, false, true, false, true, true, false, false, false, false, false, false, false, false, false, false, false, false, false] rfl rfl (any_of HT_.out (by kernel_rfl)) (fun _ _ _ h => h) (Or.inl ⟨by rfl, ?_⟩) ?_ ?_
                                                    rotate_left
                                                    · intro w'
                                                      go_simp
                                                      with_reducible rfl
                                                    rotate_left
                                                    · simp only [Act.put, List.setIfInBounds_toArray, List.set_cons_zero, List.set_cons_succ, i64_w, i32_w]
                                                      rfl
                                                    refine pure_ (i := 9) (N := some 92) (v := ?_) (a' := ?_) #[false, true, true, true, false, true, false, true, true, true, false, false, false, false, false, false, false, false, false, false, false, false] rfl rfl (any_of HT_.out (by kernel_rfl)) (fun _ _ _ h => h) (Or.inl ⟨by rfl, ?_⟩) ?_ ?_
                                                    rotate_left
                                                    · intro w'
                                                      go_simp
                                                      with_reducible rfl
                                                    rotate_left
                                                    · simp only [Act.put, List.setIfInBounds_toArray, List.set_cons_zero, List.set_cons_succ, i64_w, i32_w]
                                                      rfl
                                                    refine pure_ (i := 11) (N := some 94) (v := ?_) (a' := ?_) #[false, true, true, true, false, true, false, true, true, true, false, true, false, false, false, false, false, false, false, false, false, false] rfl rfl (any_of HT_.out (by kernel_rfl)) (fun _ _ _ h => h) (Or.inl ⟨by rfl, ?_⟩) ?_ ?_
                                                    rotate_left
                                                    · intro w'
                                                      go_simp
                                                      with_reducible rfl
                                                    rotate_left
                                                    · simp only [Act.put, List.setIfInBounds_toArray, List.set_cons_zero, List.set_cons_succ, i64_w, i32_w]
                                                      rfl
                                                    refine pure_ (i := 13) (N := some 96) (v := ?_) (a' := ?_) #[false, true, true, true, false, true, false, true, true, true, false, true, false, true, false, false, false, false, false, false, false, false] rfl rfl (any_of HT_.out (by kernel_rfl)) (fun _ _ _ h => h) (Or.inl ⟨by rfl, ?_⟩) ?_ ?_
                                                    rotate_left
                                                    · intro w'
                                                      go_simp
                                                      with_reducible rfl
                                                    rotate_left
                                                    · simp only [Act.put, List.setIfInBounds_toArray, List.set_cons_zero, List.set_cons_succ, i64_w, i32_w]
                                                      rfl
                                                    refine pure_ (i := 14) (N := some 97) (v := ?_) (a' := ?_) #[false, true, true, true, false, true, false, true, true, true, false, true, false, true, true, false, false, false, false, false, false, false] rfl rfl (any_of HT_.out (by kernel_rfl)) (fun _ _ _ h => h) (Or.inl ⟨by rfl, ?_⟩) ?_ ?_
                                                    rotate_left
                                                    · intro w'
                                                      go_simp
                                                      with_reducible rfl
                                                    rotate_left
                                                    · simp only [Act.put, List.setIfInBounds_toArray, List.set_cons_zero, List.set_cons_succ, i64_w, i32_w]
                                                      rfl
                                                    refine pure_ (i := 15) (N := some 98) (v := ?_) (a' := ?_) #[false, true, true, true, false, true, false, true, true, true, false, true, false, true, true, true, false, false, false, false, false, false] rfl rfl (any_of HT_.out (by kernel_rfl)) (fun _ _ _ h => h) (Or.inl ⟨by rfl, ?_⟩) ?_ ?_
                                                    rotate_left
                                                    · intro w'
                                                      go_simp
                                                      with_reducible rfl
                                                    rotate_left
                                                    · simp only [Act.put, List.setIfInBounds_toArray, List.set_cons_zero, List.set_cons_succ, i64_w, i32_w]
                                                      rfl
                                                    refine pure_ (i := 17) (N := some 100) (v := ?_) (a' := ?_) #[false, true, true, true, false, true, false, true, true, true, false, true, false, true, true, true, false, true, false, false, false, false] rfl rfl (any_of HT_.out (by kernel_rfl)) (fun _ _ _ h => h) (Or.inl ⟨by rfl, ?_⟩) ?_ ?_
                                                    rotate_left
                                                    · intro w'
                                                      go_simp
                                                      with_reducible rfl
                                                    rotate_left
                                                    · simp only [Act.put, List.setIfInBounds_toArray, List.set_cons_zero, List.set_cons_succ, i64_w, i32_w]
                                                      rfl
                                                    refine take_ (i := 0) (N := some 83) (v := ?_) (a' := ?_) #[true, true, true, true, false, true, false, true, true, true, false, true, false, true, true, true, false, true, false, false, false, false] rfl rfl (take_ofW HT_.out HW_.out (by kernel_rfl)) (fun _ _ _ h => h) (Or.inl ⟨by rfl, ?_⟩) hHeld ?_ ?_
                                                    rotate_left
                                                    · rintro w' ⟨s0, s1, s2, s3, s4, s5, s6, s7, s8, s9, s10⟩
                                                      go_simp
                                                      with_reducible rfl
                                                    rotate_left
                                                    · simp only [Act.put, List.setIfInBounds_toArray, List.set_cons_zero, List.set_cons_succ, i64_w, i32_w]
                                                      rfl
                                                    refine take_ (i := 4) (N := some 87) (v := ?_) (a' := ?_) #[true, true, true, true, true, true, false, true, true, true, false, true, false, true, true, true, false, true, false, false, false, false] rfl rfl (take_ofW HT_.out HW_.out (by kernel_rfl)) (fun _ _ _ h => h) (Or.inl ⟨by rfl, ?_⟩) hHeld ?_ ?_
                                                    rotate_left
                                                    · rintro w' ⟨s0, s1, s2, s3, s4, s5, s6, s7, s8, s9, s10⟩
                                                      go_simp
                                                      with_reducible rfl
                                                    rotate_left
                                                    · simp only [Act.put, List.setIfInBounds_toArray, List.set_cons_zero, List.set_cons_succ, i64_w, i32_w]
                                                      rfl
                                                    refine pure_ (i := 6) (N := some 89) (v := ?_) (a' := ?_) #[true, true, true, true, true, true, true, true, true, true, false, true, false, true, true, true, false, true, false, false, false, false] rfl rfl (any_of HT_.out (by kernel_rfl)) (fun _ _ _ h => h) (Or.inl ⟨by rfl, ?_⟩) ?_ ?_
                                                    rotate_left
                                                    · intro w'
                                                      go_simp
                                                      with_reducible rfl
                                                    rotate_left
                                                    · simp only [Act.put, List.setIfInBounds_toArray, List.set_cons_zero, List.set_cons_succ, i64_w, i32_w]
                                                      rfl
                                                    refine take_ (i := 10) (N := some 93) (v := ?_) (a' := ?_) #[true, true, true, true, true, true, true, true, true, true, true, true, false, true, true, true, false, true, false, false, false, false] rfl rfl (take_ofW HT_.out HW_.out (by kernel_rfl)) (fun _ _ _ h => h) (Or.inl ⟨by rfl, ?_⟩) hHeld ?_ ?_
                                                    rotate_left
                                                    · rintro w' ⟨s0, s1, s2, s3, s4, s5, s6, s7, s8, s9, s10⟩
                                                      go_simp
                                                      with_reducible rfl
                                                    rotate_left
                                                    · simp only [Act.put, List.setIfInBounds_toArray, List.set_cons_zero, List.set_cons_succ, i64_w, i32_w]
                                                      rfl
                                                    refine pure_ (i := 12) (N := some 95) (v := ?_) (a' := ?_) #[true, true, true, true, true, true, true, true, true, true, true, true, true, true, true, true, false, true, false, false, false, false] rfl rfl (any_of HT_.out (by kernel_rfl)) (fun _ _ _ h => h) (Or.inl ⟨by rfl, ?_⟩) ?_ ?_
                                                    rotate_left
                                                    · intro w'
                                                      go_simp
                                                      with_reducible rfl
                                                    rotate_left
                                                    · simp only [Act.put, List.setIfInBounds_toArray, List.set_cons_zero, List.set_cons_succ, i64_w, i32_w]
                                                      rfl
                                                    refine take_ (i := 16) (N := some 99) (v := ?_) (a' := ?_) #[true, true, true, true, true, true, true, true, true, true, true, true, true, true, true, true, true, true, false, false, false, false] rfl rfl (take_ofW HT_.out HW_.out (by kernel_rfl)) (fun _ _ _ h => h) (Or.inl ⟨by rfl, ?_⟩) hHeld ?_ ?_
                                                    rotate_left
                                                    · rintro w' ⟨s0, s1, s2, s3, s4, s5, s6, s7, s8, s9, s10⟩
                                                      go_simp
                                                      with_reducible rfl
                                                    rotate_left
                                                    · simp only [Act.put, List.setIfInBounds_toArray, List.set_cons_zero, List.set_cons_succ, i64_w, i32_w]
                                                      rfl
                                                    refine pure_ (i := 18) (N := some 101) (v := ?_) (a' := ?_) #[true, true, true, true, true, true, true, true, true, true, true, true, true, true, true, true, true, true, true, false, false, false] rfl rfl (any_of HT_.out (by kernel_rfl)) (fun _ _ _ h => h) (Or.inl ⟨by rfl, ?_⟩) ?_ ?_
                                                    rotate_left
                                                    · intro w'
                                                      go_simp
                                                      with_reducible rfl
                                                    rotate_left
                                                    · simp only [Act.put, List.setIfInBounds_toArray, List.set_cons_zero, List.set_cons_succ, i64_w, i32_w]
                                                      rfl
                                                    refine one_ (i := 19) (N := some 102) #[true, true, true, true, true, true, true, true, true, true, true, true, true, true, true, true, true, true, true, true, false, false] rfl rfl (one_of HT_.out (by kernel_rfl)) (by decide) (fun K hK => ?_)
                                                    refine Kd.R_lit_step k36 _ 36 ?hg (N := 102) ?hd (xs := ([(⟨(rd_T33 t227 0).f0, x12_2⟩ : S36), (⟨(rd_T33 t227 1).f0, x13_3⟩ : S36), (⟨(rd_T33 t227 2).f0, x14_4⟩ : S36)] : List (S36))) (inner := [.string ((rd_T33 t227 0).f0), .int .i64 x12_2, .string ((rd_T33 t227 1).f0), .int .i64 x13_3, .string ((rd_T33 t227 2).f0), .int .i64 x14_4]) (ok := fun _ => True) (okp := fun _ => True) ?hr ?hp (fun _ hk => hk) trivial (Below.refl _ _) (Nat.le_refl _) (by simp) ?_; (case hd => rfl); (case hg => rfl); (case hr => first | (go_simp; done) | (go_simp; rfl)); (case hp => exact (Reps.c2 (show Kd.M k36 _ _ _ (⟨(rd_T33 t227 0).f0, x12_2⟩ : S36) [.string ((rd_T33 t227 0).f0), .int .i64 x12_2] from (k36_mkM _ _ _ (⟨(rd_T33 t227 0).f0, x12_2⟩ : S36) )) (Reps.c2 (show Kd.M k36 _ _ _ (⟨(rd_T33 t227 1).f0, x13_3⟩ : S36) [.string ((rd_T33 t227 1).f0), .int .i64 x13_3] from (k36_mkM _ _ _ (⟨(rd_T33 t227 1).f0, x13_3⟩ : S36) )) (Reps.c2 (show Kd.M k36 _ _ _ (⟨(rd_T33 t227 2).f0, x14_4⟩ : S36) [.string ((rd_T33 t227 2).f0), .int .i64 x14_4] from (k36_mkM _ _ _ (⟨(rd_T33 t227 2).f0, x14_4⟩ : S36) )) (Reps.none _ _)))))
                                                    intro v245 w41 ho42 hb hg_ hnew_
                                                    have HS2_ := (hb.cell (World.block_lt_of_cell? _ _ (hHeld.2.2.1))).trans (hHeld.2.2.1)
                                                    have HS3_ := (hb.cell (World.block_lt_of_cell? _ _ (hHeld.2.2.2.1))).trans (hHeld.2.2.2.1)
                                                    have HS4_ := (hb.cell (World.block_lt_of_cell? _ _ (hHeld.2.2.2.2.1))).trans (hHeld.2.2.2.2.1)
                                                    have HS5_ := (hb.cell (World.block_lt_of_cell? _ _ (hHeld.2.2.2.2.2.1))).trans (hHeld.2.2.2.2.2.1)
                                                    have HS6_ := (hb.cell (World.block_lt_of_cell? _ _ (hHeld.2.2.2.2.2.2.1))).trans (hHeld.2.2.2.2.2.2.1)
                                                    have HS7_ := (hb.cell (World.block_lt_of_cell? _ _ (hHeld.2.2.2.2.2.2.2.1))).trans (hHeld.2.2.2.2.2.2.2.1)
                                                    have HS8_ := (hb.cell (World.block_lt_of_cell? _ _ (hHeld.2.2.2.2.2.2.2.2.1))).trans (hHeld.2.2.2.2.2.2.2.2.1)
                                                    have HS9_ := (hb.cell (World.block_lt_of_cell? _ _ (hHeld.2.2.2.2.2.2.2.2.2.1))).trans (hHeld.2.2.2.2.2.2.2.2.2.1)
                                                    have HS10_ := (hb.cell (World.block_lt_of_cell? _ _ (hHeld.2.2.2.2.2.2.2.2.2.2))).trans (hHeld.2.2.2.2.2.2.2.2.2.2)
                                                    clear hg_ hnew_
                                                    (first | rw [← Ny244.out] at ho42 | (simp only [Int.reduceToNat] at ho42; rw [← Ny244.out] at ho42))
                                                    have n0_ := Aside0.mk (Kd.R_below (by (with_reducible repeat (first | apply Kd.R_alloc | apply Kd.R_drewN | apply Kd.R_drew)); exact HO_4.out) hb)
                                                    have n1_ := Aside0.mk (Kd.R_below (by (with_reducible repeat (first | apply Kd.R_alloc | apply Kd.R_drewN | apply Kd.R_drew)); exact HO_231001.out) hb)
                                                    have n2_ := Aside0.mk (Kd.R_lower ho42 (below_size (by repeat (first | (with_reducible first | exact HB.out | apply below_alloc | apply pw_below_drewN | apply below_drew1 | refine below_set ?_ GE230.out) | exact HB.out))))
                                                    have n3_ := Aside0.mk (blk_below (g := gb230) (o := .cells #[.int .i64 t223, .slice Ao11 t224.length co11] 26 (0, 0)) (by (with_reducible repeat (first | refine blk_drewN ?_ _ | refine blk_drew ?_ | refine blk_alloc ?_ _)); exact BK230.out) hb)
                                                    have n4_ := Aside0.mk (below_step (by repeat (first | (with_reducible first | exact HB.out | apply below_alloc | apply pw_below_drewN | apply below_drew1 | refine below_set ?_ GE230.out) | exact HB.out)) hb)
                                                    clear HO_4
                                                    clear HO_231001
                                                    clear BK230
                                                    clear HB
                                                    have HO_4 := n0_
                                                    have HO_231001 := n1_
                                                    have HO246 := n2_
                                                    have BK230 := n3_
                                                    have HB := n4_
                                                    clear n0_ n1_ n2_ n3_ n4_
                                                    clear hb ho42
                                                    obtain ⟨Ao43, co43, eo43⟩ := Kd.R_slice HO246.out
                                                    (first | subst eo43 | (injection eo43 with f1_ f2_ f3_; have f4_ := f1_.symm; have f5_ := f3_.symm; clear f1_ f2_ f3_; subst f4_; subst f5_))
                                                    refine hK.out _ _ ⟨(blk_cell BK230.out 0).trans rfl, (blk_cell BK230.out 1).trans rfl, HS2_, HS3_, HS4_, HS5_, HS6_, HS7_, HS8_, HS9_, HS10_⟩ (fun hHeld => ?_)
                                                    clear hK K
                                                    refine norm_ (a' := ?_) ?_ ?_
                                                    rotate_left
                                                    · show Act.put _ (some 102) _ = _
                                                      simp only [Act.put, List.setIfInBounds_toArray, List.set_cons_zero, List.set_cons_succ, i64_w, i32_w]
                                                      rfl
                                                    refine one_ (i := 20) (N := some 103) #[true, true, true, true, true, true, true, true, true, true, true, true, true, true, true, true, true, true, true, true, true, false] rfl rfl (one_of HT_.out (by kernel_rfl)) (by decide) (fun K hK => ?_)
                                                    refine goes_ Try.func13 (by kernel_rfl) rfl #[.agg #[.int .i64 t223, .slice Ao11 t224.length co11], .slice Ao43 y244.length co43] (by rfl) rfl rfl (by (try simp only [List.map_toArray, List.map_cons, List.map_nil]); first | done | rfl | (simp only [List.length_drop, List.length_take]; rfl)) ?_
                                                    with_reducible refine (impl_AffAt.calls k4 t223 _ _ t224 _ _ y244 t247 _ ?side1 ?side2 ?side3 ?side4 A30.out).mono ?_
                                                    (case side1 => repeat (first | exact (Kd.R_reads' HO_231001.out).2.2 | (with_reducible refine Kd.C_alloc ?_ _) | (with_reducible refine Kd.C_drewN ?_ _) | (with_reducible refine Kd.C_drew ?_)))
                                                    (case side2 => exact (Kd.R_reads' HO_231001.out).2.1)
                                                    (case side3 => repeat (first | exact (Kd.R_reads' HO246.out).2.2 | (with_reducible refine Kd.C_alloc ?_ _) | (with_reducible refine Kd.C_drewN ?_ _) | (with_reducible refine Kd.C_drew ?_)))
                                                    (case side4 => exact (Kd.R_reads' HO246.out).2.1)
                                                    rintro e w44 ⟨rfl, hb⟩
                                                    have HS2_ := (hb.cell (World.block_lt_of_cell? _ _ (hHeld.2.2.1))).trans (hHeld.2.2.1)
                                                    have HS3_ := (hb.cell (World.block_lt_of_cell? _ _ (hHeld.2.2.2.1))).trans (hHeld.2.2.2.1)
                                                    have HS4_ := (hb.cell (World.block_lt_of_cell? _ _ (hHeld.2.2.2.2.1))).trans (hHeld.2.2.2.2.1)
                                                    have HS5_ := (hb.cell (World.block_lt_of_cell? _ _ (hHeld.2.2.2.2.2.1))).trans (hHeld.2.2.2.2.2.1)
                                                    have HS6_ := (hb.cell (World.block_lt_of_cell? _ _ (hHeld.2.2.2.2.2.2.1))).trans (hHeld.2.2.2.2.2.2.1)
                                                    have HS7_ := (hb.cell (World.block_lt_of_cell? _ _ (hHeld.2.2.2.2.2.2.2.1))).trans (hHeld.2.2.2.2.2.2.2.1)
                                                    have HS8_ := (hb.cell (World.block_lt_of_cell? _ _ (hHeld.2.2.2.2.2.2.2.2.1))).trans (hHeld.2.2.2.2.2.2.2.2.1)
                                                    have HS9_ := (hb.cell (World.block_lt_of_cell? _ _ (hHeld.2.2.2.2.2.2.2.2.2.1))).trans (hHeld.2.2.2.2.2.2.2.2.2.1)
                                                    have HS10_ := (hb.cell (World.block_lt_of_cell? _ _ (hHeld.2.2.2.2.2.2.2.2.2.2))).trans (hHeld.2.2.2.2.2.2.2.2.2.2)
                                                    refine ⟨_, rfl, ?_⟩
                                                    have n0_ := Aside0.mk (Kd.R_below (by (with_reducible repeat (first | apply Kd.R_alloc | apply Kd.R_drewN | apply Kd.R_drew)); exact HO_4.out) hb)
                                                    have n1_ := Aside0.mk (Kd.R_below (by (with_reducible repeat (first | apply Kd.R_alloc | apply Kd.R_drewN | apply Kd.R_drew)); exact HO_231001.out) hb)
                                                    have n2_ := Aside0.mk (Kd.R_below (by (with_reducible repeat (first | apply Kd.R_alloc | apply Kd.R_drewN | apply Kd.R_drew)); exact HO246.out) hb)
                                                    have n3_ := Aside0.mk (blk_below (g := gb230) (o := .cells #[.int .i64 t223, .slice Ao11 t224.length co11] 26 (0, 0)) (by (with_reducible repeat (first | refine blk_drewN ?_ _ | refine blk_drew ?_ | refine blk_alloc ?_ _)); exact BK230.out) hb)
                                                    have n4_ := Aside0.mk (below_step (by repeat (first | (with_reducible first | exact HB.out | apply below_alloc | apply pw_below_drewN | apply below_drew1 | refine below_set ?_ GE230.out) | exact HB.out)) hb)
                                                    clear HO_4
                                                    clear HO_231001
                                                    clear HO246
                                                    clear BK230
                                                    clear HB
                                                    have HO_4 := n0_
                                                    have HO_231001 := n1_
                                                    have HO246 := n2_
                                                    have BK230 := n3_
                                                    have HB := n4_
                                                    clear n0_ n1_ n2_ n3_ n4_
                                                    (try clear hb)
                                                    (try clear hb2)
                                                    (try clear hk)
                                                    (try clear hi)
                                                    refine hK.out _ _ ⟨(blk_cell BK230.out 0).trans rfl, (blk_cell BK230.out 1).trans rfl, HS2_, HS3_, HS4_, HS5_, HS6_, HS7_, HS8_, HS9_, HS10_⟩ (fun hHeld => ?_)
                                                    clear hK K
                                                    refine norm_ (a' := ?_) ?_ ?_
                                                    rotate_left
                                                    · show Act.put _ (some 103) _ = _
                                                      simp only [Act.put, List.setIfInBounds_toArray, List.set_cons_zero, List.set_cons_succ, i64_w, i32_w]
                                                      rfl
                                                    refine pure_ (i := 21) (N := some 15) (v := ?_) (a' := ?_) #[true, true, true, true, true, true, true, true, true, true, true, true, true, true, true, true, true, true, true, true, true, true] rfl rfl (any_of HT_.out (by kernel_rfl)) (fun _ _ _ h => h) (Or.inl ⟨by rfl, ?_⟩) ?_ ?_
                                                    rotate_left
                                                    · intro w'
                                                      go_simp
                                                      with_reducible rfl
                                                    rotate_left
                                                    · simp only [Act.put, List.setIfInBounds_toArray, List.set_cons_zero, List.set_cons_succ, i64_w, i32_w]
                                                      rfl
                                                    refine done_ (done_of HT_.out (by kernel_rfl)) ?_
                                                    try go_wp2
                                                    go_roundg k4
                                                    case measure => have := HJ6.out; have := HK2.out; have := HK3.out; have := HK4.out; omega
                                                    case rel => exact ⟨(true), ((t247 == t233)), (wrap64 (x11_4 + 1)), (wrap64 (x14_4 + 1)), (by first | rfl | (simp; done) | (simp [*]; done)), (by first | rfl | (simp; done) | (simp [*]; done)), (by first | rfl | (simp; done) | (simp [*]; done)), (by first | rfl | (simp; done) | (simp [*]; done)), H', ⟨by have := HJ6.out; have := HK2.out; have := HK3.out; have := HK4.out; omega⟩, ⟨by (with_reducible repeat (first | apply Kd.R_alloc | apply Kd.R_drewN | apply Kd.R_drew)); exact HO_4.out⟩, ⟨by (with_reducible repeat (first | apply Kd.R_alloc | apply Kd.R_drewN | apply Kd.R_drew)); exact HO_231001.out⟩, ⟨by (with_reducible repeat (first | refine blk_drewN ?_ _ | refine blk_drew ?_ | refine blk_alloc ?_ _)); exact BK230.out⟩, ⟨by repeat (first | (with_reducible first | exact HB.out | apply below_alloc | apply pw_below_drewN | apply below_drew1 | refine below_set ?_ GE230.out) | exact HB.out)⟩⟩
                                                · replace c33 := Bool.eq_false_iff.mpr c33
                                                  subst c33
                                                  have H1 : (if x10_4 = true then (laws_FnBoxes.l2 k4 l0 t227 t231 t233 (t247 == t231) true (wrap64 (x11_4 + 1)) x12_2 x13_3 (wrap64 (x14_4 + 1)) t223 t224) else (laws_FnBoxes.l2 k4 l0 t227 t231 t233 (t247 == t231) (t247 == t233) (wrap64 (x11_4 + 1)) x12_2 x13_3 (wrap64 (x14_4 + 1)) t223 t224)) = some r := by rw [if_neg (show ¬ (false = true) by decide)] at H; exact H
                                                  clear H
                                                  have H := H1
                                                  clear H1
                                                  by_cases c45 : x10_4 = true
                                                  · subst c45
                                                    have H1 : (laws_FnBoxes.l2 k4 l0 t227 t231 t233 (t247 == t231) true (wrap64 (x11_4 + 1)) x12_2 x13_3 (wrap64 (x14_4 + 1)) t223 t224) = some r := by rw [if_pos rfl] at H; exact H
                                                    clear H
                                                    have H := H1
                                                    clear H1
                                                    have H' := Aside0.mk H
                                                    clear H
                                                    have p240 : 0 ≤ (2 : Int) := (by omega)
                                                    have q240 : 2 < (t227.length : Int) := of_decide_eq_true (by first | (with_reducible assumption) | assumption)
                                                    obtain ⟨ad240, e240, hx240_0, hx240_1, hx240_2⟩ := at_T33 (Kd.R_reads' HO_4.out).2.2 2 p240 q240
                                                    obtain rfl : ad235 = ad240 := (by injection e240)
                                                    (try simp only [show (2 : Int).toNat = 2 from rfl, Nat.reduceMul, Nat.reduceEqDiff, Go.Addr.add, ↓reduceIte] at hx240_0)
                                                    (try simp only [show (2 : Int).toNat = 2 from rfl, Nat.reduceMul, Nat.reduceEqDiff, Go.Addr.add, ↓reduceIte] at hx240_1)
                                                    (try simp only [show (2 : Int).toNat = 2 from rfl, Nat.reduceMul, Nat.reduceEqDiff, Go.Addr.add, ↓reduceIte] at hx240_2)
                                                    have qi240 : (2 < t227.length) = True := eq_true (by omega)
                                                    (try rw [show ((2 : Int)).toNat = 2 from rfl] at hx240_0)
                                                    (try rw [show 2 * 3 = 6 from rfl] at hx240_0)
                                                    (try rw [show ((2 : Int)).toNat = 2 from rfl] at hx240_1)
                                                    (try rw [show 2 * 3 = 6 from rfl] at hx240_1)
                                                    (try rw [show ((2 : Int)).toNat = 2 from rfl] at hx240_2)
                                                    (try rw [show 2 * 3 = 6 from rfl] at hx240_2)
                                                    replace p240 := eq_true p240
                                                    replace q240 := eq_true q240
                                                    try go_wp2
                                                    have n0_ := Aside0.mk (Kd.R_drew HO_4.out)
                                                    have n1_ := Aside0.mk (Kd.R_drew HO_231001.out)
                                                    have n2_ := Aside0.mk (blk_drew BK230.out)
                                                    have n3_ := Aside0.mk (below_drew1 HB.out)
                                                    clear HO_4
                                                    clear HO_231001
                                                    clear BK230
                                                    clear HB
                                                    have HO_4 := n0_
                                                    have HO_231001 := n1_
                                                    have BK230 := n2_
                                                    have HB := n3_
                                                    clear n0_ n1_ n2_ n3_
                                                    have p241 : 0 ≤ (0 : Int) := (by omega)
                                                    have q241 : 0 < (t227.length : Int) := of_decide_eq_true (by first | (with_reducible assumption) | assumption)
                                                    obtain ⟨ad241, e241, hx241_0, hx241_1, hx241_2⟩ := at_T33 (Kd.R_reads' HO_4.out).2.2 0 p241 q241
                                                    obtain rfl : ad235 = ad241 := (by injection e241)
                                                    have qi241 : (0 < t227.length) = True := eq_true (by omega)
                                                    (try rw [show ((0 : Int)).toNat = 0 from rfl] at hx241_0)
                                                    (try rw [show 0 * 3 = 0 from rfl] at hx241_0)
                                                    (try rw [Addr.add_zero'] at hx241_0)
                                                    (try rw [show ((0 : Int)).toNat = 0 from rfl] at hx241_1)
                                                    (try rw [show 0 * 3 = 0 from rfl] at hx241_1)
                                                    (try rw [Addr.add_zero'] at hx241_1)
                                                    (try rw [show ((0 : Int)).toNat = 0 from rfl] at hx241_2)
                                                    (try rw [show 0 * 3 = 0 from rfl] at hx241_2)
                                                    (try rw [Addr.add_zero'] at hx241_2)
                                                    replace p241 := eq_true p241
                                                    replace q241 := eq_true q241
                                                    have p242 : 0 ≤ (1 : Int) := (by omega)
                                                    have q242 : 1 < (t227.length : Int) := of_decide_eq_true (by first | (with_reducible assumption) | assumption)
                                                    obtain ⟨ad242, e242, hx242_0, hx242_1, hx242_2⟩ := at_T33 (Kd.R_reads' HO_4.out).2.2 1 p242 q242
                                                    obtain rfl : ad235 = ad242 := (by injection e242)
                                                    (try simp only [show (1 : Int).toNat = 1 from rfl, Nat.reduceMul, Nat.reduceEqDiff, Go.Addr.add, ↓reduceIte] at hx242_0)
                                                    (try simp only [show (1 : Int).toNat = 1 from rfl, Nat.reduceMul, Nat.reduceEqDiff, Go.Addr.add, ↓reduceIte] at hx242_1)
                                                    (try simp only [show (1 : Int).toNat = 1 from rfl, Nat.reduceMul, Nat.reduceEqDiff, Go.Addr.add, ↓reduceIte] at hx242_2)
                                                    have qi242 : (1 < t227.length) = True := eq_true (by omega)
                                                    (try rw [show ((1 : Int)).toNat = 1 from rfl] at hx242_0)
                                                    (try rw [show 1 * 3 = 3 from rfl] at hx242_0)
                                                    (try rw [show ((1 : Int)).toNat = 1 from rfl] at hx242_1)
                                                    (try rw [show 1 * 3 = 3 from rfl] at hx242_1)
                                                    (try rw [show ((1 : Int)).toNat = 1 from rfl] at hx242_2)
                                                    (try rw [show 1 * 3 = 3 from rfl] at hx242_2)
                                                    replace p242 := eq_true p242
                                                    replace q242 := eq_true q242
                                                    have p243 : 0 ≤ (2 : Int) := (by omega)
                                                    have q243 : 2 < (t227.length : Int) := of_decide_eq_true (by first | (with_reducible assumption) | assumption)
                                                    obtain ⟨ad243, e243, hx243_0, hx243_1, hx243_2⟩ := at_T33 (Kd.R_reads' HO_4.out).2.2 2 p243 q243
                                                    obtain rfl : ad235 = ad243 := (by injection e243)
                                                    (try simp only [show (2 : Int).toNat = 2 from rfl, Nat.reduceMul, Nat.reduceEqDiff, Go.Addr.add, ↓reduceIte] at hx243_0)
                                                    (try simp only [show (2 : Int).toNat = 2 from rfl, Nat.reduceMul, Nat.reduceEqDiff, Go.Addr.add, ↓reduceIte] at hx243_1)
                                                    (try simp only [show (2 : Int).toNat = 2 from rfl, Nat.reduceMul, Nat.reduceEqDiff, Go.Addr.add, ↓reduceIte] at hx243_2)
                                                    have qi243 : (2 < t227.length) = True := eq_true (by omega)
                                                    (try rw [show ((2 : Int)).toNat = 2 from rfl] at hx243_0)
                                                    (try rw [show 2 * 3 = 6 from rfl] at hx243_0)
                                                    (try rw [show ((2 : Int)).toNat = 2 from rfl] at hx243_1)
                                                    (try rw [show 2 * 3 = 6 from rfl] at hx243_1)
                                                    (try rw [show ((2 : Int)).toNat = 2 from rfl] at hx243_2)
                                                    (try rw [show 2 * 3 = 6 from rfl] at hx243_2)
                                                    replace p243 := eq_true p243
                                                    replace q243 := eq_true q243
                                                    refine start_ (n := 22) (S := fun w' => w'.cell? ⟨gb230, 0, none⟩ = some (.int .i64 t223) ∧ w'.cell? ⟨gb230, 1, none⟩ = some (.slice Ao11 t224.length co11) ∧ w'.cell? ad235 = some (.string ((rd_T33 t227 0).f0)) ∧ w'.cell? ⟨ad235.block, ad235.off + 1, none⟩ = some (.int .i64 ((rd_T33 t227 0).f1)) ∧ w'.cell? ⟨ad235.block, ad235.off + 2, none⟩ = some (.int .i64 ((rd_T33 t227 0).f2)) ∧ w'.cell? ⟨ad235.block, ad235.off + 3, none⟩ = some (.string ((rd_T33 t227 1).f0)) ∧ w'.cell? ⟨ad235.block, ad235.off + 3 + 1, none⟩ = some (.int .i64 ((rd_T33 t227 1).f1)) ∧ w'.cell? ⟨ad235.block, ad235.off + 3 + 2, none⟩ = some (.int .i64 ((rd_T33 t227 1).f2)) ∧ w'.cell? ⟨ad235.block, ad235.off + 6, none⟩ = some (.string ((rd_T33 t227 2).f0)) ∧ w'.cell? ⟨ad235.block, ad235.off + 6 + 1, none⟩ = some (.int .i64 ((rd_T33 t227 2).f1)) ∧ w'.cell? ⟨ad235.block, ad235.off + 6 + 2, none⟩ = some (.int .i64 ((rd_T33 t227 2).f2))) (ds := []) #[false, false, false, false, false, false, false, false, false, false, false, false, false, false, false, false, false, false, false, false, false, false] (by kernel_rfl) rfl rfl ⟨(blk_cell BK230.out 0).trans rfl, (blk_cell BK230.out 1).trans rfl, hx241_0, hx241_1, hx241_2, hx242_0, hx242_1, hx242_2, hx243_0, hx243_1, hx243_2⟩ (fun hHeld => ?_); refine with_tabW laws_FnBoxes.tab20 laws_FnBoxes.bits20 (fun HT_ HW_ => ?_)
                                                    generalize wr.drew = w46 at HO_4 HO_231001 BK230 HB hx241_0 hx241_1 hx241_2 hx242_0 hx242_1 hx242_2 hx243_0 hx243_1 hx243_2 hHeld ⊢
                                                    refine pure_ (i := 1) (N := some 84) (v := ?_) (a' := ?_) #[false, true, false, false, false, false, false, false, false, false, false, false, false, false, false, false, false, false, false, false, false, false] rfl rfl (any_of HT_.out (by kernel_rfl)) (fun _ _ _ h => h) (Or.inl ⟨by rfl, ?_⟩) ?_ ?_
                                                    rotate_left
                                                    · intro w'
                                                      go_simp
                                                      with_reducible rfl
                                                    rotate_left
                                                    · simp only [Act.put, List.setIfInBounds_toArray, List.set_cons_zero, List.set_cons_succ, i64_w, i32_w]
                                                      rfl
                                                    refine pure_ (i := 2) (N := some 85) (v := ?_) (a' := ?_) #[false, true, true, false, false, false, false, false, false, false, false, false, false, false, false, false, false, false, false, false, false, false] rfl rfl (any_of HT_.out (by kernel_rfl)) (fun _ _ _ h => h) (Or.inl ⟨by rfl, ?_⟩) ?_ ?_
                                                    rotate_left
                                                    · intro w'
                                                      go_simp
                                                      with_reducible rfl
                                                    rotate_left
                                                    · simp only [Act.put, List.setIfInBounds_toArray, List.set_cons_zero, List.set_cons_succ, i64_w, i32_w]
                                                      rfl
                                                    refine pure_ (i := 3) (N := some 86) (v := ?_) (a' := ?_) #[false, true, true, true, false, false, false, false, false, false, false, false, false, false, false, false, false, false, false, false, false, false] rfl rfl (any_of HT_.out (by kernel_rfl)) (fun _ _ _ h => h) (Or.inl ⟨by rfl, ?_⟩) ?_ ?_
                                                    rotate_left
                                                    · intro w'
                                                      go_simp
                                                      with_reducible rfl
                                                    rotate_left
                                                    · simp only [Act.put, List.setIfInBounds_toArray, List.set_cons_zero, List.set_cons_succ, i64_w, i32_w]
                                                      rfl
                                                    refine pure_ (i := 5) (N := some 88) (v := ?_) (a' := ?_) #[false, true, true, true, false, true, false, false, false, false, false, false, false, false, false, false, false, false, false, false, false, false] rfl rfl (any_of HT_.out (by kernel_rfl)) (fun _ _ _ h => h) (Or.inl ⟨by rfl, ?_⟩) ?_ ?_
                                                    rotate_left
                                                    · intro w'
                                                      go_simp
                                                      with_reducible rfl
                                                    rotate_left
                                                    · simp only [Act.put, List.setIfInBounds_toArray, List.set_cons_zero, List.set_cons_succ, i64_w, i32_w]
                                                      rfl
                                                    refine pure_ (i := 7) (N := some 90) (v := ?_) (a' := ?_) #[false, true, true, true, false, true, false, true, false, false, false, false, false, false, false, false, false, false, false, false, false, false] rfl rfl (any_of HT_.out (by kernel_rfl)) (fun _ _ _ h => h) (Or.inl ⟨by rfl, ?_⟩) ?_ ?_
                                                    rotate_left
                                                    · intro w'
                                                      go_simp
                                                      with_reducible rfl
                                                    rotate_left
                                                    · simp only [Act.put, List.setIfInBounds_toArray, List.set_cons_zero, List.set_cons_succ, i64_w, i32_w]
                                                      rfl
                                                    refine pure_ (i := 8) (N := some 91) (v := ?_) (a' := ?_) #[false, true, true, true, false, true, false, true, true, false, false, false, false, false, false, false, false, false, false, false, false, false] rfl rfl (any_of HT_.out (by kernel_rfl)) (fun _ _ _ h => h) (Or.inl ⟨by rfl, ?_⟩) ?_ ?_
                                                    rotate_left
                                                    · intro w'
                                                      go_simp
                                                      with_reducible rfl
                                                    rotate_left
                                                    · simp only [Act.put, List.setIfInBounds_toArray, List.set_cons_zero, List.set_cons_succ, i64_w, i32_w]
                                                      rfl
                                                    refine pure_ (i := 9) (N := some 92) (v := ?_) (a' := ?_) #[false, true, true, true, false, true, false, true, true, true, false, false, false, false, false, false, false, false, false, false, false, false] rfl rfl (any_of HT_.out (by kernel_rfl)) (fun _ _ _ h => h) (Or.inl ⟨by rfl, ?_⟩) ?_ ?_
                                                    rotate_left
                                                    · intro w'
                                                      go_simp
                                                      with_reducible rfl
                                                    rotate_left
                                                    · simp only [Act.put, List.setIfInBounds_toArray, List.set_cons_zero, List.set_cons_succ, i64_w, i32_w]
                                                      rfl
                                                    refine pure_ (i := 11) (N := some 94) (v := ?_) (a' := ?_) #[false, true, true, true, false, true, false, true, true, true, false, true, false, false, false, false, false, false, false, false, false, false] rfl rfl (any_of HT_.out (by kernel_rfl)) (fun _ _ _ h => h) (Or.inl ⟨by rfl, ?_⟩) ?_ ?_
                                                    rotate_left
                                                    · intro w'
                                                      go_simp
                                                      with_reducible rfl
                                                    rotate_left
                                                    · simp only [Act.put, List.setIfInBounds_toArray, List.set_cons_zero, List.set_cons_succ, i64_w, i32_w]
                                                      rfl
                                                    refine pure_ (i := 13) (N := some 96) (v := ?_) (a' := ?_) #[false, true, true, true, false, true, false, true, true, true, false, true, false, true, false, false, false, false, false, false, false, false] rfl rfl (any_of HT_.out (by kernel_rfl)) (fun _ _ _ h => h) (Or.inl ⟨by rfl, ?_⟩) ?_ ?_
                                                    rotate_left
                                                    · intro w'
                                                      go_simp
                                                      with_reducible rfl
                                                    rotate_left
                                                    · simp only [Act.put, List.setIfInBounds_toArray, List.set_cons_zero, List.set_cons_succ, i64_w, i32_w]
                                                      rfl
                                                    refine pure_ (i := 14) (N := some 97) (v := ?_) (a' := ?_) #[false, true, true, true, false, true, false, true, true, true, false, true, false, true, true, false, false, false, false, false, false, false] rfl rfl (any_of HT_.out (by kernel_rfl)) (fun _ _ _ h => h) (Or.inl ⟨by rfl, ?_⟩) ?_ ?_
                                                    rotate_left
                                                    · intro w'
                                                      go_simp
                                                      with_reducible rfl
                                                    rotate_left
                                                    · simp only [Act.put, List.setIfInBounds_toArray, List.set_cons_zero, List.set_cons_succ, i64_w, i32_w]
                                                      rfl
                                                    refine pure_ (i := 15) (N := some 98) (v := ?_) (a' := ?_) #[false, true, true, true, false, true, false, true, true, true, false, true, false, true, true, true, false, false, false, false, false, false] rfl rfl (any_of HT_.out (by kernel_rfl)) (fun _ _ _ h => h) (Or.inl ⟨by rfl, ?_⟩) ?_ ?_
                                                    rotate_left
                                                    · intro w'
                                                      go_simp
                                                      with_reducible rfl
                                                    rotate_left
                                                    · simp only [Act.put, List.setIfInBounds_toArray, List.set_cons_zero, List.set_cons_succ, i64_w, i32_w]
                                                      rfl
                                                    refine pure_ (i := 17) (N := some 100) (v := ?_) (a' := ?_) #[false, true, true, true, false, true, false, true, true, true, false, true, false, true, true, true, false, true, false, false, false, false] rfl rfl (any_of HT_.out (by kernel_rfl)) (fun _ _ _ h => h) (Or.inl ⟨by rfl, ?_⟩) ?_ ?_
                                                    rotate_left
                                                    · intro w'
                                                      go_simp
                                                      with_reducible rfl
                                                    rotate_left
                                                    · simp only [Act.put, List.setIfInBounds_toArray, List.set_cons_zero, List.set_cons_succ, i64_w, i32_w]
                                                      rfl
                                                    refine take_ (i := 0) (N := some 83) (v := ?_) (a' := ?_) #[true, true, true, true, false, true, false, true, true, true, false, true, false, true, true, true, false, true, false, false, false, false] rfl rfl (take_ofW HT_.out HW_.out (by kernel_rfl)) (fun _ _ _ h => h) (Or.inl ⟨by rfl, ?_⟩) hHeld ?_ ?_
                                                    rotate_left
                                                    · rintro w' ⟨s0, s1, s2, s3, s4, s5, s6, s7, s8, s9, s10⟩
                                                      go_simp
                                                      with_reducible rfl
                                                    rotate_left
                                                    · simp only [Act.put, List.setIfInBounds_toArray, List.set_cons_zero, List.set_cons_succ, i64_w, i32_w]
                                                      rfl
                                                    refine take_ (i := 4) (N := some 87) (v := ?_) (a' := ?_) #[true, true, true, true, true, true, false, true, true, true, false, true, false, true, true, true, false, true, false, false, false, false] rfl rfl (take_ofW HT_.out HW_.out (by kernel_rfl)) (fun _ _ _ h => h) (Or.inl ⟨by rfl, ?_⟩) hHeld ?_ ?_
                                                    rotate_left
                                                    · rintro w' ⟨s0, s1, s2, s3, s4, s5, s6, s7, s8, s9, s10⟩
                                                      go_simp
                                                      with_reducible rfl
                                                    rotate_left
                                                    · simp only [Act.put, List.setIfInBounds_toArray, List.set_cons_zero, List.set_cons_succ, i64_w, i32_w]
                                                      rfl
                                                    refine pure_ (i := 6) (N := some 89) (v := ?_) (a' := ?_) #[true, true, true, true, true, true, true, true, true, true, false, true, false, true, true, true, false, true, false, false, false, false] rfl rfl (any_of HT_.out (by kernel_rfl)) (fun _ _ _ h => h) (Or.inl ⟨by rfl, ?_⟩) ?_ ?_
                                                    rotate_left
                                                    · intro w'
                                                      go_simp
                                                      with_reducible rfl
                                                    rotate_left
                                                    · simp only [Act.put, List.setIfInBounds_toArray, List.set_cons_zero, List.set_cons_succ, i64_w, i32_w]
                                                      rfl
                                                    refine take_ (i := 10) (N := some 93) (v := ?_) (a' := ?_) #[true, true, true, true, true, true, true, true, true, true, true, true, false, true, true, true, false, true, false, false, false, false] rfl rfl (take_ofW HT_.out HW_.out (by kernel_rfl)) (fun _ _ _ h => h) (Or.inl ⟨by rfl, ?_⟩) hHeld ?_ ?_
                                                    rotate_left
                                                    · rintro w' ⟨s0, s1, s2, s3, s4, s5, s6, s7, s8, s9, s10⟩
                                                      go_simp
                                                      with_reducible rfl
                                                    rotate_left
                                                    · simp only [Act.put, List.setIfInBounds_toArray, List.set_cons_zero, List.set_cons_succ, i64_w, i32_w]
                                                      rfl
                                                    refine pure_ (i := 12) (N := some 95) (v := ?_) (a' := ?_) #[true, true, true, true, true, true, true, true, true, true, true, true, true, true, true, true, false, true, false, false, false, false] rfl rfl (any_of HT_.out (by kernel_rfl)) (fun _ _ _ h => h) (Or.inl ⟨by rfl, ?_⟩) ?_ ?_
                                                    rotate_left
                                                    · intro w'
                                                      go_simp
                                                      with_reducible rfl
                                                    rotate_left
                                                    · simp only [Act.put, List.setIfInBounds_toArray, List.set_cons_zero, List.set_cons_succ, i64_w, i32_w]
                                                      rfl
                                                    refine take_ (i := 16) (N := some 99) (v := ?_) (a' := ?_) #[true, true, true, true, true, true, true, true, true, true, true, true, true, true, true, true, true, true, false, false, false, false] rfl rfl (take_ofW HT_.out HW_.out (by kernel_rfl)) (fun _ _ _ h => h) (Or.inl ⟨by rfl, ?_⟩) hHeld ?_ ?_
                                                    rotate_left
                                                    · rintro w' ⟨s0, s1, s2, s3, s4, s5, s6, s7, s8, s9, s10⟩
                                                      go_simp
                                                      with_reducible rfl
                                                    rotate_left
                                                    · simp only [Act.put, List.setIfInBounds_toArray, List.set_cons_zero, List.set_cons_succ, i64_w, i32_w]
                                                      rfl
                                                    refine pure_ (i := 18) (N := some 101) (v := ?_) (a' := ?_) #[true, true, true, true, true, true, true, true, true, true, true, true, true, true, true, true, true, true, true, false, false, false] rfl rfl (any_of HT_.out (by kernel_rfl)) (fun _ _ _ h => h) (Or.inl ⟨by rfl, ?_⟩) ?_ ?_
                                                    rotate_left
                                                    · intro w'
                                                      go_simp
                                                      with_reducible rfl
                                                    rotate_left
                                                    · simp only [Act.put, List.setIfInBounds_toArray, List.set_cons_zero, List.set_cons_succ, i64_w, i32_w]
                                                      rfl
                                                    refine one_ (i := 19) (N := some 102) #[true, true, true, true, true, true, true, true, true, true, true, true, true, true, true, true, true, true, true, true, false, false] rfl rfl (one_of HT_.out (by kernel_rfl)) (by decide) (fun K hK => ?_)
                                                    refine Kd.R_lit_step k36 _ 36 ?hg (N := 102) ?hd (xs := ([(⟨(rd_T33 t227 0).f0, x12_2⟩ : S36), (⟨(rd_T33 t227 1).f0, x13_3⟩ : S36), (⟨(rd_T33 t227 2).f0, x14_4⟩ : S36)] : List (S36))) (inner := [.string ((rd_T33 t227 0).f0), .int .i64 x12_2, .string ((rd_T33 t227 1).f0), .int .i64 x13_3, .string ((rd_T33 t227 2).f0), .int .i64 x14_4]) (ok := fun _ => True) (okp := fun _ => True) ?hr ?hp (fun _ hk => hk) trivial (Below.refl _ _) (Nat.le_refl _) (by simp) ?_; (case hd => rfl); (case hg => rfl); (case hr => first | (go_simp; done) | (go_simp; rfl)); (case hp => exact (Reps.c2 (show Kd.M k36 _ _ _ (⟨(rd_T33 t227 0).f0, x12_2⟩ : S36) [.string ((rd_T33 t227 0).f0), .int .i64 x12_2] from (k36_mkM _ _ _ (⟨(rd_T33 t227 0).f0, x12_2⟩ : S36) )) (Reps.c2 (show Kd.M k36 _ _ _ (⟨(rd_T33 t227 1).f0, x13_3⟩ : S36) [.string ((rd_T33 t227 1).f0), .int .i64 x13_3] from (k36_mkM _ _ _ (⟨(rd_T33 t227 1).f0, x13_3⟩ : S36) )) (Reps.c2 (show Kd.M k36 _ _ _ (⟨(rd_T33 t227 2).f0, x14_4⟩ : S36) [.string ((rd_T33 t227 2).f0), .int .i64 x14_4] from (k36_mkM _ _ _ (⟨(rd_T33 t227 2).f0, x14_4⟩ : S36) )) (Reps.none _ _)))))
                                                    intro v245 w47 ho48 hb hg_ hnew_
                                                    have HS2_ := (hb.cell (World.block_lt_of_cell? _ _ (hHeld.2.2.1))).trans (hHeld.2.2.1)
                                                    have HS3_ := (hb.cell (World.block_lt_of_cell? _ _ (hHeld.2.2.2.1))).trans (hHeld.2.2.2.1)
                                                    have HS4_ := (hb.cell (World.block_lt_of_cell? _ _ (hHeld.2.2.2.2.1))).trans (hHeld.2.2.2.2.1)
                                                    have HS5_ := (hb.cell (World.block_lt_of_cell? _ _ (hHeld.2.2.2.2.2.1))).trans (hHeld.2.2.2.2.2.1)
                                                    have HS6_ := (hb.cell (World.block_lt_of_cell? _ _ (hHeld.2.2.2.2.2.2.1))).trans (hHeld.2.2.2.2.2.2.1)
                                                    have HS7_ := (hb.cell (World.block_lt_of_cell? _ _ (hHeld.2.2.2.2.2.2.2.1))).trans (hHeld.2.2.2.2.2.2.2.1)
                                                    have HS8_ := (hb.cell (World.block_lt_of_cell? _ _ (hHeld.2.2.2.2.2.2.2.2.1))).trans (hHeld.2.2.2.2.2.2.2.2.1)
                                                    have HS9_ := (hb.cell (World.block_lt_of_cell? _ _ (hHeld.2.2.2.2.2.2.2.2.2.1))).trans (hHeld.2.2.2.2.2.2.2.2.2.1)
                                                    have HS10_ := (hb.cell (World.block_lt_of_cell? _ _ (hHeld.2.2.2.2.2.2.2.2.2.2))).trans (hHeld.2.2.2.2.2.2.2.2.2.2)
                                                    clear hg_ hnew_
                                                    (first | rw [← Ny244.out] at ho48 | (simp only [Int.reduceToNat] at ho48; rw [← Ny244.out] at ho48))
                                                    have n0_ := Aside0.mk (Kd.R_below (by (with_reducible repeat (first | apply Kd.R_alloc | apply Kd.R_drewN | apply Kd.R_drew)); exact HO_4.out) hb)
                                                    have n1_ := Aside0.mk (Kd.R_below (by (with_reducible repeat (first | apply Kd.R_alloc | apply Kd.R_drewN | apply Kd.R_drew)); exact HO_231001.out) hb)
                                                    have n2_ := Aside0.mk (Kd.R_lower ho48 (below_size (by repeat (first | (with_reducible first | exact HB.out | apply below_alloc | apply pw_below_drewN | apply below_drew1 | refine below_set ?_ GE230.out) | exact HB.out))))
                                                    have n3_ := Aside0.mk (blk_below (g := gb230) (o := .cells #[.int .i64 t223, .slice Ao11 t224.length co11] 26 (0, 0)) (by (with_reducible repeat (first | refine blk_drewN ?_ _ | refine blk_drew ?_ | refine blk_alloc ?_ _)); exact BK230.out) hb)
                                                    have n4_ := Aside0.mk (below_step (by repeat (first | (with_reducible first | exact HB.out | apply below_alloc | apply pw_below_drewN | apply below_drew1 | refine below_set ?_ GE230.out) | exact HB.out)) hb)
                                                    clear HO_4
                                                    clear HO_231001
                                                    clear BK230
                                                    clear HB
                                                    have HO_4 := n0_
                                                    have HO_231001 := n1_
                                                    have HO246 := n2_
                                                    have BK230 := n3_
                                                    have HB := n4_
                                                    clear n0_ n1_ n2_ n3_ n4_
                                                    clear hb ho48
                                                    obtain ⟨Ao49, co49, eo49⟩ := Kd.R_slice HO246.out
                                                    (first | subst eo49 | (injection eo49 with f1_ f2_ f3_; have f4_ := f1_.symm; have f5_ := f3_.symm; clear f1_ f2_ f3_; subst f4_; subst f5_))
                                                    refine hK.out _ _ ⟨(blk_cell BK230.out 0).trans rfl, (blk_cell BK230.out 1).trans rfl, HS2_, HS3_, HS4_, HS5_, HS6_, HS7_, HS8_, HS9_, HS10_⟩ (fun hHeld => ?_)
                                                    clear hK K
                                                    refine norm_ (a' := ?_) ?_ ?_
                                                    rotate_left
                                                    · show Act.put _ (some 102) _ = _
                                                      simp only [Act.put, List.setIfInBounds_toArray, List.set_cons_zero, List.set_cons_succ, i64_w, i32_w]
                                                      rfl
                                                    refine one_ (i := 20) (N := some 103) #[true, true, true, true, true, true, true, true, true, true, true, true, true, true, true, true, true, true, true, true, true, false] rfl rfl (one_of HT_.out (by kernel_rfl)) (by decide) (fun K hK => ?_)
                                                    refine goes_ Try.func13 (by kernel_rfl) rfl #[.agg #[.int .i64 t223, .slice Ao11 t224.length co11], .slice Ao49 y244.length co49] (by rfl) rfl rfl (by (try simp only [List.map_toArray, List.map_cons, List.map_nil]); first | done | rfl | (simp only [List.length_drop, List.length_take]; rfl)) ?_
                                                    with_reducible refine (impl_AffAt.calls k4 t223 _ _ t224 _ _ y244 t247 _ ?side1 ?side2 ?side3 ?side4 A30.out).mono ?_
                                                    (case side1 => repeat (first | exact (Kd.R_reads' HO_231001.out).2.2 | (with_reducible refine Kd.C_alloc ?_ _) | (with_reducible refine Kd.C_drewN ?_ _) | (with_reducible refine Kd.C_drew ?_)))
                                                    (case side2 => exact (Kd.R_reads' HO_231001.out).2.1)
                                                    (case side3 => repeat (first | exact (Kd.R_reads' HO246.out).2.2 | (with_reducible refine Kd.C_alloc ?_ _) | (with_reducible refine Kd.C_drewN ?_ _) | (with_reducible refine Kd.C_drew ?_)))
                                                    (case side4 => exact (Kd.R_reads' HO246.out).2.1)
                                                    rintro e w50 ⟨rfl, hb⟩
                                                    have HS2_ := (hb.cell (World.block_lt_of_cell? _ _ (hHeld.2.2.1))).trans (hHeld.2.2.1)
                                                    have HS3_ := (hb.cell (World.block_lt_of_cell? _ _ (hHeld.2.2.2.1))).trans (hHeld.2.2.2.1)
                                                    have HS4_ := (hb.cell (World.block_lt_of_cell? _ _ (hHeld.2.2.2.2.1))).trans (hHeld.2.2.2.2.1)
                                                    have HS5_ := (hb.cell (World.block_lt_of_cell? _ _ (hHeld.2.2.2.2.2.1))).trans (hHeld.2.2.2.2.2.1)
                                                    have HS6_ := (hb.cell (World.block_lt_of_cell? _ _ (hHeld.2.2.2.2.2.2.1))).trans (hHeld.2.2.2.2.2.2.1)
                                                    have HS7_ := (hb.cell (World.block_lt_of_cell? _ _ (hHeld.2.2.2.2.2.2.2.1))).trans (hHeld.2.2.2.2.2.2.2.1)
                                                    have HS8_ := (hb.cell (World.block_lt_of_cell? _ _ (hHeld.2.2.2.2.2.2.2.2.1))).trans (hHeld.2.2.2.2.2.2.2.2.1)
                                                    have HS9_ := (hb.cell (World.block_lt_of_cell? _ _ (hHeld.2.2.2.2.2.2.2.2.2.1))).trans (hHeld.2.2.2.2.2.2.2.2.2.1)
                                                    have HS10_ := (hb.cell (World.block_lt_of_cell? _ _ (hHeld.2.2.2.2.2.2.2.2.2.2))).trans (hHeld.2.2.2.2.2.2.2.2.2.2)
                                                    refine ⟨_, rfl, ?_⟩
                                                    have n0_ := Aside0.mk (Kd.R_below (by (with_reducible repeat (first | apply Kd.R_alloc | apply Kd.R_drewN | apply Kd.R_drew)); exact HO_4.out) hb)
                                                    have n1_ := Aside0.mk (Kd.R_below (by (with_reducible repeat (first | apply Kd.R_alloc | apply Kd.R_drewN | apply Kd.R_drew)); exact HO_231001.out) hb)
                                                    have n2_ := Aside0.mk (Kd.R_below (by (with_reducible repeat (first | apply Kd.R_alloc | apply Kd.R_drewN | apply Kd.R_drew)); exact HO246.out) hb)
                                                    have n3_ := Aside0.mk (blk_below (g := gb230) (o := .cells #[.int .i64 t223, .slice Ao11 t224.length co11] 26 (0, 0)) (by (with_reducible repeat (first | refine blk_drewN ?_ _ | refine blk_drew ?_ | refine blk_alloc ?_ _)); exact BK230.out) hb)
                                                    have n4_ := Aside0.mk (below_step (by repeat (first | (with_reducible first | exact HB.out | apply below_alloc | apply pw_below_drewN | apply below_drew1 | refine below_set ?_ GE230.out) | exact HB.out)) hb)
                                                    clear HO_4
                                                    clear HO_231001
                                                    clear HO246
                                                    clear BK230
                                                    clear HB
                                                    have HO_4 := n0_
                                                    have HO_231001 := n1_
                                                    have HO246 := n2_
                                                    have BK230 := n3_
                                                    have HB := n4_
                                                    clear n0_ n1_ n2_ n3_ n4_
                                                    (try clear hb)
                                                    (try clear hb2)
                                                    (try clear hk)
                                                    (try clear hi)
                                                    refine hK.out _ _ ⟨(blk_cell BK230.out 0).trans rfl, (blk_cell BK230.out 1).trans rfl, HS2_, HS3_, HS4_, HS5_, HS6_, HS7_, HS8_, HS9_, HS10_⟩ (fun hHeld => ?_)
                                                    clear hK K
                                                    refine norm_ (a' := ?_) ?_ ?_
                                                    rotate_left
                                                    · show Act.put _ (some 103) _ = _
                                                      simp only [Act.put, List.setIfInBounds_toArray, List.set_cons_zero, List.set_cons_succ, i64_w, i32_w]
                                                      rfl
                                                    refine pure_ (i := 21) (N := some 15) (v := ?_) (a' := ?_) #[true, true, true, true, true, true, true, true, true, true, true, true, true, true, true, true, true, true, true, true, true, true] rfl rfl (any_of HT_.out (by kernel_rfl)) (fun _ _ _ h => h) (Or.inl ⟨by rfl, ?_⟩) ?_ ?_
                                                    rotate_left
                                                    · intro w'
                                                      go_simp
                                                      with_reducible rfl
                                                    rotate_left
                                                    · simp only [Act.put, List.setIfInBounds_toArray, List.set_cons_zero, List.set_cons_succ, i64_w, i32_w]
                                                      rfl
                                                    refine done_ (done_of HT_.out (by kernel_rfl)) ?_
                                                    try go_wp2
                                                    go_roundg k4
                                                    case measure => have := HJ6.out; have := HK2.out; have := HK3.out; have := HK4.out; omega
                                                    case rel => exact ⟨((t247 == t231)), (true), (wrap64 (x11_4 + 1)), (wrap64 (x14_4 + 1)), (by first | rfl | (simp; done) | (simp [*]; done)), (by first | rfl | (simp; done) | (simp [*]; done)), (by first | rfl | (simp; done) | (simp [*]; done)), (by first | rfl | (simp; done) | (simp [*]; done)), H', ⟨by have := HJ6.out; have := HK2.out; have := HK3.out; have := HK4.out; omega⟩, ⟨by (with_reducible repeat (first | apply Kd.R_alloc | apply Kd.R_drewN | apply Kd.R_drew)); exact HO_4.out⟩, ⟨by (with_reducible repeat (first | apply Kd.R_alloc | apply Kd.R_drewN | apply Kd.R_drew)); exact HO_231001.out⟩, ⟨by (with_reducible repeat (first | refine blk_drewN ?_ _ | refine blk_drew ?_ | refine blk_alloc ?_ _)); exact BK230.out⟩, ⟨by repeat (first | (with_reducible first | exact HB.out | apply below_alloc | apply pw_below_drewN | apply below_drew1 | refine below_set ?_ GE230.out) | exact HB.out)⟩⟩
                                                  · replace c45 := Bool.eq_false_iff.mpr c45
                                                    subst c45
                                                    have H1 : (laws_FnBoxes.l2 k4 l0 t227 t231 t233 (t247 == t231) (t247 == t233) (wrap64 (x11_4 + 1)) x12_2 x13_3 (wrap64 (x14_4 + 1)) t223 t224) = some r := by rw [if_neg (show ¬ (false = true) by decide)] at H; exact H
                                                    clear H
                                                    have H := H1
                                                    clear H1
                                                    have H' := Aside0.mk H
                                                    clear H
                                                    have p240 : 0 ≤ (2 : Int) := (by omega)
                                                    have q240 : 2 < (t227.length : Int) := of_decide_eq_true (by first | (with_reducible assumption) | assumption)
                                                    obtain ⟨ad240, e240, hx240_0, hx240_1, hx240_2⟩ := at_T33 (Kd.R_reads' HO_4.out).2.2 2 p240 q240
                                                    obtain rfl : ad235 = ad240 := (by injection e240)
                                                    (try simp only [show (2 : Int).toNat = 2 from rfl, Nat.reduceMul, Nat.reduceEqDiff, Go.Addr.add, ↓reduceIte] at hx240_0)
                                                    (try simp only [show (2 : Int).toNat = 2 from rfl, Nat.reduceMul, Nat.reduceEqDiff, Go.Addr.add, ↓reduceIte] at hx240_1)
                                                    (try simp only [show (2 : Int).toNat = 2 from rfl, Nat.reduceMul, Nat.reduceEqDiff, Go.Addr.add, ↓reduceIte] at hx240_2)
                                                    have qi240 : (2 < t227.length) = True := eq_true (by omega)
                                                    (try rw [show ((2 : Int)).toNat = 2 from rfl] at hx240_0)
                                                    (try rw [show 2 * 3 = 6 from rfl] at hx240_0)
                                                    (try rw [show ((2 : Int)).toNat = 2 from rfl] at hx240_1)
                                                    (try rw [show 2 * 3 = 6 from rfl] at hx240_1)
                                                    (try rw [show ((2 : Int)).toNat = 2 from rfl] at hx240_2)
                                                    (try rw [show 2 * 3 = 6 from rfl] at hx240_2)
                                                    replace p240 := eq_true p240
                                                    replace q240 := eq_true q240
                                                    try go_wp2
                                                    have n0_ := Aside0.mk (Kd.R_drew HO_4.out)
                                                    have n1_ := Aside0.mk (Kd.R_drew HO_231001.out)
                                                    have n2_ := Aside0.mk (blk_drew BK230.out)
                                                    have n3_ := Aside0.mk (below_drew1 HB.out)
                                                    clear HO_4
                                                    clear HO_231001
                                                    clear BK230
                                                    clear HB
                                                    have HO_4 := n0_
                                                    have HO_231001 := n1_
                                                    have BK230 := n2_
                                                    have HB := n3_
                                                    clear n0_ n1_ n2_ n3_
                                                    have p241 : 0 ≤ (0 : Int) := (by omega)
                                                    have q241 : 0 < (t227.length : Int) := of_decide_eq_true (by first | (with_reducible assumption) | assumption)
                                                    obtain ⟨ad241, e241, hx241_0, hx241_1, hx241_2⟩ := at_T33 (Kd.R_reads' HO_4.out).2.2 0 p241 q241
                                                    obtain rfl : ad235 = ad241 := (by injection e241)
                                                    have qi241 : (0 < t227.length) = True := eq_true (by omega)
                                                    (try rw [show ((0 : Int)).toNat = 0 from rfl] at hx241_0)
                                                    (try rw [show 0 * 3 = 0 from rfl] at hx241_0)
                                                    (try rw [Addr.add_zero'] at hx241_0)
                                                    (try rw [show ((0 : Int)).toNat = 0 from rfl] at hx241_1)
                                                    (try rw [show 0 * 3 = 0 from rfl] at hx241_1)
                                                    (try rw [Addr.add_zero'] at hx241_1)
                                                    (try rw [show ((0 : Int)).toNat = 0 from rfl] at hx241_2)
                                                    (try rw [show 0 * 3 = 0 from rfl] at hx241_2)
                                                    (try rw [Addr.add_zero'] at hx241_2)
                                                    replace p241 := eq_true p241
                                                    replace q241 := eq_true q241
                                                    have p242 : 0 ≤ (1 : Int) := (by omega)
                                                    have q242 : 1 < (t227.length : Int) := of_decide_eq_true (by first | (with_reducible assumption) | assumption)
                                                    obtain ⟨ad242, e242, hx242_0, hx242_1, hx242_2⟩ := at_T33 (Kd.R_reads' HO_4.out).2.2 1 p242 q242
                                                    obtain rfl : ad235 = ad242 := (by injection e242)
                                                    (try simp only [show (1 : Int).toNat = 1 from rfl, Nat.reduceMul, Nat.reduceEqDiff, Go.Addr.add, ↓reduceIte] at hx242_0)
                                                    (try simp only [show (1 : Int).toNat = 1 from rfl, Nat.reduceMul, Nat.reduceEqDiff, Go.Addr.add, ↓reduceIte] at hx242_1)
                                                    (try simp only [show (1 : Int).toNat = 1 from rfl, Nat.reduceMul, Nat.reduceEqDiff, Go.Addr.add, ↓reduceIte] at hx242_2)
                                                    have qi242 : (1 < t227.length) = True := eq_true (by omega)
                                                    (try rw [show ((1 : Int)).toNat = 1 from rfl] at hx242_0)
                                                    (try rw [show 1 * 3 = 3 from rfl] at hx242_0)
                                                    (try rw [show ((1 : Int)).toNat = 1 from rfl] at hx242_1)
                                                    (try rw [show 1 * 3 = 3 from rfl] at hx242_1)
                                                    (try rw [show ((1 : Int)).toNat = 1 from rfl] at hx242_2)
                                                    (try rw [show 1 * 3 = 3 from rfl] at hx242_2)
                                                    replace p242 := eq_true p242
                                                    replace q242 := eq_true q242
                                                    have p243 : 0 ≤ (2 : Int) := (by omega)
                                                    have q243 : 2 < (t227.length : Int) := of_decide_eq_true (by first | (with_reducible assumption) | assumption)
                                                    obtain ⟨ad243, e243, hx243_0, hx243_1, hx243_2⟩ := at_T33 (Kd.R_reads' HO_4.out).2.2 2 p243 q243
                                                    obtain rfl : ad235 = ad243 := (by injection e243)
                                                    (try simp only [show (2 : Int).toNat = 2 from rfl, Nat.reduceMul, Nat.reduceEqDiff, Go.Addr.add, ↓reduceIte] at hx243_0)
                                                    (try simp only [show (2 : Int).toNat = 2 from rfl, Nat.reduceMul, Nat.reduceEqDiff, Go.Addr.add, ↓reduceIte] at hx243_1)
                                                    (try simp only [show (2 : Int).toNat = 2 from rfl, Nat.reduceMul, Nat.reduceEqDiff, Go.Addr.add, ↓reduceIte] at hx243_2)
                                                    have qi243 : (2 < t227.length) = True := eq_true (by omega)
                                                    (try rw [show ((2 : Int)).toNat = 2 from rfl] at hx243_0)
                                                    (try rw [show 2 * 3 = 6 from rfl] at hx243_0)
                                                    (try rw [show ((2 : Int)).toNat = 2 from rfl] at hx243_1)
                                                    (try rw [show 2 * 3 = 6 from rfl] at hx243_1)
                                                    (try rw [show ((2 : Int)).toNat = 2 from rfl] at hx243_2)
                                                    (try rw [show 2 * 3 = 6 from rfl] at hx243_2)
                                                    replace p243 := eq_true p243
                                                    replace q243 := eq_true q243
                                                    refine start_ (n := 22) (S := fun w' => w'.cell? ⟨gb230, 0, none⟩ = some (.int .i64 t223) ∧ w'.cell? ⟨gb230, 1, none⟩ = some (.slice Ao11 t224.length co11) ∧ w'.cell? ad235 = some (.string ((rd_T33 t227 0).f0)) ∧ w'.cell? ⟨ad235.block, ad235.off + 1, none⟩ = some (.int .i64 ((rd_T33 t227 0).f1)) ∧ w'.cell? ⟨ad235.block, ad235.off + 2, none⟩ = some (.int .i64 ((rd_T33 t227 0).f2)) ∧ w'.cell? ⟨ad235.block, ad235.off + 3, none⟩ = some (.string ((rd_T33 t227 1).f0)) ∧ w'.cell? ⟨ad235.block, ad235.off + 3 + 1, none⟩ = some (.int .i64 ((rd_T33 t227 1).f1)) ∧ w'.cell? ⟨ad235.block, ad235.off + 3 + 2, none⟩ = some (.int .i64 ((rd_T33 t227 1).f2)) ∧ w'.cell? ⟨ad235.block, ad235.off + 6, none⟩ = some (.string ((rd_T33 t227 2).f0)) ∧ w'.cell? ⟨ad235.block, ad235.off + 6 + 1, none⟩ = some (.int .i64 ((rd_T33 t227 2).f1)) ∧ w'.cell? ⟨ad235.block, ad235.off + 6 + 2, none⟩ = some (.int .i64 ((rd_T33 t227 2).f2))) (ds := []) #[false, false, false, false, false, false, false, false, false, false, false, false, false, false, false, false, false, false, false, false, false, false] (by kernel_rfl) rfl rfl ⟨(blk_cell BK230.out 0).trans rfl, (blk_cell BK230.out 1).trans rfl, hx241_0, hx241_1, hx241_2, hx242_0, hx242_1, hx242_2, hx243_0, hx243_1, hx243_2⟩ (fun hHeld => ?_); refine with_tabW laws_FnBoxes.tab20 laws_FnBoxes.bits20 (fun HT_ HW_ => ?_)
                                                    generalize wr.drew = w51 at HO_4 HO_231001 BK230 HB hx241_0 hx241_1 hx241_2 hx242_0 hx242_1 hx242_2 hx243_0 hx243_1 hx243_2 hHeld ⊢
                                                    refine pure_ (i := 1) (N := some 84) (v := ?_) (a' := ?_) #[false, true, false, false, false, false, false, false, false, false, false, false, false, false, false, false, false, false, false, false, false, false] rfl rfl (any_of HT_.out (by kernel_rfl)) (fun _ _ _ h => h) (Or.inl ⟨by rfl, ?_⟩) ?_ ?_
                                                    rotate_left
                                                    · intro w'
                                                      go_simp
                                                      with_reducible rfl
                                                    rotate_left
                                                    · simp only [Act.put, List.setIfInBounds_toArray, List.set_cons_zero, List.set_cons_succ, i64_w, i32_w]
                                                      rfl
                                                    refine pure_ (i := 2) (N := some 85) (v := ?_) (a' := ?_) #[false, true, true, false, false, false, false, false, false, false, false, false, false, false, false, false, false, false, false, false, false, false] rfl rfl (any_of HT_.out (by kernel_rfl)) (fun _ _ _ h => h) (Or.inl ⟨by rfl, ?_⟩) ?_ ?_
                                                    rotate_left
                                                    · intro w'
                                                      go_simp
                                                      with_reducible rfl
                                                    rotate_left
                                                    · simp only [Act.put, List.setIfInBounds_toArray, List.set_cons_zero, List.set_cons_succ, i64_w, i32_w]
                                                      rfl
                                                    refine pure_ (i := 3) (N := some 86) (v := ?_) (a' := ?_) #[false, true, true, true, false, false, false, false, false, false, false, false, false, false, false, false, false, false, false, false, false, false] rfl rfl (any_of HT_.out (by kernel_rfl)) (fun _ _ _ h => h) (Or.inl ⟨by rfl, ?_⟩) ?_ ?_
                                                    rotate_left
                                                    · intro w'
                                                      go_simp
                                                      with_reducible rfl
                                                    rotate_left
                                                    · simp only [Act.put, List.setIfInBounds_toArray, List.set_cons_zero, List.set_cons_succ, i64_w, i32_w]
                                                      rfl
                                                    refine pure_ (i := 5) (N := some 88) (v := ?_) (a' := ?_) #[false, true, true, true, false, true, false, false, false, false, false, false, false, false, false, false, false, false, false, false, false, false] rfl rfl (any_of HT_.out (by kernel_rfl)) (fun _ _ _ h => h) (Or.inl ⟨by rfl, ?_⟩) ?_ ?_
                                                    rotate_left
                                                    · intro w'
                                                      go_simp
                                                      with_reducible rfl
                                                    rotate_left
                                                    · simp only [Act.put, List.setIfInBounds_toArray, List.set_cons_zero, List.set_cons_succ, i64_w, i32_w]
                                                      rfl
                                                    refine pure_ (i := 7) (N := some 90) (v := ?_) (a' := ?_) #[false, true, true, true, false, true, false, true, false, false, false, false, false, false, false, false, false, false, false, false, false, false] rfl rfl (any_of HT_.out (by kernel_rfl)) (fun _ _ _ h => h) (Or.inl ⟨by rfl, ?_⟩) ?_ ?_
                                                    rotate_left
                                                    · intro w'
                                                      go_simp
                                                      with_reducible rfl
                                                    rotate_left
                                                    · simp only [Act.put, List.setIfInBounds_toArray, List.set_cons_zero, List.set_cons_succ, i64_w, i32_w]
                                                      rfl
                                                    refine pure_ (i := 8) (N := some 91) (v := ?_) (a' := ?_) #[false, true, true, true, false, true, false, true, true, false, false, false, false, false, false, false, false, false, false, false, false, false] rfl rfl (any_of HT_.out (by kernel_rfl)) (fun _ _ _ h => h) (Or.inl ⟨by rfl, ?_⟩) ?_ ?_
                                                    rotate_left
                                                    · intro w'
                                                      go_simp
                                                      with_reducible rfl
                                                    rotate_left
                                                    · simp only [Act.put, List.setIfInBounds_toArray, List.set_cons_zero, List.set_cons_succ, i64_w, i32_w]
                                                      rfl
                                                    refine pure_ (i := 9) (N := some 92) (v := ?_) (a' := ?_) #[false, true, true, true, false, true, false, true, true, true, false, false, false, false, false, false, false, false, false, false, false, false] rfl rfl (any_of HT_.out (by kernel_rfl)) (fun _ _ _ h => h) (Or.inl ⟨by rfl, ?_⟩) ?_ ?_
                                                    rotate_left
                                                    · intro w'
                                                      go_simp
                                                      with_reducible rfl
                                                    rotate_left
                                                    · simp only [Act.put, List.setIfInBounds_toArray, List.set_cons_zero, List.set_cons_succ, i64_w, i32_w]
                                                      rfl
                                                    refine pure_ (i := 11) (N := some 94) (v := ?_) (a' := ?_) #[false, true, true, true, false, true, false, true, true, true, false, true, false, false, false, false, false, false, false, false, false, false] rfl rfl (any_of HT_.out (by kernel_rfl)) (fun _ _ _ h => h) (Or.inl ⟨by rfl, ?_⟩) ?_ ?_
                                                    rotate_left
                                                    · intro w'
                                                      go_simp
                                                      with_reducible rfl
                                                    rotate_left
                                                    · simp only [Act.put, List.setIfInBounds_toArray, List.set_cons_zero, List.set_cons_succ, i64_w, i32_w]
                                                      rfl
                                                    refine pure_ (i := 13) (N := some 96) (v := ?_) (a' := ?_) #[false, true, true, true, false, true, false, true, true, true, false, true, false, true, false, false, false, false, false, false, false, false] rfl rfl (any_of HT_.out (by kernel_rfl)) (fun _ _ _ h => h) (Or.inl ⟨by rfl, ?_⟩) ?_ ?_
                                                    rotate_left
                                                    · intro w'
                                                      go_simp
                                                      with_reducible rfl
                                                    rotate_left
                                                    · simp only [Act.put, List.setIfInBounds_toArray, List.set_cons_zero, List.set_cons_succ, i64_w, i32_w]
                                                      rfl
                                                    refine pure_ (i := 14) (N := some 97) (v := ?_) (a' := ?_) #[false, true, true, true, false, true, false, true, true, true, false, true, false, true, true, false, false, false, false, false, false, false] rfl rfl (any_of HT_.out (by kernel_rfl)) (fun _ _ _ h => h) (Or.inl ⟨by rfl, ?_⟩) ?_ ?_
                                                    rotate_left
                                                    · intro w'
                                                      go_simp
                                                      with_reducible rfl
                                                    rotate_left
                                                    · simp only [Act.put, List.setIfInBounds_toArray, List.set_cons_zero, List.set_cons_succ, i64_w, i32_w]
                                                      rfl
                                                    refine pure_ (i := 15) (N := some 98) (v := ?_) (a' := ?_) #[false, true, true, true, false, true, false, true, true, true, false, true, false, true, true, true, false, false, false, false, false, false] rfl rfl (any_of HT_.out (by kernel_rfl)) (fun _ _ _ h => h) (Or.inl ⟨by rfl, ?_⟩) ?_ ?_
                                                    rotate_left
                                                    · intro w'
                                                      go_simp
                                                      with_reducible rfl
                                                    rotate_left
                                                    · simp only [Act.put, List.setIfInBounds_toArray, List.set_cons_zero, List.set_cons_succ, i64_w, i32_w]
                                                      rfl
                                                    refine pure_ (i := 17) (N := some 100) (v := ?_) (a' := ?_) #[false, true, true, true, false, true, false, true, true, true, false, true, false, true, true, true, false, true, false, false, false, false] rfl rfl (any_of HT_.out (by kernel_rfl)) (fun _ _ _ h => h) (Or.inl ⟨by rfl, ?_⟩) ?_ ?_
                                                    rotate_left
                                                    · intro w'
                                                      go_simp
                                                      with_reducible rfl
                                                    rotate_left
                                                    · simp only [Act.put, List.setIfInBounds_toArray, List.set_cons_zero, List.set_cons_succ, i64_w, i32_w]
                                                      rfl
                                                    refine take_ (i := 0) (N := some 83) (v := ?_) (a' := ?_) #[true, true, true, true, false, true, false, true, true, true, false, true, false, true, true, true, false, true, false, false, false, false] rfl rfl (take_ofW HT_.out HW_.out (by kernel_rfl)) (fun _ _ _ h => h) (Or.inl ⟨by rfl, ?_⟩) hHeld ?_ ?_
                                                    rotate_left
                                                    · rintro w' ⟨s0, s1, s2, s3, s4, s5, s6, s7, s8, s9, s10⟩
                                                      go_simp
                                                      with_reducible rfl
                                                    rotate_left
                                                    · simp only [Act.put, List.setIfInBounds_toArray, List.set_cons_zero, List.set_cons_succ, i64_w, i32_w]
                                                      rfl
                                                    refine take_ (i := 4) (N := some 87) (v := ?_) (a' := ?_) #[true, true, true, true, true, true, false, true, true, true, false, true, false, true, true, true, false, true, false, false, false, false] rfl rfl (take_ofW HT_.out HW_.out (by kernel_rfl)) (fun _ _ _ h => h) (Or.inl ⟨by rfl, ?_⟩) hHeld ?_ ?_
                                                    rotate_left
                                                    · rintro w' ⟨s0, s1, s2, s3, s4, s5, s6, s7, s8, s9, s10⟩
                                                      go_simp
                                                      with_reducible rfl
                                                    rotate_left
                                                    · simp only [Act.put, List.setIfInBounds_toArray, List.set_cons_zero, List.set_cons_succ, i64_w, i32_w]
                                                      rfl
                                                    refine pure_ (i := 6) (N := some 89) (v := ?_) (a' := ?_) #[true, true, true, true, true, true, true, true, true, true, false, true, false, true, true, true, false, true, false, false, false, false] rfl rfl (any_of HT_.out (by kernel_rfl)) (fun _ _ _ h => h) (Or.inl ⟨by rfl, ?_⟩) ?_ ?_
                                                    rotate_left
                                                    · intro w'
                                                      go_simp
                                                      with_reducible rfl
                                                    rotate_left
                                                    · simp only [Act.put, List.setIfInBounds_toArray, List.set_cons_zero, List.set_cons_succ, i64_w, i32_w]
                                                      rfl
                                                    refine take_ (i := 10) (N := some 93) (v := ?_) (a' := ?_) #[true, true, true, true, true, true, true, true, true, true, true, true, false, true, true, true, false, true, false, false, false, false] rfl rfl (take_ofW HT_.out HW_.out (by kernel_rfl)) (fun _ _ _ h => h) (Or.inl ⟨by rfl, ?_⟩) hHeld ?_ ?_
                                                    rotate_left
                                                    · rintro w' ⟨s0, s1, s2, s3, s4, s5, s6, s7, s8, s9, s10⟩
                                                      go_simp
                                                      with_reducible rfl
                                                    rotate_left
                                                    · simp only [Act.put, List.setIfInBounds_toArray, List.set_cons_zero, List.set_cons_succ, i64_w, i32_w]
                                                      rfl
                                                    refine pure_ (i := 12) (N := some 95) (v := ?_) (a' := ?_) #[true, true, true, true, true, true, true, true, true, true, true, true, true, true, true, true, false, true, false, false, false, false] rfl rfl (any_of HT_.out (by kernel_rfl)) (fun _ _ _ h => h) (Or.inl ⟨by rfl, ?_⟩) ?_ ?_
                                                    rotate_left
                                                    · intro w'
                                                      go_simp
                                                      with_reducible rfl
                                                    rotate_left
                                                    · simp only [Act.put, List.setIfInBounds_toArray, List.set_cons_zero, List.set_cons_succ, i64_w, i32_w]
                                                      rfl
                                                    refine take_ (i := 16) (N := some 99) (v := ?_) (a' := ?_) #[true, true, true, true, true, true, true, true, true, true, true, true, true, true, true, true, true, true, false, false, false, false] rfl rfl (take_ofW HT_.out HW_.out (by kernel_rfl)) (fun _ _ _ h => h) (Or.inl ⟨by rfl, ?_⟩) hHeld ?_ ?_
                                                    rotate_left
                                                    · rintro w' ⟨s0, s1, s2, s3, s4, s5, s6, s7, s8, s9, s10⟩
                                                      go_simp
                                                      with_reducible rfl
                                                    rotate_left
                                                    · simp only [Act.put, List.setIfInBounds_toArray, List.set_cons_zero, List.set_cons_succ, i64_w, i32_w]
                                                      rfl
                                                    refine pure_ (i := 18) (N := some 101) (v := ?_) (a' := ?_) #[true, true, true, true, true, true, true, true, true, true, true, true, true, true, true, true, true, true, true, false, false, false] rfl rfl (any_of HT_.out (by kernel_rfl)) (fun _ _ _ h => h) (Or.inl ⟨by rfl, ?_⟩) ?_ ?_
                                                    rotate_left
                                                    · intro w'
                                                      go_simp
                                                      with_reducible rfl
                                                    rotate_left
                                                    · simp only [Act.put, List.setIfInBounds_toArray, List.set_cons_zero, List.set_cons_succ, i64_w, i32_w]
                                                      rfl
                                                    refine one_ (i := 19) (N := some 102) #[true, true, true, true, true, true, true, true, true, true, true, true, true, true, true, true, true, true, true, true, false, false] rfl rfl (one_of HT_.out (by kernel_rfl)) (by decide) (fun K hK => ?_)
                                                    refine Kd.R_lit_step k36 _ 36 ?hg (N := 102) ?hd (xs := ([(⟨(rd_T33 t227 0).f0, x12_2⟩ : S36), (⟨(rd_T33 t227 1).f0, x13_3⟩ : S36), (⟨(rd_T33 t227 2).f0, x14_4⟩ : S36)] : List (S36))) (inner := [.string ((rd_T33 t227 0).f0), .int .i64 x12_2, .string ((rd_T33 t227 1).f0), .int .i64 x13_3, .string ((rd_T33 t227 2).f0), .int .i64 x14_4]) (ok := fun _ => True) (okp := fun _ => True) ?hr ?hp (fun _ hk => hk) trivial (Below.refl _ _) (Nat.le_refl _) (by simp) ?_; (case hd => rfl); (case hg => rfl); (case hr => first | (go_simp; done) | (go_simp; rfl)); (case hp => exact (Reps.c2 (show Kd.M k36 _ _ _ (⟨(rd_T33 t227 0).f0, x12_2⟩ : S36) [.string ((rd_T33 t227 0).f0), .int .i64 x12_2] from (k36_mkM _ _ _ (⟨(rd_T33 t227 0).f0, x12_2⟩ : S36) )) (Reps.c2 (show Kd.M k36 _ _ _ (⟨(rd_T33 t227 1).f0, x13_3⟩ : S36) [.string ((rd_T33 t227 1).f0), .int .i64 x13_3] from (k36_mkM _ _ _ (⟨(rd_T33 t227 1).f0, x13_3⟩ : S36) )) (Reps.c2 (show Kd.M k36 _ _ _ (⟨(rd_T33 t227 2).f0, x14_4⟩ : S36) [.string ((rd_T33 t227 2).f0), .int .i64 x14_4] from (k36_mkM _ _ _ (⟨(rd_T33 t227 2).f0, x14_4⟩ : S36) )) (Reps.none _ _)))))
                                                    intro v245 w52 ho53 hb hg_ hnew_
                                                    have HS2_ := (hb.cell (World.block_lt_of_cell? _ _ (hHeld.2.2.1))).trans (hHeld.2.2.1)
                                                    have HS3_ := (hb.cell (World.block_lt_of_cell? _ _ (hHeld.2.2.2.1))).trans (hHeld.2.2.2.1)
                                                    have HS4_ := (hb.cell (World.block_lt_of_cell? _ _ (hHeld.2.2.2.2.1))).trans (hHeld.2.2.2.2.1)
                                                    have HS5_ := (hb.cell (World.block_lt_of_cell? _ _ (hHeld.2.2.2.2.2.1))).trans (hHeld.2.2.2.2.2.1)
                                                    have HS6_ := (hb.cell (World.block_lt_of_cell? _ _ (hHeld.2.2.2.2.2.2.1))).trans (hHeld.2.2.2.2.2.2.1)
                                                    have HS7_ := (hb.cell (World.block_lt_of_cell? _ _ (hHeld.2.2.2.2.2.2.2.1))).trans (hHeld.2.2.2.2.2.2.2.1)
                                                    have HS8_ := (hb.cell (World.block_lt_of_cell? _ _ (hHeld.2.2.2.2.2.2.2.2.1))).trans (hHeld.2.2.2.2.2.2.2.2.1)
                                                    have HS9_ := (hb.cell (World.block_lt_of_cell? _ _ (hHeld.2.2.2.2.2.2.2.2.2.1))).trans (hHeld.2.2.2.2.2.2.2.2.2.1)
                                                    have HS10_ := (hb.cell (World.block_lt_of_cell? _ _ (hHeld.2.2.2.2.2.2.2.2.2.2))).trans (hHeld.2.2.2.2.2.2.2.2.2.2)
                                                    clear hg_ hnew_
                                                    (first | rw [← Ny244.out] at ho53 | (simp only [Int.reduceToNat] at ho53; rw [← Ny244.out] at ho53))
                                                    have n0_ := Aside0.mk (Kd.R_below (by (with_reducible repeat (first | apply Kd.R_alloc | apply Kd.R_drewN | apply Kd.R_drew)); exact HO_4.out) hb)
                                                    have n1_ := Aside0.mk (Kd.R_below (by (with_reducible repeat (first | apply Kd.R_alloc | apply Kd.R_drewN | apply Kd.R_drew)); exact HO_231001.out) hb)
                                                    have n2_ := Aside0.mk (Kd.R_lower ho53 (below_size (by repeat (first | (with_reducible first | exact HB.out | apply below_alloc | apply pw_below_drewN | apply below_drew1 | refine below_set ?_ GE230.out) | exact HB.out))))
                                                    have n3_ := Aside0.mk (blk_below (g := gb230) (o := .cells #[.int .i64 t223, .slice Ao11 t224.length co11] 26 (0, 0)) (by (with_reducible repeat (first | refine blk_drewN ?_ _ | refine blk_drew ?_ | refine blk_alloc ?_ _)); exact BK230.out) hb)
                                                    have n4_ := Aside0.mk (below_step (by repeat (first | (with_reducible first | exact HB.out | apply below_alloc | apply pw_below_drewN | apply below_drew1 | refine below_set ?_ GE230.out) | exact HB.out)) hb)
                                                    clear HO_4
                                                    clear HO_231001
                                                    clear BK230
                                                    clear HB
                                                    have HO_4 := n0_
                                                    have HO_231001 := n1_
                                                    have HO246 := n2_
                                                    have BK230 := n3_
                                                    have HB := n4_
                                                    clear n0_ n1_ n2_ n3_ n4_
                                                    clear hb ho53
                                                    obtain ⟨Ao54, co54, eo54⟩ := Kd.R_slice HO246.out
                                                    (first | subst eo54 | (injection eo54 with f1_ f2_ f3_; have f4_ := f1_.symm; have f5_ := f3_.symm; clear f1_ f2_ f3_; subst f4_; subst f5_))
                                                    refine hK.out _ _ ⟨(blk_cell BK230.out 0).trans rfl, (blk_cell BK230.out 1).trans rfl, HS2_, HS3_, HS4_, HS5_, HS6_, HS7_, HS8_, HS9_, HS10_⟩ (fun hHeld => ?_)
                                                    clear hK K
                                                    refine norm_ (a' := ?_) ?_ ?_
                                                    rotate_left
                                                    · show Act.put _ (some 102) _ = _
                                                      simp only [Act.put, List.setIfInBounds_toArray, List.set_cons_zero, List.set_cons_succ, i64_w, i32_w]
                                                      rfl
                                                    refine one_ (i := 20) (N := some 103) #[true, true, true, true, true, true, true, true, true, true, true, true, true, true, true, true, true, true, true, true, true, false] rfl rfl (one_of HT_.out (by kernel_rfl)) (by decide) (fun K hK => ?_)
                                                    refine goes_ Try.func13 (by kernel_rfl) rfl #[.agg #[.int .i64 t223, .slice Ao11 t224.length co11], .slice Ao54 y244.length co54] (by rfl) rfl rfl (by (try simp only [List.map_toArray, List.map_cons, List.map_nil]); first | done | rfl | (simp only [List.length_drop, List.length_take]; rfl)) ?_
                                                    with_reducible refine (impl_AffAt.calls k4 t223 _ _ t224 _ _ y244 t247 _ ?side1 ?side2 ?side3 ?side4 A30.out).mono ?_
                                                    (case side1 => repeat (first | exact (Kd.R_reads' HO_231001.out).2.2 | (with_reducible refine Kd.C_alloc ?_ _) | (with_reducible refine Kd.C_drewN ?_ _) | (with_reducible refine Kd.C_drew ?_)))
                                                    (case side2 => exact (Kd.R_reads' HO_231001.out).2.1)
                                                    (case side3 => repeat (first | exact (Kd.R_reads' HO246.out).2.2 | (with_reducible refine Kd.C_alloc ?_ _) | (with_reducible refine Kd.C_drewN ?_ _) | (with_reducible refine Kd.C_drew ?_)))
                                                    (case side4 => exact (Kd.R_reads' HO246.out).2.1)
                                                    rintro e w55 ⟨rfl, hb⟩
                                                    have HS2_ := (hb.cell (World.block_lt_of_cell? _ _ (hHeld.2.2.1))).trans (hHeld.2.2.1)
                                                    have HS3_ := (hb.cell (World.block_lt_of_cell? _ _ (hHeld.2.2.2.1))).trans (hHeld.2.2.2.1)
                                                    have HS4_ := (hb.cell (World.block_lt_of_cell? _ _ (hHeld.2.2.2.2.1))).trans (hHeld.2.2.2.2.1)
                                                    have HS5_ := (hb.cell (World.block_lt_of_cell? _ _ (hHeld.2.2.2.2.2.1))).trans (hHeld.2.2.2.2.2.1)
                                                    have HS6_ := (hb.cell (World.block_lt_of_cell? _ _ (hHeld.2.2.2.2.2.2.1))).trans (hHeld.2.2.2.2.2.2.1)
                                                    have HS7_ := (hb.cell (World.block_lt_of_cell? _ _ (hHeld.2.2.2.2.2.2.2.1))).trans (hHeld.2.2.2.2.2.2.2.1)
                                                    have HS8_ := (hb.cell (World.block_lt_of_cell? _ _ (hHeld.2.2.2.2.2.2.2.2.1))).trans (hHeld.2.2.2.2.2.2.2.2.1)
                                                    have HS9_ := (hb.cell (World.block_lt_of_cell? _ _ (hHeld.2.2.2.2.2.2.2.2.2.1))).trans (hHeld.2.2.2.2.2.2.2.2.2.1)
                                                    have HS10_ := (hb.cell (World.block_lt_of_cell? _ _ (hHeld.2.2.2.2.2.2.2.2.2.2))).trans (hHeld.2.2.2.2.2.2.2.2.2.2)
                                                    refine ⟨_, rfl, ?_⟩
                                                    have n0_ := Aside0.mk (Kd.R_below (by (with_reducible repeat (first | apply Kd.R_alloc | apply Kd.R_drewN | apply Kd.R_drew)); exact HO_4.out) hb)
                                                    have n1_ := Aside0.mk (Kd.R_below (by (with_reducible repeat (first | apply Kd.R_alloc | apply Kd.R_drewN | apply Kd.R_drew)); exact HO_231001.out) hb)
                                                    have n2_ := Aside0.mk (Kd.R_below (by (with_reducible repeat (first | apply Kd.R_alloc | apply Kd.R_drewN | apply Kd.R_drew)); exact HO246.out) hb)
                                                    have n3_ := Aside0.mk (blk_below (g := gb230) (o := .cells #[.int .i64 t223, .slice Ao11 t224.length co11] 26 (0, 0)) (by (with_reducible repeat (first | refine blk_drewN ?_ _ | refine blk_drew ?_ | refine blk_alloc ?_ _)); exact BK230.out) hb)
                                                    have n4_ := Aside0.mk (below_step (by repeat (first | (with_reducible first | exact HB.out | apply below_alloc | apply pw_below_drewN | apply below_drew1 | refine below_set ?_ GE230.out) | exact HB.out)) hb)
                                                    clear HO_4
                                                    clear HO_231001
                                                    clear HO246
                                                    clear BK230
                                                    clear HB
                                                    have HO_4 := n0_
                                                    have HO_231001 := n1_
                                                    have HO246 := n2_
                                                    have BK230 := n3_
                                                    have HB := n4_
                                                    clear n0_ n1_ n2_ n3_ n4_
                                                    (try clear hb)
                                                    (try clear hb2)
                                                    (try clear hk)
                                                    (try clear hi)
                                                    refine hK.out _ _ ⟨(blk_cell BK230.out 0).trans rfl, (blk_cell BK230.out 1).trans rfl, HS2_, HS3_, HS4_, HS5_, HS6_, HS7_, HS8_, HS9_, HS10_⟩ (fun hHeld => ?_)
                                                    clear hK K
                                                    refine norm_ (a' := ?_) ?_ ?_
                                                    rotate_left
                                                    · show Act.put _ (some 103) _ = _
                                                      simp only [Act.put, List.setIfInBounds_toArray, List.set_cons_zero, List.set_cons_succ, i64_w, i32_w]
                                                      rfl
                                                    refine pure_ (i := 21) (N := some 15) (v := ?_) (a' := ?_) #[true, true, true, true, true, true, true, true, true, true, true, true, true, true, true, true, true, true, true, true, true, true] rfl rfl (any_of HT_.out (by kernel_rfl)) (fun _ _ _ h => h) (Or.inl ⟨by rfl, ?_⟩) ?_ ?_
                                                    rotate_left
                                                    · intro w'
                                                      go_simp
                                                      with_reducible rfl
                                                    rotate_left
                                                    · simp only [Act.put, List.setIfInBounds_toArray, List.set_cons_zero, List.set_cons_succ, i64_w, i32_w]
                                                      rfl
                                                    refine done_ (done_of HT_.out (by kernel_rfl)) ?_
                                                    try go_wp2
                                                    go_roundg k4
                                                    case measure => have := HJ6.out; have := HK2.out; have := HK3.out; have := HK4.out; omega
                                                    case rel => exact ⟨((t247 == t231)), ((t247 == t233)), (wrap64 (x11_4 + 1)), (wrap64 (x14_4 + 1)), (by first | rfl | (simp; done) | (simp [*]; done)), (by first | rfl | (simp; done) | (simp [*]; done)), (by first | rfl | (simp; done) | (simp [*]; done)), (by first | rfl | (simp; done) | (simp [*]; done)), H', ⟨by have := HJ6.out; have := HK2.out; have := HK3.out; have := HK4.out; omega⟩, ⟨by (with_reducible repeat (first | apply Kd.R_alloc | apply Kd.R_drewN | apply Kd.R_drew)); exact HO_4.out⟩, ⟨by (with_reducible repeat (first | apply Kd.R_alloc | apply Kd.R_drewN | apply Kd.R_drew)); exact HO_231001.out⟩, ⟨by (with_reducible repeat (first | refine blk_drewN ?_ _ | refine blk_drew ?_ | refine blk_alloc ?_ _)); exact BK230.out⟩, ⟨by repeat (first | (with_reducible first | exact HB.out | apply below_alloc | apply pw_below_drewN | apply below_drew1 | refine below_set ?_ GE230.out) | exact HB.out)⟩⟩
                                          · rw [if_neg c29] at H
                                            exact absurd H (by simp)
                                        · rw [if_neg c28] at H
                                          exact absurd H (by simp)
                                      · rw [if_neg c27] at H
                                        have c27b0 : decide (x14_4 ≤ ((rd_T33 t227 2).f2)) = false := decide_eq_false c27
                                        clear c27
                                        have H' := Aside0.mk H
                                        clear H
                                        have p240 : 0 ≤ (2 : Int) := (by omega)
                                        have q240 : 2 < (t227.length : Int) := of_decide_eq_true (by first | (with_reducible assumption) | assumption)
                                        obtain ⟨ad240, e240, hx240_0, hx240_1, hx240_2⟩ := at_T33 (Kd.R_reads' HO_4.out).2.2 2 p240 q240
                                        obtain rfl : ad235 = ad240 := (by injection e240)
                                        (try simp only [show (2 : Int).toNat = 2 from rfl, Nat.reduceMul, Nat.reduceEqDiff, Go.Addr.add, ↓reduceIte] at hx240_0)
                                        (try simp only [show (2 : Int).toNat = 2 from rfl, Nat.reduceMul, Nat.reduceEqDiff, Go.Addr.add, ↓reduceIte] at hx240_1)
                                        (try simp only [show (2 : Int).toNat = 2 from rfl, Nat.reduceMul, Nat.reduceEqDiff, Go.Addr.add, ↓reduceIte] at hx240_2)
                                        have qi240 : (2 < t227.length) = True := eq_true (by omega)
                                        (try rw [show ((2 : Int)).toNat = 2 from rfl] at hx240_0)
                                        (try rw [show 2 * 3 = 6 from rfl] at hx240_0)
                                        (try rw [show ((2 : Int)).toNat = 2 from rfl] at hx240_1)
                                        (try rw [show 2 * 3 = 6 from rfl] at hx240_1)
                                        (try rw [show ((2 : Int)).toNat = 2 from rfl] at hx240_2)
                                        (try rw [show 2 * 3 = 6 from rfl] at hx240_2)
                                        replace p240 := eq_true p240
                                        replace q240 := eq_true q240
                                        go_wp2
                                        go_roundg k4
                                        case measure => have := HJ6.out; have := HK2.out; have := HK3.out; have := HK4.out; omega
                                        case rel => exact ⟨(x9_4), (x10_4), (x11_4), (wrap64 (x13_3 + 1)), (by first | rfl | (simp; done) | (simp [*]; done)), (by first | rfl | (simp; done) | (simp [*]; done)), (by first | rfl | (simp; done) | (simp [*]; done)), (by first | rfl | (simp; done) | (simp [*]; done)), H', ⟨by have := HJ6.out; have := HK2.out; have := HK3.out; have := HK4.out; omega⟩, ⟨by (with_reducible repeat (first | apply Kd.R_alloc | apply Kd.R_drewN | apply Kd.R_drew)); exact HO_4.out⟩, ⟨by (with_reducible repeat (first | apply Kd.R_alloc | apply Kd.R_drewN | apply Kd.R_drew)); exact HO_231001.out⟩, ⟨by (with_reducible repeat (first | refine blk_drewN ?_ _ | refine blk_drew ?_ | refine blk_alloc ?_ _)); exact BK230.out⟩, ⟨by repeat (first | (with_reducible first | exact HB.out | apply below_alloc | apply pw_below_drewN | apply below_drew1 | refine below_set ?_ GE230.out) | exact HB.out)⟩⟩
                                    · rw [if_neg c26] at H
                                      exact absurd H (by simp)
                              · rw [if_neg c25] at H
                                exact absurd H (by simp)
                            · rw [if_neg c24] at H
                              have c24b0 : decide (x13_3 ≤ ((rd_T33 t227 1).f2)) = false := decide_eq_false c24
                              clear c24
                              have H' := Aside0.mk H
                              clear H
                              have p238 : 0 ≤ (1 : Int) := (by omega)
                              have q238 : 1 < (t227.length : Int) := of_decide_eq_true (by first | (with_reducible assumption) | assumption)
                              obtain ⟨ad238, e238, hx238_0, hx238_1, hx238_2⟩ := at_T33 (Kd.R_reads' HO_4.out).2.2 1 p238 q238
                              obtain rfl : ad235 = ad238 := (by injection e238)
                              (try simp only [show (1 : Int).toNat = 1 from rfl, Nat.reduceMul, Nat.reduceEqDiff, Go.Addr.add, ↓reduceIte] at hx238_0)
                              (try simp only [show (1 : Int).toNat = 1 from rfl, Nat.reduceMul, Nat.reduceEqDiff, Go.Addr.add, ↓reduceIte] at hx238_1)
                              (try simp only [show (1 : Int).toNat = 1 from rfl, Nat.reduceMul, Nat.reduceEqDiff, Go.Addr.add, ↓reduceIte] at hx238_2)
                              have qi238 : (1 < t227.length) = True := eq_true (by omega)
                              (try rw [show ((1 : Int)).toNat = 1 from rfl] at hx238_0)
                              (try rw [show 1 * 3 = 3 from rfl] at hx238_0)
                              (try rw [show ((1 : Int)).toNat = 1 from rfl] at hx238_1)
                              (try rw [show 1 * 3 = 3 from rfl] at hx238_1)
                              (try rw [show ((1 : Int)).toNat = 1 from rfl] at hx238_2)
                              (try rw [show 1 * 3 = 3 from rfl] at hx238_2)
                              replace p238 := eq_true p238
                              replace q238 := eq_true q238
                              go_wp2
                              go_roundg k3
                              case measure => have := HJ6.out; have := HK2.out; have := HK3.out; omega
                              case rel => exact ⟨(x9_3), (x10_3), (x11_3), (wrap64 (x12_2 + 1)), (by first | rfl | (simp; done) | (simp [*]; done)), (by first | rfl | (simp; done) | (simp [*]; done)), (by first | rfl | (simp; done) | (simp [*]; done)), (by first | rfl | (simp; done) | (simp [*]; done)), H', ⟨by have := HJ6.out; have := HK2.out; have := HK3.out; omega⟩, ⟨by (with_reducible repeat (first | apply Kd.R_alloc | apply Kd.R_drewN | apply Kd.R_drew)); exact HO_4.out⟩, ⟨by (with_reducible repeat (first | apply Kd.R_alloc | apply Kd.R_drewN | apply Kd.R_drew)); exact HO_231001.out⟩, ⟨by (with_reducible repeat (first | refine blk_drewN ?_ _ | refine blk_drew ?_ | refine blk_alloc ?_ _)); exact BK230.out⟩, ⟨by repeat (first | (with_reducible first | exact HB.out | apply below_alloc | apply pw_below_drewN | apply below_drew1 | refine below_set ?_ GE230.out) | exact HB.out)⟩⟩
                          · rw [if_neg c23] at H
                            exact absurd H (by simp)
                    · rw [if_neg c22] at H
                      exact absurd H (by simp)
                  · rw [if_neg c21] at H
                    have c21b0 : decide (x12_2 ≤ ((rd_T33 t227 0).f2)) = false := decide_eq_false c21
                    clear c21
                    replace H := Option.bind_eq_some_iff.mp H
                    obtain ⟨t248, A560, H⟩ := H
                    replace H : (if x9_2 = true then (if x10_2 = true then ((impl_Rounds.f k2 t227).bind fun t249 => (if x11_2 = t249 then ((impl_InArr.f k2 t223 t224 t227 t248).bind fun t250 => (if t231 ≥ 0 then (if (t250 == (decide (t233 < t248))) = true then ((impl_BoxOk.f k2 t227).bind fun t251 => (some t251)) else (none)) else (if (t250 == false) = true then ((impl_BoxOk.f k2 t227).bind fun t252 => (some t252)) else (none)))) else (none))) else (none)) else (none)) = some r := H
                    have A56 := Aside0.mk A560
                    clear A560
                    by_cases c57 : x9_2 = true
                    · subst c57
                      have H1 : (if x10_2 = true then ((impl_Rounds.f k2 t227).bind fun t249 => (if x11_2 = t249 then ((impl_InArr.f k2 t223 t224 t227 t248).bind fun t250 => (if t231 ≥ 0 then (if (t250 == (decide (t233 < t248))) = true then ((impl_BoxOk.f k2 t227).bind fun t251 => (some t251)) else (none)) else (if (t250 == false) = true then ((impl_BoxOk.f k2 t227).bind fun t252 => (some t252)) else (none)))) else (none))) else (none)) = some r := by rw [if_pos rfl] at H; exact H
                      clear H
                      have H := H1
                      clear H1
                      by_cases c58 : x10_2 = true
                      · subst c58
                        have H1 : ((impl_Rounds.f k2 t227).bind fun t249 => (if x11_2 = t249 then ((impl_InArr.f k2 t223 t224 t227 t248).bind fun t250 => (if t231 ≥ 0 then (if (t250 == (decide (t233 < t248))) = true then ((impl_BoxOk.f k2 t227).bind fun t251 => (some t251)) else (none)) else (if (t250 == false) = true then ((impl_BoxOk.f k2 t227).bind fun t252 => (some t252)) else (none)))) else (none))) = some r := by rw [if_pos rfl] at H; exact H
                        clear H
                        have H := H1
                        clear H1
                        replace H := Option.bind_eq_some_iff.mp H
                        obtain ⟨t249, A590, H⟩ := H
                        replace H : (if x11_2 = t249 then ((impl_InArr.f k2 t223 t224 t227 t248).bind fun t250 => (if t231 ≥ 0 then (if (t250 == (decide (t233 < t248))) = true then ((impl_BoxOk.f k2 t227).bind fun t251 => (some t251)) else (none)) else (if (t250 == false) = true then ((impl_BoxOk.f k2 t227).bind fun t252 => (some t252)) else (none)))) else (none)) = some r := H
                        have A59 := Aside0.mk A590
                        clear A590
                        by_cases c60 : x11_2 = t249
                        · rw [if_pos c60] at H
                          have c60b0 : (x11_2 == t249) = true := beq_iff_eq.mpr c60
                          have c60b1 : (x11_2 != t249) = false := bne_eq_false_iff_eq.mpr c60
                          clear c60
                          replace H := Option.bind_eq_some_iff.mp H
                          obtain ⟨t250, A610, H⟩ := H
                          replace H : (if t231 ≥ 0 then (if (t250 == (decide (t233 < t248))) = true then ((impl_BoxOk.f k2 t227).bind fun t251 => (some t251)) else (none)) else (if (t250 == false) = true then ((impl_BoxOk.f k2 t227).bind fun t252 => (some t252)) else (none))) = some r := H
                          have A61 := Aside0.mk A610
                          clear A610
                          by_cases c62 : t231 ≥ 0
                          · rw [if_pos c62] at H
                            have c62b0 : decide (0 ≤ t231) = true := decide_eq_true c62
                            clear c62
                            by_cases c63 : (t250 == (decide (t233 < t248))) = true
                            · rw [if_pos c63] at H
                              have c63b0 : (t250 == (decide (t233 < t248))) = true := c63
                              (try (have c63b1 : decide (t250 = (decide (t233 < t248))) = true := by simpa using c63))
                              (try (have c63b2 : (t250 == (decide (t233 < t248))) = true := by simpa using c63))
                              clear c63
                              replace H := Option.bind_eq_some_iff.mp H
                              obtain ⟨t251, A640, H⟩ := H
                              replace H : (some t251) = some r := H
                              have A64 := Aside0.mk A640
                              clear A640
                              obtain rfl := Option.some.inj H
                              have p236 : 0 ≤ (0 : Int) := (by omega)
                              have q236 : 0 < (t227.length : Int) := of_decide_eq_true (by first | (with_reducible assumption) | assumption)
                              obtain ⟨ad236, e236, hx236_0, hx236_1, hx236_2⟩ := at_T33 (Kd.R_reads' HO_4.out).2.2 0 p236 q236
                              obtain rfl : ad235 = ad236 := (by injection e236)
                              have qi236 : (0 < t227.length) = True := eq_true (by omega)
                              (try rw [show ((0 : Int)).toNat = 0 from rfl] at hx236_0)
                              (try rw [show 0 * 3 = 0 from rfl] at hx236_0)
                              (try rw [Addr.add_zero'] at hx236_0)
                              (try rw [show ((0 : Int)).toNat = 0 from rfl] at hx236_1)
                              (try rw [show 0 * 3 = 0 from rfl] at hx236_1)
                              (try rw [Addr.add_zero'] at hx236_1)
                              (try rw [show ((0 : Int)).toNat = 0 from rfl] at hx236_2)
                              (try rw [show 0 * 3 = 0 from rfl] at hx236_2)
                              (try rw [Addr.add_zero'] at hx236_2)
                              replace p236 := eq_true p236
                              replace q236 := eq_true q236
                              go_wp2_with (first | ((with_reducible refine gate_callee (f := 14) rfl ?_); refine goesL_ (some 127) rfl rfl Try.func14 (by kernel_rfl) rfl #[.slice A0 l0.length c0, .int .i64 2] rfl (by (try simp only [List.map_toArray, List.map_cons, List.map_nil]); first | done | rfl | (simp only [List.length_drop, List.length_take]; rfl)) ?_; (with_reducible refine (laws_at.calls _ _ l0 2 t248 _ ?side1 ?side2 A56.out).mono ?_); (case side1 => repeat (first | exact (Kd.C_below HR0.out HB.out) | (with_reducible refine Kd.C_alloc ?_ _) | (with_reducible refine Kd.C_drewN ?_ _) | (with_reducible refine Kd.C_drew ?_))); (case side2 => exact HC0.out); rintro e w' ⟨rfl, ⟨nd, rfl⟩⟩; refine ⟨_, rfl, ?_⟩) | (go_at_call 15; (with_reducible refine (impl_Rounds.calls k2 _ _ t227 t249 _ ?side1 ?side2 A59.out).mono ?_); (case side1 => repeat (first | exact (Kd.R_reads' HO_4.out).2.2 | (with_reducible refine Kd.C_alloc ?_ _) | (with_reducible refine Kd.C_drewN ?_ _) | (with_reducible refine Kd.C_drew ?_))); (case side2 => exact (Kd.R_reads' HO_4.out).2.1); rintro e w65 ⟨rfl, hb⟩; have n0_ := Aside0.mk (Kd.R_below (by (with_reducible repeat (first | apply Kd.R_alloc | apply Kd.R_drewN | apply Kd.R_drew)); exact HO_4.out) hb); have n1_ := Aside0.mk (Kd.R_below (by (with_reducible repeat (first | apply Kd.R_alloc | apply Kd.R_drewN | apply Kd.R_drew)); exact HO_231001.out) hb); have n2_ := Aside0.mk (blk_below (g := gb230) (o := .cells #[.int .i64 t223, .slice Ao11 t224.length co11] 26 (0, 0)) (by (with_reducible repeat (first | refine blk_drewN ?_ _ | refine blk_drew ?_ | refine blk_alloc ?_ _)); exact BK230.out) hb); have n3_ := Aside0.mk (below_step (by repeat (first | (with_reducible first | exact HB.out | apply below_alloc | apply pw_below_drewN | apply below_drew1 | refine below_set ?_ GE230.out) | exact HB.out)) hb); clear HO_4; clear HO_231001; clear BK230; clear HB; have HO_4 := n0_; have HO_231001 := n1_; have BK230 := n2_; have HB := n3_; clear n0_ n1_ n2_ n3_; (try clear hb); (try clear hb2); (try clear hk); (try clear hi); have hcz66_0 : w65.cell? ⟨gb230, 0, none⟩ = some (.int .i64 t223) := (blk_cell BK230.out 0).trans rfl; have hcz66_1 : w65.cell? ⟨gb230, 1, none⟩ = some (.slice Ao11 t224.length co11) := (blk_cell BK230.out 1).trans rfl; have hfz66_0 := blk_frozen BK230.out 0; have hfz66_1 := blk_frozen BK230.out 1) | (go_at_call 16; (with_reducible refine (impl_InArr.calls k2 t223 _ _ t224 _ _ t227 t248 t250 _ ?side1 ?side2 ?side3 ?side4 A61.out).mono ?_); (case side1 => repeat (first | exact (Kd.R_reads' HO_231001.out).2.2 | (with_reducible refine Kd.C_alloc ?_ _) | (with_reducible refine Kd.C_drewN ?_ _) | (with_reducible refine Kd.C_drew ?_))); (case side2 => exact (Kd.R_reads' HO_231001.out).2.1); (case side3 => repeat (first | exact (Kd.R_reads' HO_4.out).2.2 | (with_reducible refine Kd.C_alloc ?_ _) | (with_reducible refine Kd.C_drewN ?_ _) | (with_reducible refine Kd.C_drew ?_))); (case side4 => exact (Kd.R_reads' HO_4.out).2.1); rintro e w67 ⟨rfl, hb⟩; have n0_ := Aside0.mk (Kd.R_below (by (with_reducible repeat (first | apply Kd.R_alloc | apply Kd.R_drewN | apply Kd.R_drew)); exact HO_4.out) hb); have n1_ := Aside0.mk (Kd.R_below (by (with_reducible repeat (first | apply Kd.R_alloc | apply Kd.R_drewN | apply Kd.R_drew)); exact HO_231001.out) hb); have n2_ := Aside0.mk (blk_below (g := gb230) (o := .cells #[.int .i64 t223, .slice Ao11 t224.length co11] 26 (0, 0)) (by (with_reducible repeat (first | refine blk_drewN ?_ _ | refine blk_drew ?_ | refine blk_alloc ?_ _)); exact BK230.out) hb); have n3_ := Aside0.mk (below_step (by repeat (first | (with_reducible first | exact HB.out | apply below_alloc | apply pw_below_drewN | apply below_drew1 | refine below_set ?_ GE230.out) | exact HB.out)) hb); clear HO_4; clear HO_231001; clear BK230; clear HB; have HO_4 := n0_; have HO_231001 := n1_; have BK230 := n2_; have HB := n3_; clear n0_ n1_ n2_ n3_; (try clear hb); (try clear hb2); (try clear hk); (try clear hi)) | (go_at_call 17; (with_reducible refine (impl_BoxOk.calls k2 _ _ t227 t251 _ ?side1 ?side2 A64.out).mono ?_); (case side1 => repeat (first | exact (Kd.R_reads' HO_4.out).2.2 | (with_reducible refine Kd.C_alloc ?_ _) | (with_reducible refine Kd.C_drewN ?_ _) | (with_reducible refine Kd.C_drew ?_))); (case side2 => exact (Kd.R_reads' HO_4.out).2.1); rintro e w68 ⟨rfl, hb⟩; have n0_ := Aside0.mk (Kd.R_below (by (with_reducible repeat (first | apply Kd.R_alloc | apply Kd.R_drewN | apply Kd.R_drew)); exact HO_4.out) hb); have n1_ := Aside0.mk (Kd.R_below (by (with_reducible repeat (first | apply Kd.R_alloc | apply Kd.R_drewN | apply Kd.R_drew)); exact HO_231001.out) hb); have n2_ := Aside0.mk (blk_below (g := gb230) (o := .cells #[.int .i64 t223, .slice Ao11 t224.length co11] 26 (0, 0)) (by (with_reducible repeat (first | refine blk_drewN ?_ _ | refine blk_drew ?_ | refine blk_alloc ?_ _)); exact BK230.out) hb); have n3_ := Aside0.mk (below_step (by repeat (first | (with_reducible first | exact HB.out | apply below_alloc | apply pw_below_drewN | apply below_drew1 | refine below_set ?_ GE230.out) | exact HB.out)) hb); clear HO_4; clear HO_231001; clear BK230; clear HB; have HO_4 := n0_; have HO_231001 := n1_; have BK230 := n2_; have HB := n3_; clear n0_ n1_ n2_ n3_; (try clear hb); (try clear hb2); (try clear hk); (try clear hi)))
                              go_ret
                              exact ⟨by first | rfl | (simp [errW_none, errW_some] <;> rfl) | (simp [*, errW_none, errW_some] <;> rfl), by repeat (first | (with_reducible first | exact HB.out | apply below_alloc | apply pw_below_drewN | apply below_drew1 | refine below_set ?_ GE230.out) | exact HB.out)⟩
                            · rw [if_neg c63] at H
                              exact absurd H (by simp)
                          · rw [if_neg c62] at H
                            have c62b0 : decide (0 ≤ t231) = false := decide_eq_false c62
                            clear c62
                            by_cases c69 : (t250 == false) = true
                            · rw [if_pos c69] at H
                              have c69b0 : (t250 == false) = true := c69
                              (try (have c69b1 : decide (t250 = false) = true := by simpa using c69))
                              (try (have c69b2 : (t250 == false) = true := by simpa using c69))
                              clear c69
                              replace H := Option.bind_eq_some_iff.mp H
                              obtain ⟨t252, A700, H⟩ := H
                              replace H : (some t252) = some r := H
                              have A70 := Aside0.mk A700
                              clear A700
                              obtain rfl := Option.some.inj H
                              have p236 : 0 ≤ (0 : Int) := (by omega)
                              have q236 : 0 < (t227.length : Int) := of_decide_eq_true (by first | (with_reducible assumption) | assumption)
                              obtain ⟨ad236, e236, hx236_0, hx236_1, hx236_2⟩ := at_T33 (Kd.R_reads' HO_4.out).2.2 0 p236 q236
                              obtain rfl : ad235 = ad236 := (by injection e236)
                              have qi236 : (0 < t227.length) = True := eq_true (by omega)
                              (try rw [show ((0 : Int)).toNat = 0 from rfl] at hx236_0)
                              (try rw [show 0 * 3 = 0 from rfl] at hx236_0)
                              (try rw [Addr.add_zero'] at hx236_0)
                              (try rw [show ((0 : Int)).toNat = 0 from rfl] at hx236_1)
                              (try rw [show 0 * 3 = 0 from rfl] at hx236_1)
                              (try rw [Addr.add_zero'] at hx236_1)
                              (try rw [show ((0 : Int)).toNat = 0 from rfl] at hx236_2)
                              (try rw [show 0 * 3 = 0 from rfl] at hx236_2)
                              (try rw [Addr.add_zero'] at hx236_2)
                              replace p236 := eq_true p236
                              replace q236 := eq_true q236
                              go_wp2_with (first | ((with_reducible refine gate_callee (f := 14) rfl ?_); refine goesL_ (some 127) rfl rfl Try.func14 (by kernel_rfl) rfl #[.slice A0 l0.length c0, .int .i64 2] rfl (by (try simp only [List.map_toArray, List.map_cons, List.map_nil]); first | done | rfl | (simp only [List.length_drop, List.length_take]; rfl)) ?_; (with_reducible refine (laws_at.calls _ _ l0 2 t248 _ ?side1 ?side2 A56.out).mono ?_); (case side1 => repeat (first | exact (Kd.C_below HR0.out HB.out) | (with_reducible refine Kd.C_alloc ?_ _) | (with_reducible refine Kd.C_drewN ?_ _) | (with_reducible refine Kd.C_drew ?_))); (case side2 => exact HC0.out); rintro e w' ⟨rfl, ⟨nd, rfl⟩⟩; refine ⟨_, rfl, ?_⟩) | (go_at_call 15; (with_reducible refine (impl_Rounds.calls k2 _ _ t227 t249 _ ?side1 ?side2 A59.out).mono ?_); (case side1 => repeat (first | exact (Kd.R_reads' HO_4.out).2.2 | (with_reducible refine Kd.C_alloc ?_ _) | (with_reducible refine Kd.C_drewN ?_ _) | (with_reducible refine Kd.C_drew ?_))); (case side2 => exact (Kd.R_reads' HO_4.out).2.1); rintro e w71 ⟨rfl, hb⟩; have n0_ := Aside0.mk (Kd.R_below (by (with_reducible repeat (first | apply Kd.R_alloc | apply Kd.R_drewN | apply Kd.R_drew)); exact HO_4.out) hb); have n1_ := Aside0.mk (Kd.R_below (by (with_reducible repeat (first | apply Kd.R_alloc | apply Kd.R_drewN | apply Kd.R_drew)); exact HO_231001.out) hb); have n2_ := Aside0.mk (blk_below (g := gb230) (o := .cells #[.int .i64 t223, .slice Ao11 t224.length co11] 26 (0, 0)) (by (with_reducible repeat (first | refine blk_drewN ?_ _ | refine blk_drew ?_ | refine blk_alloc ?_ _)); exact BK230.out) hb); have n3_ := Aside0.mk (below_step (by repeat (first | (with_reducible first | exact HB.out | apply below_alloc | apply pw_below_drewN | apply below_drew1 | refine below_set ?_ GE230.out) | exact HB.out)) hb); clear HO_4; clear HO_231001; clear BK230; clear HB; have HO_4 := n0_; have HO_231001 := n1_; have BK230 := n2_; have HB := n3_; clear n0_ n1_ n2_ n3_; (try clear hb); (try clear hb2); (try clear hk); (try clear hi); have hcz72_0 : w71.cell? ⟨gb230, 0, none⟩ = some (.int .i64 t223) := (blk_cell BK230.out 0).trans rfl; have hcz72_1 : w71.cell? ⟨gb230, 1, none⟩ = some (.slice Ao11 t224.length co11) := (blk_cell BK230.out 1).trans rfl; have hfz72_0 := blk_frozen BK230.out 0; have hfz72_1 := blk_frozen BK230.out 1) | (go_at_call 16; (with_reducible refine (impl_InArr.calls k2 t223 _ _ t224 _ _ t227 t248 t250 _ ?side1 ?side2 ?side3 ?side4 A61.out).mono ?_); (case side1 => repeat (first | exact (Kd.R_reads' HO_231001.out).2.2 | (with_reducible refine Kd.C_alloc ?_ _) | (with_reducible refine Kd.C_drewN ?_ _) | (with_reducible refine Kd.C_drew ?_))); (case side2 => exact (Kd.R_reads' HO_231001.out).2.1); (case side3 => repeat (first | exact (Kd.R_reads' HO_4.out).2.2 | (with_reducible refine Kd.C_alloc ?_ _) | (with_reducible refine Kd.C_drewN ?_ _) | (with_reducible refine Kd.C_drew ?_))); (case side4 => exact (Kd.R_reads' HO_4.out).2.1); rintro e w73 ⟨rfl, hb⟩; have n0_ := Aside0.mk (Kd.R_below (by (with_reducible repeat (first | apply Kd.R_alloc | apply Kd.R_drewN | apply Kd.R_drew)); exact HO_4.out) hb); have n1_ := Aside0.mk (Kd.R_below (by (with_reducible repeat (first | apply Kd.R_alloc | apply Kd.R_drewN | apply Kd.R_drew)); exact HO_231001.out) hb); have n2_ := Aside0.mk (blk_below (g := gb230) (o := .cells #[.int .i64 t223, .slice Ao11 t224.length co11] 26 (0, 0)) (by (with_reducible repeat (first | refine blk_drewN ?_ _ | refine blk_drew ?_ | refine blk_alloc ?_ _)); exact BK230.out) hb); have n3_ := Aside0.mk (below_step (by repeat (first | (with_reducible first | exact HB.out | apply below_alloc | apply pw_below_drewN | apply below_drew1 | refine below_set ?_ GE230.out) | exact HB.out)) hb); clear HO_4; clear HO_231001; clear BK230; clear HB; have HO_4 := n0_; have HO_231001 := n1_; have BK230 := n2_; have HB := n3_; clear n0_ n1_ n2_ n3_; (try clear hb); (try clear hb2); (try clear hk); (try clear hi)) | (go_at_call 17; (with_reducible refine (impl_BoxOk.calls k2 _ _ t227 t252 _ ?side1 ?side2 A70.out).mono ?_); (case side1 => repeat (first | exact (Kd.R_reads' HO_4.out).2.2 | (with_reducible refine Kd.C_alloc ?_ _) | (with_reducible refine Kd.C_drewN ?_ _) | (with_reducible refine Kd.C_drew ?_))); (case side2 => exact (Kd.R_reads' HO_4.out).2.1); rintro e w74 ⟨rfl, hb⟩; have n0_ := Aside0.mk (Kd.R_below (by (with_reducible repeat (first | apply Kd.R_alloc | apply Kd.R_drewN | apply Kd.R_drew)); exact HO_4.out) hb); have n1_ := Aside0.mk (Kd.R_below (by (with_reducible repeat (first | apply Kd.R_alloc | apply Kd.R_drewN | apply Kd.R_drew)); exact HO_231001.out) hb); have n2_ := Aside0.mk (blk_below (g := gb230) (o := .cells #[.int .i64 t223, .slice Ao11 t224.length co11] 26 (0, 0)) (by (with_reducible repeat (first | refine blk_drewN ?_ _ | refine blk_drew ?_ | refine blk_alloc ?_ _)); exact BK230.out) hb); have n3_ := Aside0.mk (below_step (by repeat (first | (with_reducible first | exact HB.out | apply below_alloc | apply pw_below_drewN | apply below_drew1 | refine below_set ?_ GE230.out) | exact HB.out)) hb); clear HO_4; clear HO_231001; clear BK230; clear HB; have HO_4 := n0_; have HO_231001 := n1_; have BK230 := n2_; have HB := n3_; clear n0_ n1_ n2_ n3_; (try clear hb); (try clear hb2); (try clear hk); (try clear hi)))
                              go_ret
                              exact ⟨by first | rfl | (simp [errW_none, errW_some] <;> rfl) | (simp [*, errW_none, errW_some] <;> rfl), by repeat (first | (with_reducible first | exact HB.out | apply below_alloc | apply pw_below_drewN | apply below_drew1 | refine below_set ?_ GE230.out) | exact HB.out)⟩
                            · rw [if_neg c69] at H
                              exact absurd H (by simp)
                        · rw [if_neg c60] at H
                          exact absurd H (by simp)
                      · replace c58 := Bool.eq_false_iff.mpr c58
                        subst c58
                        have H1 : (none) = some r := by rw [if_neg (show ¬ (false = true) by decide)] at H; exact H
                        clear H
                        have H := H1
                        clear H1
                        exact absurd H (by simp)
                    · replace c57 := Bool.eq_false_iff.mpr c57
                      subst c57
                      have H1 : (none) = some r := by rw [if_neg (show ¬ (false = true) by decide)] at H; exact H
                      clear H
                      have H := H1
                      clear H1
                      exact absurd H (by simp)
                · rw [if_neg c20] at H
                  exact absurd H (by simp)
          · rw [if_neg c19] at H
            exact absurd H (by simp)

/-- THE ONE PURE STATEMENT of laws_FnBoxes: yours. -/
def laws_FnBoxes.Pure : Prop := ∀ (l0 : List Int), l0.length ≤ maxLen → l0.length * 1 ≤ 140737488351232 → (∀ x ∈ l0, (Lit.int .u8 x).wf = true) → ∃ k, laws_FnBoxes.f k l0 = some true
theorem laws_FnBoxes.walk (P : laws_FnBoxes.Pure) (a0 : Option Addr) (len0 cap0 : Nat) (z0 : List Int) (w : World) (w0 : (a0 = none ∧ len0 = 0 ∧ cap0 = 0 ∧ z0 = []) ∨ ∃ x, a0 = some x ∧ len0 ≤ cap0 ∧ cap0 ≤ maxLen ∧ z0.length = cap0 ∧ (∀ i, i < z0.length → w.cell? (x.add i) = some (.int .u8 (z0.getD i 0))) ∧ ∀ n ∈ z0, (Lit.int .u8 n).wf = true) (y0 : len0 * 1 ≤ 140737488351232) :
    Calls Try.prog 3 #[.slice a0 len0 cap0] w fun e w' => e = .returned (.bool true) ∧ Below w.heap.size w w' := by
  obtain ⟨l0, rfl, hr0, hm0, hw0, hc0⟩ := ReadsInt.ofRowC w0
  obtain ⟨k, h⟩ := P l0 hm0 y0 hw0
  refine (laws_FnBoxes.calls k _ _ l0 true w (Kd.C_of_reads (d := (0 : Int)) (h1 := fun _ => rfl) hr0) hc0 h).mono ?_
  rintro e w' ⟨rfl, hd⟩
  exact ⟨rfl, hd⟩

end Go.Proofs.Ytelklalagebdgaa.PFnBoxes
