-- The functions of a law as plain Lean functions, each with its contract: written by a program of this session.
import Derived.Test.YtmomablfmhkppaaPFnAffsBentx0
import Derived.Test.YtmomablfmhkppaaPFnAffsBentx2
import Derived.Test.YtmomablfmhkppaaPFnAffsBentx5
import Derived.Test.YtmomablfmhkppaaPFnAffsBentx6
import Derived.Test.YtmomablfmhkppaaPFnAffsBentx7
import Derived.Test.YtmomablfmhkppaaPFnAffsBentx9
import Derived.Test.YtmomablfmhkppaaPFnAffsBentx10
namespace Go.Proofs.Ytmomablfmhkppaa.PFnAffsBent
open Go.RowKit Go.Proofs.YtmomablfmhkppaaW.PrintWords Go.Proofs.YtmomablfmhkppaaW.PrintLast Go.Proofs.YtmomablfmhkppaaW.PrintMore
attribute [local go_sem] max2_int min2_int max_two min_two max_three min_three max_four min_four   -- for this text's walks alone
set_option linter.unusedVariables false
set_option linter.unusedSimpArgs false

/-! ### laws_FnAffsBent: function 6 -/
def laws_FnAffsBent.f (k : Nat) (l0 : List Int) : Option (Bool) := (laws_big.f l0).bind fun t404 => (if t404 = true then (some true) else ((spec_DrawAffOk.f k l0).bind fun bt405 => ((spec_DrawAddA.f k l0).bind fun bt410 => ((impl_AddA.f k bt410.1 bt410.2.1 bt410.2.2.1 bt410.2.2.2).bind fun bt420 => ((spec_AddA.f k bt410.1 bt410.2.1 bt410.2.2.1 bt410.2.2.2).bind fun bt426 => ((impl_SubA.f k bt410.1 bt410.2.1 bt410.2.2.1 bt410.2.2.2).bind fun bt432 => ((spec_SubA.f k bt410.1 bt410.2.1 bt410.2.2.1 bt410.2.2.2).bind fun bt438 => ((spec_DrawAffAt.f k l0).bind fun bt444 => ((spec_DrawCoefOf.f k l0).bind fun bt452 => ((impl_AffOk.f k bt405.1 bt405.2).bind fun t458 => ((spec_AffOk.f k bt405.1 bt405.2).bind fun t459 => (if (t458 == t459) = true then (if (bt420.2.2 == bt426.2.2) = true then ((laws_sameAff.f k bt420.1 bt420.2.1 bt426.1 bt426.2.1).bind fun t460 => (if t460 = true then (if (bt432.2.2 == bt438.2.2) = true then ((laws_sameAff.f k bt432.1 bt432.2.1 bt438.1 bt438.2.1).bind fun t461 => (if t461 = true then ((impl_AffAt.f k bt444.1 bt444.2.1 bt444.2.2).bind fun t462 => ((spec_AffAt.f k bt444.1 bt444.2.1 bt444.2.2).bind fun t463 => (if t462 = t463 then ((impl_CoefOf.f k bt452.1 bt452.2.1 bt452.2.2).bind fun t464 => ((spec_CoefOf.f k bt452.1 bt452.2.1 bt452.2.2).bind fun t465 => (some (t464 == t465)))) else (none)))) else (none))) else (none)) else (none))) else (none)) else (none)))))))))))))
theorem laws_FnAffsBent.mono : ∀ a0 k, LeO (laws_FnAffsBent.f k a0) (laws_FnAffsBent.f (k + 1) a0) := by
 intro a0 k
 unfold laws_FnAffsBent.f
 repeat' first
   | (with_reducible exact impl_AddA.mono _ _ _ _ _)
   | (with_reducible exact impl_AffAt.mono _ _ _ _)
   | (with_reducible exact impl_AffOk.mono _ _ _)
   | (with_reducible exact impl_CoefOf.mono _ _ _ _)
   | (with_reducible exact impl_SubA.mono _ _ _ _ _)
   | (with_reducible exact laws_sameAff.mono _ _ _ _ _)
   | (with_reducible exact spec_AddA.mono _ _ _ _ _)
   | (with_reducible exact spec_AffAt.mono _ _ _ _)
   | (with_reducible exact spec_AffOk.mono _ _ _)
   | (with_reducible exact spec_CoefOf.mono _ _ _ _)
   | (with_reducible exact spec_DrawAddA.mono _ _)
   | (with_reducible exact spec_DrawAffAt.mono _ _)
   | (with_reducible exact spec_DrawAffOk.mono _ _)
   | (with_reducible exact spec_DrawCoefOf.mono _ _)
   | (with_reducible exact spec_SubA.mono _ _ _ _ _)
   | (with_reducible exact LeO.refl _)
   | (with_reducible exact LeO.none _)
   | (with_reducible refine LeO.ite ?_ ?_)
   | (with_reducible refine LeO.bind ?_ (fun _ => ?_))
   | exact impl_AddA.mono _ _ _ _ _
   | exact impl_AffAt.mono _ _ _ _
   | exact impl_AffOk.mono _ _ _
   | exact impl_CoefOf.mono _ _ _ _
   | exact impl_SubA.mono _ _ _ _ _
   | exact laws_sameAff.mono _ _ _ _ _
   | exact spec_AddA.mono _ _ _ _ _
   | exact spec_AffAt.mono _ _ _ _
   | exact spec_AffOk.mono _ _ _
   | exact spec_CoefOf.mono _ _ _ _
   | exact spec_DrawAddA.mono _ _
   | exact spec_DrawAffAt.mono _ _
   | exact spec_DrawAffOk.mono _ _
   | exact spec_DrawCoefOf.mono _ _
   | exact spec_SubA.mono _ _ _ _ _
   | exact LeO.none _
   | refine LeO.ite ?_ ?_
   | refine LeO.bind ?_ (fun _ => ?_)
def laws_FnAffsBent.T11 : Bool × List (List Nat × List Nat) := (true, [([], []), ([0], [0]), ([], []), ([2, 1], [2]), ([1, 3], [1, 3]), ([4, 3], [4]), ([5], [5]), ([5], [5]), ([6, 7, 5], [5, 6, 7]), ([5, 8], [5, 8]), ([9, 5], [9]), ([10], [10]), ([10], [10]), ([11, 12, 10, 10], [10, 11, 12]), ([10, 13], [10, 13]), ([14, 13], [14]), ([15], [15]), ([15], [15]), ([16, 17, 15], [15, 16, 17]), ([15, 18], [15, 18]), ([19, 15], [19]), ([20], [20]), ([20], [20]), ([21, 22, 20, 20], [20, 21, 22]), ([20, 23], [20, 23]), ([24, 23], [24]), ([25], [25]), ([25], [25]), ([26, 27, 25, 25], [25, 26, 27]), ([25], [25]), ([25], [25]), ([29, 30, 28, 25], [25, 29, 30]), ([28, 31, 25], [25, 28, 31]), ([25, 32], [25, 32]), ([33, 31], [33]), ([34], [34]), ([34], [34]), ([35, 36, 34, 34], [34, 35, 36]), ([34], [34]), ([34], [34]), ([38, 39, 37, 34], [34, 38, 39]), ([37, 40, 34], [34, 37, 40]), ([34, 41], [34, 41]), ([42, 40, 0, 1, 2, 3, 4, 5, 6, 7, 8, 9, 10, 11, 12, 13, 14, 15, 16, 17, 18, 19, 20, 21, 22, 23, 24, 25, 26, 27, 28, 29, 30, 31, 32, 33, 34, 35, 36, 37, 38, 39, 40, 41, 42], [42])])
def laws_FnAffsBent.B11 : List Nat := [0, 1, 0, 7, 15, 31, 63, 63, 255, 511, 1023, 2047, 2047, 8191, 16383, 32767, 65535, 65535, 262143, 524287, 1048575, 2097151, 2097151, 8388607, 16777215, 33554431, 67108863, 67108863, 268435455, 67108863, 67108863, 2147483647, 4294967295, 8589934591, 17179869183, 34359738367, 34359738367, 137438953471, 34359738367, 34359738367, 1099511627775, 2199023255551, 4398046511103, 8796093022207]
theorem laws_FnAffsBent.tab11 : rtab .any (opsOf Try.f6 11) = laws_FnAffsBent.T11 := by kernel_rfl
theorem laws_FnAffsBent.bits11 : waitsOk laws_FnAffsBent.T11.2 laws_FnAffsBent.B11 = true := by kernel_rfl
set_option maxHeartbeats 8000000 in
set_option maxRecDepth 100000 in
theorem laws_FnAffsBent.calls (k : Nat) (A0 : Option Addr) (c0 : Nat) (l0 : List Int) (r : Bool) (w : World) (hr0 : Kd.C (Kd.int .u8) w A0 l0.length l0) (hc0 : l0.length ≤ c0) (h : laws_FnAffsBent.f k l0 = some r) :
  Calls Try.prog 6 #[.slice A0 l0.length c0] w fun e w' => e = .returned (.bool r) ∧ Below w.heap.size w w' := by
 have hu28 := Try.underlying28
 have HR0 := mk0 hr0
 have HC0 := mk0 hc0
 clear hr0 hc0
 have HB := mk0 (Below.refl w.heap.size w)
 have H : ((laws_big.f l0).bind fun t404 => (if t404 = true then (some true) else ((spec_DrawAffOk.f k l0).bind fun bt405 => ((spec_DrawAddA.f k l0).bind fun bt410 => ((impl_AddA.f k bt410.1 bt410.2.1 bt410.2.2.1 bt410.2.2.2).bind fun bt420 => ((spec_AddA.f k bt410.1 bt410.2.1 bt410.2.2.1 bt410.2.2.2).bind fun bt426 => ((impl_SubA.f k bt410.1 bt410.2.1 bt410.2.2.1 bt410.2.2.2).bind fun bt432 => ((spec_SubA.f k bt410.1 bt410.2.1 bt410.2.2.1 bt410.2.2.2).bind fun bt438 => ((spec_DrawAffAt.f k l0).bind fun bt444 => ((spec_DrawCoefOf.f k l0).bind fun bt452 => ((impl_AffOk.f k bt405.1 bt405.2).bind fun t458 => ((spec_AffOk.f k bt405.1 bt405.2).bind fun t459 => (if (t458 == t459) = true then (if (bt420.2.2 == bt426.2.2) = true then ((laws_sameAff.f k bt420.1 bt420.2.1 bt426.1 bt426.2.1).bind fun t460 => (if t460 = true then (if (bt432.2.2 == bt438.2.2) = true then ((laws_sameAff.f k bt432.1 bt432.2.1 bt438.1 bt438.2.1).bind fun t461 => (if t461 = true then ((impl_AffAt.f k bt444.1 bt444.2.1 bt444.2.2).bind fun t462 => ((spec_AffAt.f k bt444.1 bt444.2.1 bt444.2.2).bind fun t463 => (if t462 = t463 then ((impl_CoefOf.f k bt452.1 bt452.2.1 bt452.2.2).bind fun t464 => ((spec_CoefOf.f k bt452.1 bt452.2.1 bt452.2.2).bind fun t465 => (some (t464 == t465)))) else (none)))) else (none))) else (none)) else (none))) else (none)) else (none)))))))))))))) = some r := h
 clear h
 obtain ⟨t404, A2, H⟩ := bindA H
 by_cases c3 : t404 = true
 ·subst c3
  rw [if_pos rfl] at H
  obtain rfl := Option.some.inj H
  go_enter Try.func6, Try.ntmps6
  go_wp2_with (first | ((with_reducible refine gate_callee (f := 17) rfl ?_); refine goesL_ (some 19) rfl rfl Try.func17 (by kernel_rfl) rfl #[.slice A0 l0.length c0] rfl (by (try simp only [List.map_toArray, List.map_cons, List.map_nil]); first | done | rfl) ?_; (with_reducible refine (laws_big.calls _ _ l0 true _ ?side1 ?side2 A2.out).mono ?_); (case side1 => repeat (first | exact HR0.out | (with_reducible refine cA ?_ _) | (with_reducible refine cN ?_ _) | (with_reducible refine cD ?_))); (case side2 => exact HC0.out); rintro e w' ⟨rfl, ⟨nd, rfl⟩⟩; refine ⟨_, rfl, ?_⟩))
  go_ret
  exact ⟨by first | rfl | (simp [errW_none, errW_some] <;> rfl) | (simp [*, errW_none, errW_some] <;> rfl), by repeat (first | (with_reducible first | exact HB.out | apply bA | apply bN | apply bD) | exact HB.out)⟩
 ·replace c3 := Bool.eq_false_iff.mpr c3
  subst c3
  rw [if_neg (show ¬ (false = true) by decide)] at H
  replace H := Option.bind_eq_some_iff.mp H
  obtain ⟨⟨t405, t406⟩, A40, H⟩ := H
  replace H : ((spec_DrawAddA.f k l0).bind fun bt410 => ((impl_AddA.f k bt410.1 bt410.2.1 bt410.2.2.1 bt410.2.2.2).bind fun bt420 => ((spec_AddA.f k bt410.1 bt410.2.1 bt410.2.2.1 bt410.2.2.2).bind fun bt426 => ((impl_SubA.f k bt410.1 bt410.2.1 bt410.2.2.1 bt410.2.2.2).bind fun bt432 => ((spec_SubA.f k bt410.1 bt410.2.1 bt410.2.2.1 bt410.2.2.2).bind fun bt438 => ((spec_DrawAffAt.f k l0).bind fun bt444 => ((spec_DrawCoefOf.f k l0).bind fun bt452 => ((impl_AffOk.f k t405 t406).bind fun t458 => ((spec_AffOk.f k t405 t406).bind fun t459 => (if (t458 == t459) = true then (if (bt420.2.2 == bt426.2.2) = true then ((laws_sameAff.f k bt420.1 bt420.2.1 bt426.1 bt426.2.1).bind fun t460 => (if t460 = true then (if (bt432.2.2 == bt438.2.2) = true then ((laws_sameAff.f k bt432.1 bt432.2.1 bt438.1 bt438.2.1).bind fun t461 => (if t461 = true then ((impl_AffAt.f k bt444.1 bt444.2.1 bt444.2.2).bind fun t462 => ((spec_AffAt.f k bt444.1 bt444.2.1 bt444.2.2).bind fun t463 => (if t462 = t463 then ((impl_CoefOf.f k bt452.1 bt452.2.1 bt452.2.2).bind fun t464 => ((spec_CoefOf.f k bt452.1 bt452.2.1 bt452.2.2).bind fun t465 => (some (t464 == t465)))) else (none)))) else (none))) else (none)) else (none))) else (none)) else (none))))))))))) = some r := H
  have A4 := mk0 A40
  clear A40
  replace H := Option.bind_eq_some_iff.mp H
  obtain ⟨⟨t410, t411, t414, t415⟩, A50, H⟩ := H
  replace H : ((impl_AddA.f k t410 t411 t414 t415).bind fun bt420 => ((spec_AddA.f k t410 t411 t414 t415).bind fun bt426 => ((impl_SubA.f k t410 t411 t414 t415).bind fun bt432 => ((spec_SubA.f k t410 t411 t414 t415).bind fun bt438 => ((spec_DrawAffAt.f k l0).bind fun bt444 => ((spec_DrawCoefOf.f k l0).bind fun bt452 => ((impl_AffOk.f k t405 t406).bind fun t458 => ((spec_AffOk.f k t405 t406).bind fun t459 => (if (t458 == t459) = true then (if (bt420.2.2 == bt426.2.2) = true then ((laws_sameAff.f k bt420.1 bt420.2.1 bt426.1 bt426.2.1).bind fun t460 => (if t460 = true then (if (bt432.2.2 == bt438.2.2) = true then ((laws_sameAff.f k bt432.1 bt432.2.1 bt438.1 bt438.2.1).bind fun t461 => (if t461 = true then ((impl_AffAt.f k bt444.1 bt444.2.1 bt444.2.2).bind fun t462 => ((spec_AffAt.f k bt444.1 bt444.2.1 bt444.2.2).bind fun t463 => (if t462 = t463 then ((impl_CoefOf.f k bt452.1 bt452.2.1 bt452.2.2).bind fun t464 => ((spec_CoefOf.f k bt452.1 bt452.2.1 bt452.2.2).bind fun t465 => (some (t464 == t465)))) else (none)))) else (none))) else (none)) else (none))) else (none)) else (none)))))))))) = some r := H
  have A5 := mk0 A50
  clear A50
  replace H := Option.bind_eq_some_iff.mp H
  obtain ⟨⟨t420, t421, t424⟩, A60, H⟩ := H
  replace H : ((spec_AddA.f k t410 t411 t414 t415).bind fun bt426 => ((impl_SubA.f k t410 t411 t414 t415).bind fun bt432 => ((spec_SubA.f k t410 t411 t414 t415).bind fun bt438 => ((spec_DrawAffAt.f k l0).bind fun bt444 => ((spec_DrawCoefOf.f k l0).bind fun bt452 => ((impl_AffOk.f k t405 t406).bind fun t458 => ((spec_AffOk.f k t405 t406).bind fun t459 => (if (t458 == t459) = true then (if (t424 == bt426.2.2) = true then ((laws_sameAff.f k t420 t421 bt426.1 bt426.2.1).bind fun t460 => (if t460 = true then (if (bt432.2.2 == bt438.2.2) = true then ((laws_sameAff.f k bt432.1 bt432.2.1 bt438.1 bt438.2.1).bind fun t461 => (if t461 = true then ((impl_AffAt.f k bt444.1 bt444.2.1 bt444.2.2).bind fun t462 => ((spec_AffAt.f k bt444.1 bt444.2.1 bt444.2.2).bind fun t463 => (if t462 = t463 then ((impl_CoefOf.f k bt452.1 bt452.2.1 bt452.2.2).bind fun t464 => ((spec_CoefOf.f k bt452.1 bt452.2.1 bt452.2.2).bind fun t465 => (some (t464 == t465)))) else (none)))) else (none))) else (none)) else (none))) else (none)) else (none))))))))) = some r := H
  have A6 := mk0 A60
  clear A60
  replace H := Option.bind_eq_some_iff.mp H
  obtain ⟨⟨t426, t427, t430⟩, A70, H⟩ := H
  replace H : ((impl_SubA.f k t410 t411 t414 t415).bind fun bt432 => ((spec_SubA.f k t410 t411 t414 t415).bind fun bt438 => ((spec_DrawAffAt.f k l0).bind fun bt444 => ((spec_DrawCoefOf.f k l0).bind fun bt452 => ((impl_AffOk.f k t405 t406).bind fun t458 => ((spec_AffOk.f k t405 t406).bind fun t459 => (if (t458 == t459) = true then (if (t424 == t430) = true then ((laws_sameAff.f k t420 t421 t426 t427).bind fun t460 => (if t460 = true then (if (bt432.2.2 == bt438.2.2) = true then ((laws_sameAff.f k bt432.1 bt432.2.1 bt438.1 bt438.2.1).bind fun t461 => (if t461 = true then ((impl_AffAt.f k bt444.1 bt444.2.1 bt444.2.2).bind fun t462 => ((spec_AffAt.f k bt444.1 bt444.2.1 bt444.2.2).bind fun t463 => (if t462 = t463 then ((impl_CoefOf.f k bt452.1 bt452.2.1 bt452.2.2).bind fun t464 => ((spec_CoefOf.f k bt452.1 bt452.2.1 bt452.2.2).bind fun t465 => (some (t464 == t465)))) else (none)))) else (none))) else (none)) else (none))) else (none)) else (none)))))))) = some r := H
  have A7 := mk0 A70
  clear A70
  replace H := Option.bind_eq_some_iff.mp H
  obtain ⟨⟨t432, t433, t436⟩, A80, H⟩ := H
  replace H : ((spec_SubA.f k t410 t411 t414 t415).bind fun bt438 => ((spec_DrawAffAt.f k l0).bind fun bt444 => ((spec_DrawCoefOf.f k l0).bind fun bt452 => ((impl_AffOk.f k t405 t406).bind fun t458 => ((spec_AffOk.f k t405 t406).bind fun t459 => (if (t458 == t459) = true then (if (t424 == t430) = true then ((laws_sameAff.f k t420 t421 t426 t427).bind fun t460 => (if t460 = true then (if (t436 == bt438.2.2) = true then ((laws_sameAff.f k t432 t433 bt438.1 bt438.2.1).bind fun t461 => (if t461 = true then ((impl_AffAt.f k bt444.1 bt444.2.1 bt444.2.2).bind fun t462 => ((spec_AffAt.f k bt444.1 bt444.2.1 bt444.2.2).bind fun t463 => (if t462 = t463 then ((impl_CoefOf.f k bt452.1 bt452.2.1 bt452.2.2).bind fun t464 => ((spec_CoefOf.f k bt452.1 bt452.2.1 bt452.2.2).bind fun t465 => (some (t464 == t465)))) else (none)))) else (none))) else (none)) else (none))) else (none)) else (none))))))) = some r := H
  have A8 := mk0 A80
  clear A80
  replace H := Option.bind_eq_some_iff.mp H
  obtain ⟨⟨t438, t439, t442⟩, A90, H⟩ := H
  replace H : ((spec_DrawAffAt.f k l0).bind fun bt444 => ((spec_DrawCoefOf.f k l0).bind fun bt452 => ((impl_AffOk.f k t405 t406).bind fun t458 => ((spec_AffOk.f k t405 t406).bind fun t459 => (if (t458 == t459) = true then (if (t424 == t430) = true then ((laws_sameAff.f k t420 t421 t426 t427).bind fun t460 => (if t460 = true then (if (t436 == t442) = true then ((laws_sameAff.f k t432 t433 t438 t439).bind fun t461 => (if t461 = true then ((impl_AffAt.f k bt444.1 bt444.2.1 bt444.2.2).bind fun t462 => ((spec_AffAt.f k bt444.1 bt444.2.1 bt444.2.2).bind fun t463 => (if t462 = t463 then ((impl_CoefOf.f k bt452.1 bt452.2.1 bt452.2.2).bind fun t464 => ((spec_CoefOf.f k bt452.1 bt452.2.1 bt452.2.2).bind fun t465 => (some (t464 == t465)))) else (none)))) else (none))) else (none)) else (none))) else (none)) else (none)))))) = some r := H
  have A9 := mk0 A90
  clear A90
  replace H := Option.bind_eq_some_iff.mp H
  obtain ⟨⟨t444, t445, t448⟩, A100, H⟩ := H
  replace H : ((spec_DrawCoefOf.f k l0).bind fun bt452 => ((impl_AffOk.f k t405 t406).bind fun t458 => ((spec_AffOk.f k t405 t406).bind fun t459 => (if (t458 == t459) = true then (if (t424 == t430) = true then ((laws_sameAff.f k t420 t421 t426 t427).bind fun t460 => (if t460 = true then (if (t436 == t442) = true then ((laws_sameAff.f k t432 t433 t438 t439).bind fun t461 => (if t461 = true then ((impl_AffAt.f k t444 t445 t448).bind fun t462 => ((spec_AffAt.f k t444 t445 t448).bind fun t463 => (if t462 = t463 then ((impl_CoefOf.f k bt452.1 bt452.2.1 bt452.2.2).bind fun t464 => ((spec_CoefOf.f k bt452.1 bt452.2.1 bt452.2.2).bind fun t465 => (some (t464 == t465)))) else (none)))) else (none))) else (none)) else (none))) else (none)) else (none))))) = some r := H
  have A10 := mk0 A100
  clear A100
  replace H := Option.bind_eq_some_iff.mp H
  obtain ⟨⟨t452, t453, t456⟩, A110, H⟩ := H
  replace H : ((impl_AffOk.f k t405 t406).bind fun t458 => ((spec_AffOk.f k t405 t406).bind fun t459 => (if (t458 == t459) = true then (if (t424 == t430) = true then ((laws_sameAff.f k t420 t421 t426 t427).bind fun t460 => (if t460 = true then (if (t436 == t442) = true then ((laws_sameAff.f k t432 t433 t438 t439).bind fun t461 => (if t461 = true then ((impl_AffAt.f k t444 t445 t448).bind fun t462 => ((spec_AffAt.f k t444 t445 t448).bind fun t463 => (if t462 = t463 then ((impl_CoefOf.f k t452 t453 t456).bind fun t464 => ((spec_CoefOf.f k t452 t453 t456).bind fun t465 => (some (t464 == t465)))) else (none)))) else (none))) else (none)) else (none))) else (none)) else (none)))) = some r := H
  have A11 := mk0 A110
  clear A110
  obtain ⟨t458, A12, H⟩ := bindA H
  obtain ⟨t459, A13, H⟩ := bindA H
  by_cases c14 : (t458 == t459) = true
  ·rw [if_pos c14] at H
   have c14b0 : (t458 == t459) = true := c14
   (try (have c14b1 : decide (t458 = t459) = true := by simpa using c14))
   (try (have c14b2 : (t458 == t459) = true := by simpa using c14))
   clear c14
   by_cases c15 : (t424 == t430) = true
   ·rw [if_pos c15] at H
    have c15b0 : (t424 == t430) = true := c15
    (try (have c15b1 : decide (t424 = t430) = true := by simpa using c15))
    (try (have c15b2 : (t424 == t430) = true := by simpa using c15))
    clear c15
    obtain ⟨t460, A16, H⟩ := bindA H
    by_cases c17 : t460 = true
    ·subst c17
     rw [if_pos rfl] at H
     by_cases c18 : (t436 == t442) = true
     ·rw [if_pos c18] at H
      have c18b0 : (t436 == t442) = true := c18
      (try (have c18b1 : decide (t436 = t442) = true := by simpa using c18))
      (try (have c18b2 : (t436 == t442) = true := by simpa using c18))
      clear c18
      obtain ⟨t461, A19, H⟩ := bindA H
      by_cases c20 : t461 = true
      ·subst c20
       rw [if_pos rfl] at H
       obtain ⟨t462, A21, H⟩ := bindA H
       obtain ⟨t463, A22, H⟩ := bindA H
       by_cases c23 : t462 = t463
       ·rw [if_pos c23] at H
        have c23b0 : (t462 == t463) = true := beq_iff_eq.mpr c23
        have c23b1 : (t462 != t463) = false := bne_eq_false_iff_eq.mpr c23
        clear c23
        obtain ⟨t464, A24, H⟩ := bindA H
        obtain ⟨t465, A25, H⟩ := bindA H
        obtain rfl := Option.some.inj H
        go_enter Try.func6, Try.ntmps6
        try go_wp2_with (first | ((with_reducible refine gate_callee (f := 17) rfl ?_); refine goesL_ (some 19) rfl rfl Try.func17 (by kernel_rfl) rfl #[.slice A0 l0.length c0] rfl (by (try simp only [List.map_toArray, List.map_cons, List.map_nil]); first | done | rfl) ?_; (with_reducible refine (laws_big.calls _ _ l0 false _ ?side1 ?side2 A2.out).mono ?_); (case side1 => repeat (first | exact HR0.out | (with_reducible refine cA ?_ _) | (with_reducible refine cN ?_ _) | (with_reducible refine cD ?_))); (case side2 => exact HC0.out); rintro e w' ⟨rfl, ⟨nd, rfl⟩⟩; refine ⟨_, rfl, ?_⟩) | ((with_reducible refine gate_callee (f := 23) rfl ?_); refine goesL_ (some 21) rfl rfl Try.func23 (by kernel_rfl) rfl #[.slice A0 l0.length c0] rfl (by (try simp only [List.map_toArray, List.map_cons, List.map_nil]); first | done | rfl) ?_; (with_reducible refine (spec_DrawAffOk.calls k _ _ l0 t405 t406 _ ?side1 ?side2 A4.out).mono ?_); (case side1 => repeat (first | exact HR0.out | (with_reducible refine cA ?_ _) | (with_reducible refine cN ?_ _) | (with_reducible refine cD ?_))); (case side2 => exact HC0.out); rintro e w26 ⟨v407, rfl, ho0, hb⟩; refine ⟨_, rfl, ?_⟩; have q_ := qB (by repeat (first | (with_reducible first | exact HB.out | apply bA | apply bN | apply bD) | exact HB.out)) hb; have n0_ := mk0 (Kd.R_lower ho0 (below_size q_)); have n1_ := mk0 (below_step q_ hb); clear HB; have HO408 := n0_; have HB := n1_; clear q_ n0_ n1_; (try clear hb); (try clear hb2); (try clear hk); (try clear hi); (try clear ho0)) | ((with_reducible refine gate_dst (N := 3) rfl ?_); refine box_event ?hg (N := 3) ?hd (cs := #[.int .i64 0, .slice none 0 0]) (t := 28) ?hr ?_; (case hd => rfl); (case hg => rfl); (case hr => first | (go_simp; done) | (go_simp; rfl)); intro gb409 hg w27 hbox hb; have q_ := qB (by repeat (first | (with_reducible first | exact HB.out | apply bA | apply bN | apply bD) | exact HB.out)) hb; have n0_ := mk0 (Kd.R_below (by (with_reducible repeat (first | apply Kd.R_alloc | apply Kd.R_drewN | apply Kd.R_drew)); exact HO408.out) hb); have n1_ := mk0 (below_step q_ hb); have n2_ := mk0 (hbox); have n3_ := mk0 ((by rw [hg]; exact (below_size q_) : w.heap.size ≤ gb409)); have n4_ := n3_; clear HO408; clear HB; have HO408 := n0_; have HB := n1_; have BK409 := n2_; have GW409 := n3_; have GE409 := n4_; clear q_ n0_ n1_ n2_ n3_ n4_; clear hb hbox hg; have z28 := bc2 BK409.out; obtain ⟨Ao29, co29, eo29⟩ := Kd.R_slice HO408.out; subst eo29) | ((with_reducible refine gate_callee (f := 24) rfl ?_); refine goesL_ (some 24) rfl rfl Try.func24 (by kernel_rfl) rfl #[.slice A0 l0.length c0] rfl (by (try simp only [List.map_toArray, List.map_cons, List.map_nil]); first | done | rfl) ?_; (with_reducible refine (spec_DrawAddA.calls k _ _ l0 t410 t411 t414 t415 _ ?side1 ?side2 A5.out).mono ?_); (case side1 => exact Kd.C_below HR0.out (by repeat (first | (with_reducible first | exact HB.out | apply bA | apply bN | apply bD | refine bS ?_ GE409.out) | exact HB.out))); (case side2 => exact HC0.out); rintro e w30 ⟨v412, v416, rfl, ho0, ho1, hb⟩; refine ⟨_, rfl, ?_⟩; have q_ := qB (by repeat (first | (with_reducible first | exact HB.out | apply bA | apply bN | apply bD | refine bS ?_ GE409.out) | exact HB.out)) hb; have n0_ := mk0 (Kd.R_mono (Kd.R_told (Kd.R_told (Kd.R_old (by (with_reducible repeat (first | apply Kd.R_alloc | apply Kd.R_drewN | apply Kd.R_drew)); exact (Kd.R_mono (Kd.R_far (p := ⟨gb409, 1, none⟩) (Kd.R_far (p := ⟨gb409, 0, none⟩) (Kd.R_types HO408.out BK409.out (by decide)) (fun _ hk => hk.2) (.int .i64 t405)) (fun _ hk => hk.2) (.slice Ao29 t406.length co29)) (fun _ h_ => h_.1))) hb) (Kd.R_base ho0)) (Kd.R_base ho1)) (fun _ h_ => h_.1)); have n1_ := mk0 (Kd.R_lower (Kd.R_new' ho0 (Kd.R_lt (by (with_reducible repeat (first | apply Kd.R_alloc | apply Kd.R_drewN | apply Kd.R_drew)); exact (Kd.R_mono (Kd.R_far (p := ⟨gb409, 1, none⟩) (Kd.R_far (p := ⟨gb409, 0, none⟩) (Kd.R_types HO408.out BK409.out (by decide)) (fun _ hk => hk.2) (.int .i64 t405)) (fun _ hk => hk.2) (.slice Ao29 t406.length co29)) (fun _ h_ => h_.1))))) (below_size q_)); have n2_ := mk0 (Kd.R_lower (Kd.R_new' ho1 (Kd.R_lt (by (with_reducible repeat (first | apply Kd.R_alloc | apply Kd.R_drewN | apply Kd.R_drew)); exact (Kd.R_mono (Kd.R_far (p := ⟨gb409, 1, none⟩) (Kd.R_far (p := ⟨gb409, 0, none⟩) (Kd.R_types HO408.out BK409.out (by decide)) (fun _ hk => hk.2) (.int .i64 t405)) (fun _ hk => hk.2) (.slice Ao29 t406.length co29)) (fun _ h_ => h_.1))))) (below_size q_)); have n3_ := mk0 (blk_below (g := gb409) (o := .cells #[.int .i64 t405, .slice Ao29 t406.length co29] 28 (0, 0)) (by (with_reducible repeat (first | refine kN ?_ _ | refine kD ?_ | refine kA ?_ _)); refine blk_put (cs := #[.int .i64 t405, .slice none 0 0]) ?_ 1 _ rfl; (with_reducible repeat (first | refine kN ?_ _ | refine kD ?_ | refine kA ?_ _)); refine blk_put (cs := #[.int .i64 0, .slice none 0 0]) ?_ 0 _ rfl; (with_reducible repeat (first | refine kN ?_ _ | refine kD ?_ | refine kA ?_ _)); exact BK409.out) hb); have n4_ := mk0 (below_step q_ hb); clear HO408; clear BK409; clear HB; have HO408 := n0_; have HO413 := n1_; have HO417 := n2_; have BK409 := n3_; have HB := n4_; clear q_ n0_ n1_ n2_ n3_ n4_; (try clear hb); (try clear hb2); (try clear hk); (try clear hi); (try clear ho0); (try clear ho1)) | ((with_reducible refine gate_dst (N := 4) rfl ?_); refine box_event ?hg (N := 4) ?hd (cs := #[.int .i64 0, .slice none 0 0]) (t := 28) ?hr ?_; (case hd => rfl); (case hg => rfl); (case hr => first | (go_simp; done) | (go_simp; rfl)); intro gb418 hg w31 hbox hb; have q_ := qB (by repeat (first | (with_reducible first | exact HB.out | apply bA | apply bN | apply bD | refine bS ?_ GE409.out) | exact HB.out)) hb; have n0_ := mk0 (Kd.R_below (by (with_reducible repeat (first | apply Kd.R_alloc | apply Kd.R_drewN | apply Kd.R_drew)); exact HO408.out) hb); have n1_ := mk0 (Kd.R_below (by (with_reducible repeat (first | apply Kd.R_alloc | apply Kd.R_drewN | apply Kd.R_drew)); exact HO413.out) hb); have n2_ := mk0 (Kd.R_below (by (with_reducible repeat (first | apply Kd.R_alloc | apply Kd.R_drewN | apply Kd.R_drew)); exact HO417.out) hb); have n3_ := mk0 (blk_below (by (with_reducible repeat (first | refine kN ?_ _ | refine kD ?_ | refine kA ?_ _)); exact BK409.out) hb); have n4_ := mk0 (below_step q_ hb); have n5_ := mk0 (hbox); have n6_ := mk0 ((by rw [hg]; exact (below_size q_) : w.heap.size ≤ gb418)); have n7_ := n6_; have n8_ := mk0 ((by rw [hg]; exact Nat.ne_of_lt (blk_lt (by (with_reducible repeat (first | refine kN ?_ _ | refine kD ?_ | refine kA ?_ _)); exact BK409.out)) : gb409 ≠ gb418)); have n9_ := mk0 ((by rw [hg]; exact Nat.ne_of_gt (blk_lt (by (with_reducible repeat (first | refine kN ?_ _ | refine kD ?_ | refine kA ?_ _)); exact BK409.out)) : gb418 ≠ gb409)); clear HO408; clear HO413; clear HO417; clear BK409; clear HB; have HO408 := n0_; have HO413 := n1_; have HO417 := n2_; have BK409 := n3_; have HB := n4_; have BK418 := n5_; have GW418 := n6_; have GE418 := n7_; have NB409_418 := n8_; have NB418_409 := n9_; clear q_ n0_ n1_ n2_ n3_ n4_ n5_ n6_ n7_ n8_ n9_; clear hb hbox hg) | ((with_reducible refine gate_dst (N := 5) rfl ?_); refine box_event ?hg (N := 5) ?hd (cs := #[.int .i64 0, .slice none 0 0]) (t := 28) ?hr ?_; (case hd => rfl); (case hg => rfl); (case hr => first | (go_simp; done) | (go_simp; rfl)); intro gb419 hg w32 hbox hb; have q_ := qB (by repeat (first | (with_reducible first | exact HB.out | apply bA | apply bN | apply bD | refine bS ?_ GE409.out | refine bS ?_ GE418.out) | exact HB.out)) hb; have n0_ := mk0 (Kd.R_below (by (with_reducible repeat (first | apply Kd.R_alloc | apply Kd.R_drewN | apply Kd.R_drew)); exact HO408.out) hb); have n1_ := mk0 (Kd.R_below (by (with_reducible repeat (first | apply Kd.R_alloc | apply Kd.R_drewN | apply Kd.R_drew)); exact HO413.out) hb); have n2_ := mk0 (Kd.R_below (by (with_reducible repeat (first | apply Kd.R_alloc | apply Kd.R_drewN | apply Kd.R_drew)); exact HO417.out) hb); have n3_ := mk0 (blk_below (by (with_reducible repeat (first | refine kN ?_ _ | refine kD ?_ | refine kA ?_ _)); exact BK409.out) hb); have n4_ := mk0 (blk_below (by (with_reducible repeat (first | refine kN ?_ _ | refine kD ?_ | refine kA ?_ _)); exact BK418.out) hb); have n5_ := mk0 (below_step q_ hb); have n6_ := mk0 (hbox); have n7_ := mk0 (below_size2 q_ hg); have n8_ := n7_; have n9_ := mk0 ((by rw [hg]; exact Nat.ne_of_lt (blk_lt (by (with_reducible repeat (first | refine kN ?_ _ | refine kD ?_ | refine kA ?_ _)); exact BK409.out)) : gb409 ≠ gb419)); have n10_ := mk0 ((by rw [hg]; exact Nat.ne_of_gt (blk_lt (by (with_reducible repeat (first | refine kN ?_ _ | refine kD ?_ | refine kA ?_ _)); exact BK409.out)) : gb419 ≠ gb409)); have n11_ := mk0 ((by rw [hg]; exact Nat.ne_of_lt (blk_lt (by (with_reducible repeat (first | refine kN ?_ _ | refine kD ?_ | refine kA ?_ _)); exact BK418.out)) : gb418 ≠ gb419)); have n12_ := mk0 ((by rw [hg]; exact Nat.ne_of_gt (blk_lt (by (with_reducible repeat (first | refine kN ?_ _ | refine kD ?_ | refine kA ?_ _)); exact BK418.out)) : gb419 ≠ gb418)); clear HO408; clear HO413; clear HO417; clear BK409; clear BK418; clear HB; have HO408 := n0_; have HO413 := n1_; have HO417 := n2_; have BK409 := n3_; have BK418 := n4_; have HB := n5_; have BK419 := n6_; have GW419 := n7_; have GE419 := n8_; have NB409_419 := n9_; have NB419_409 := n10_; have NB418_419 := n11_; have NB419_418 := n12_; clear q_ n0_ n1_ n2_ n3_ n4_ n5_ n6_ n7_ n8_ n9_ n10_ n11_ n12_; clear hb hbox hg; have hnb33 := NB418_409.out; have hnc33 := NB409_418.out; have hnb34 := NB418_419.out; have hnc34 := NB419_418.out; have z35 := bc2 BK418.out; obtain ⟨Ao36, co36, eo36⟩ := Kd.R_slice HO413.out; subst eo36; have hnb37 := NB419_409.out; have hnc37 := NB409_419.out; have z38 := bc2 BK419.out; obtain ⟨Ao39, co39, eo39⟩ := Kd.R_slice HO417.out; subst eo39) | ((with_reducible refine gate_callee (f := 11) rfl ?_); refine goesL_ (some 30) rfl rfl Try.func11 (by kernel_rfl) rfl #[.agg #[.int .i64 t410, .slice Ao36 t411.length co36], .agg #[.int .i64 t414, .slice Ao39 t415.length co39]] rfl (by (try simp only [List.map_toArray, List.map_cons, List.map_nil]); first | done | rfl) ?_; (with_reducible refine (impl_AddA.calls k t410 _ _ t411 t414 _ _ t415 t420 t421 t424 _ ?side1 ?side2 ?side3 ?side4 A6.out).mono ?_); (case side1 => refine (Kd.R_reads' (e := 70) (base := w.heap.size) (ok := fun k_ => (some k_ ≠ (.slice Ao39 t415.length co39 : Value).ownBlock ∧ some k_ ≠ (.slice Ao29 t406.length co29 : Value).ownBlock)) (n := t411.length) (c := co36) ?_).2.2; exact (by (with_reducible repeat (first | apply Kd.R_alloc | apply Kd.R_drewN | apply Kd.R_drew)); exact (Kd.R_mono (Kd.R_mono (Kd.R_far (p := ⟨gb419, 1, none⟩) (Kd.R_far (p := ⟨gb419, 0, none⟩) (Kd.R_far (p := ⟨gb418, 1, none⟩) (Kd.R_far (p := ⟨gb418, 0, none⟩) (Kd.R_types (Kd.R_types HO413.out BK418.out (by decide)) BK419.out (by decide)) (fun _ hk => hk.1.2) (.int .i64 t410)) (fun _ hk => hk.1.2) (.slice Ao36 t411.length co36)) (fun _ hk => hk.2) (.int .i64 t414)) (fun _ hk => hk.2) (.slice Ao39 t415.length co39)) (fun _ h_ => h_.1)) (fun _ h_ => h_.1)))); (case side2 => exact (Kd.R_reads' HO413.out).2.1); (case side3 => refine (Kd.R_reads' (e := 70) (base := w.heap.size) (ok := fun k_ => (some k_ ≠ (.slice Ao36 t411.length co36 : Value).ownBlock ∧ some k_ ≠ (.slice Ao29 t406.length co29 : Value).ownBlock)) (n := t415.length) (c := co39) ?_).2.2; exact (by (with_reducible repeat (first | apply Kd.R_alloc | apply Kd.R_drewN | apply Kd.R_drew)); exact (Kd.R_mono (Kd.R_mono (Kd.R_far (p := ⟨gb419, 1, none⟩) (Kd.R_far (p := ⟨gb419, 0, none⟩) (Kd.R_far (p := ⟨gb418, 1, none⟩) (Kd.R_far (p := ⟨gb418, 0, none⟩) (Kd.R_types (Kd.R_types HO417.out BK418.out (by decide)) BK419.out (by decide)) (fun _ hk => hk.1.2) (.int .i64 t410)) (fun _ hk => hk.1.2) (.slice Ao36 t411.length co36)) (fun _ hk => hk.2) (.int .i64 t414)) (fun _ hk => hk.2) (.slice Ao39 t415.length co39)) (fun _ h_ => h_.1)) (fun _ h_ => h_.1)))); (case side4 => exact (Kd.R_reads' HO417.out).2.1); rintro e w40 ⟨v422, rfl, ho0, hb⟩; refine ⟨_, rfl, ?_⟩; have q_ := qB (by repeat (first | (with_reducible first | exact HB.out | apply bA | apply bN | apply bD | refine bS ?_ GE409.out | refine bS ?_ GE418.out | refine bS ?_ GE419.out) | exact HB.out)) hb; have n0_ := mk0 (Kd.R_elder' (by (with_reducible repeat (first | apply Kd.R_alloc | apply Kd.R_drewN | apply Kd.R_drew)); exact (Kd.R_mono (Kd.R_mono (Kd.R_far (p := ⟨gb419, 1, none⟩) (Kd.R_far (p := ⟨gb419, 0, none⟩) (Kd.R_far (p := ⟨gb418, 1, none⟩) (Kd.R_far (p := ⟨gb418, 0, none⟩) (Kd.R_types (Kd.R_types HO408.out BK418.out (by decide)) BK419.out (by decide)) (fun _ hk => hk.1.2) (.int .i64 t410)) (fun _ hk => hk.1.2) (.slice Ao36 t411.length co36)) (fun _ hk => hk.2) (.int .i64 t414)) (fun _ hk => hk.2) (.slice Ao39 t415.length co39)) (fun _ h_ => h_.1)) (fun _ h_ => h_.1))) (Kd.R_base ho0) hb); have n1_ := mk0 (Kd.R_elder' (by (with_reducible repeat (first | apply Kd.R_alloc | apply Kd.R_drewN | apply Kd.R_drew)); exact (Kd.R_mono (Kd.R_mono (Kd.R_far (p := ⟨gb419, 1, none⟩) (Kd.R_far (p := ⟨gb419, 0, none⟩) (Kd.R_far (p := ⟨gb418, 1, none⟩) (Kd.R_far (p := ⟨gb418, 0, none⟩) (Kd.R_types (Kd.R_types HO413.out BK418.out (by decide)) BK419.out (by decide)) (fun _ hk => hk.1.2) (.int .i64 t410)) (fun _ hk => hk.1.2) (.slice Ao36 t411.length co36)) (fun _ hk => hk.2) (.int .i64 t414)) (fun _ hk => hk.2) (.slice Ao39 t415.length co39)) (fun _ h_ => h_.1)) (fun _ h_ => h_.1))) (Kd.R_base ho0) hb); have n2_ := mk0 (Kd.R_elder' (by (with_reducible repeat (first | apply Kd.R_alloc | apply Kd.R_drewN | apply Kd.R_drew)); exact (Kd.R_mono (Kd.R_mono (Kd.R_far (p := ⟨gb419, 1, none⟩) (Kd.R_far (p := ⟨gb419, 0, none⟩) (Kd.R_far (p := ⟨gb418, 1, none⟩) (Kd.R_far (p := ⟨gb418, 0, none⟩) (Kd.R_types (Kd.R_types HO417.out BK418.out (by decide)) BK419.out (by decide)) (fun _ hk => hk.1.2) (.int .i64 t410)) (fun _ hk => hk.1.2) (.slice Ao36 t411.length co36)) (fun _ hk => hk.2) (.int .i64 t414)) (fun _ hk => hk.2) (.slice Ao39 t415.length co39)) (fun _ h_ => h_.1)) (fun _ h_ => h_.1))) (Kd.R_base ho0) hb); have n3_ := mk0 (Kd.R_lower (Kd.R_new' (Kd.R_new' (Kd.R_new' ho0 (Kd.R_lt (by (with_reducible repeat (first | apply Kd.R_alloc | apply Kd.R_drewN | apply Kd.R_drew)); exact (Kd.R_mono (Kd.R_mono (Kd.R_far (p := ⟨gb419, 1, none⟩) (Kd.R_far (p := ⟨gb419, 0, none⟩) (Kd.R_far (p := ⟨gb418, 1, none⟩) (Kd.R_far (p := ⟨gb418, 0, none⟩) (Kd.R_types (Kd.R_types HO408.out BK418.out (by decide)) BK419.out (by decide)) (fun _ hk => hk.1.2) (.int .i64 t410)) (fun _ hk => hk.1.2) (.slice Ao36 t411.length co36)) (fun _ hk => hk.2) (.int .i64 t414)) (fun _ hk => hk.2) (.slice Ao39 t415.length co39)) (fun _ h_ => h_.1)) (fun _ h_ => h_.1))))) (Kd.R_lt (by (with_reducible repeat (first | apply Kd.R_alloc | apply Kd.R_drewN | apply Kd.R_drew)); exact (Kd.R_mono (Kd.R_mono (Kd.R_far (p := ⟨gb419, 1, none⟩) (Kd.R_far (p := ⟨gb419, 0, none⟩) (Kd.R_far (p := ⟨gb418, 1, none⟩) (Kd.R_far (p := ⟨gb418, 0, none⟩) (Kd.R_types (Kd.R_types HO413.out BK418.out (by decide)) BK419.out (by decide)) (fun _ hk => hk.1.2) (.int .i64 t410)) (fun _ hk => hk.1.2) (.slice Ao36 t411.length co36)) (fun _ hk => hk.2) (.int .i64 t414)) (fun _ hk => hk.2) (.slice Ao39 t415.length co39)) (fun _ h_ => h_.1)) (fun _ h_ => h_.1))))) (Kd.R_lt (by (with_reducible repeat (first | apply Kd.R_alloc | apply Kd.R_drewN | apply Kd.R_drew)); exact (Kd.R_mono (Kd.R_mono (Kd.R_far (p := ⟨gb419, 1, none⟩) (Kd.R_far (p := ⟨gb419, 0, none⟩) (Kd.R_far (p := ⟨gb418, 1, none⟩) (Kd.R_far (p := ⟨gb418, 0, none⟩) (Kd.R_types (Kd.R_types HO417.out BK418.out (by decide)) BK419.out (by decide)) (fun _ hk => hk.1.2) (.int .i64 t410)) (fun _ hk => hk.1.2) (.slice Ao36 t411.length co36)) (fun _ hk => hk.2) (.int .i64 t414)) (fun _ hk => hk.2) (.slice Ao39 t415.length co39)) (fun _ h_ => h_.1)) (fun _ h_ => h_.1))))) (below_size q_)); have n4_ := mk0 (blk_below (g := gb409) (o := .cells #[.int .i64 t405, .slice Ao29 t406.length co29] 28 (0, 0)) (by (with_reducible repeat (first | refine kN ?_ _ | refine kD ?_ | refine kA ?_ _)); refine blk_far ?_ NB409_419.out _; (with_reducible repeat (first | refine kN ?_ _ | refine kD ?_ | refine kA ?_ _)); refine blk_far ?_ NB409_419.out _; (with_reducible repeat (first | refine kN ?_ _ | refine kD ?_ | refine kA ?_ _)); refine blk_far ?_ NB409_418.out _; (with_reducible repeat (first | refine kN ?_ _ | refine kD ?_ | refine kA ?_ _)); refine blk_far ?_ NB409_418.out _; (with_reducible repeat (first | refine kN ?_ _ | refine kD ?_ | refine kA ?_ _)); exact BK409.out) hb); have n5_ := mk0 (blk_below (g := gb418) (o := .cells #[.int .i64 t410, .slice Ao36 t411.length co36] 28 (0, 0)) (by (with_reducible repeat (first | refine kN ?_ _ | refine kD ?_ | refine kA ?_ _)); refine blk_far ?_ NB418_419.out _; (with_reducible repeat (first | refine kN ?_ _ | refine kD ?_ | refine kA ?_ _)); refine blk_far ?_ NB418_419.out _; (with_reducible repeat (first | refine kN ?_ _ | refine kD ?_ | refine kA ?_ _)); refine blk_put (cs := #[.int .i64 t410, .slice none 0 0]) ?_ 1 _ rfl; (with_reducible repeat (first | refine kN ?_ _ | refine kD ?_ | refine kA ?_ _)); refine blk_put (cs := #[.int .i64 0, .slice none 0 0]) ?_ 0 _ rfl; (with_reducible repeat (first | refine kN ?_ _ | refine kD ?_ | refine kA ?_ _)); exact BK418.out) hb); have n6_ := mk0 (blk_below (g := gb419) (o := .cells #[.int .i64 t414, .slice Ao39 t415.length co39] 28 (0, 0)) (by (with_reducible repeat (first | refine kN ?_ _ | refine kD ?_ | refine kA ?_ _)); refine blk_put (cs := #[.int .i64 t414, .slice none 0 0]) ?_ 1 _ rfl; (with_reducible repeat (first | refine kN ?_ _ | refine kD ?_ | refine kA ?_ _)); refine blk_put (cs := #[.int .i64 0, .slice none 0 0]) ?_ 0 _ rfl; (with_reducible repeat (first | refine kN ?_ _ | refine kD ?_ | refine kA ?_ _)); refine blk_far ?_ NB419_418.out _; (with_reducible repeat (first | refine kN ?_ _ | refine kD ?_ | refine kA ?_ _)); refine blk_far ?_ NB419_418.out _; (with_reducible repeat (first | refine kN ?_ _ | refine kD ?_ | refine kA ?_ _)); exact BK419.out) hb); have n7_ := mk0 (below_step q_ hb); clear HO408; clear HO413; clear HO417; clear BK409; clear BK418; clear BK419; clear HB; have HO408 := n0_; have HO413 := n1_; have HO417 := n2_; have HO423 := n3_; have BK409 := n4_; have BK418 := n5_; have BK419 := n6_; have HB := n7_; clear q_ n0_ n1_ n2_ n3_ n4_ n5_ n6_ n7_; (try clear hb); (try clear hb2); (try clear hk); (try clear hi); (try clear ho0)) | ((with_reducible refine gate_dst (N := 6) rfl ?_); refine box_event ?hg (N := 6) ?hd (cs := #[.int .i64 0, .slice none 0 0]) (t := 28) ?hr ?_; (case hd => rfl); (case hg => rfl); (case hr => first | (go_simp; done) | (go_simp; rfl)); intro gb425 hg w41 hbox hb; have q_ := qB (by repeat (first | (with_reducible first | exact HB.out | apply bA | apply bN | apply bD | refine bS ?_ GE409.out | refine bS ?_ GE418.out | refine bS ?_ GE419.out) | exact HB.out)) hb; have n0_ := mk0 (Kd.R_below (by (with_reducible repeat (first | apply Kd.R_alloc | apply Kd.R_drewN | apply Kd.R_drew)); exact HO408.out) hb); have n1_ := mk0 (Kd.R_below (by (with_reducible repeat (first | apply Kd.R_alloc | apply Kd.R_drewN | apply Kd.R_drew)); exact HO413.out) hb); have n2_ := mk0 (Kd.R_below (by (with_reducible repeat (first | apply Kd.R_alloc | apply Kd.R_drewN | apply Kd.R_drew)); exact HO417.out) hb); have n3_ := mk0 (Kd.R_below (by (with_reducible repeat (first | apply Kd.R_alloc | apply Kd.R_drewN | apply Kd.R_drew)); exact HO423.out) hb); have n4_ := mk0 (blk_below (by (with_reducible repeat (first | refine kN ?_ _ | refine kD ?_ | refine kA ?_ _)); exact BK409.out) hb); have n5_ := mk0 (blk_below (by (with_reducible repeat (first | refine kN ?_ _ | refine kD ?_ | refine kA ?_ _)); exact BK418.out) hb); have n6_ := mk0 (blk_below (by (with_reducible repeat (first | refine kN ?_ _ | refine kD ?_ | refine kA ?_ _)); exact BK419.out) hb); have n7_ := mk0 (below_step q_ hb); have n8_ := mk0 (hbox); have n9_ := mk0 ((by rw [hg]; exact (below_size q_) : w.heap.size ≤ gb425)); have n10_ := n9_; have n11_ := mk0 ((by rw [hg]; exact Nat.ne_of_lt (blk_lt (by (with_reducible repeat (first | refine kN ?_ _ | refine kD ?_ | refine kA ?_ _)); exact BK409.out)) : gb409 ≠ gb425)); have n12_ := mk0 ((by rw [hg]; exact Nat.ne_of_gt (blk_lt (by (with_reducible repeat (first | refine kN ?_ _ | refine kD ?_ | refine kA ?_ _)); exact BK409.out)) : gb425 ≠ gb409)); have n13_ := mk0 ((by rw [hg]; exact Nat.ne_of_lt (blk_lt (by (with_reducible repeat (first | refine kN ?_ _ | refine kD ?_ | refine kA ?_ _)); exact BK418.out)) : gb418 ≠ gb425)); have n14_ := mk0 ((by rw [hg]; exact Nat.ne_of_gt (blk_lt (by (with_reducible repeat (first | refine kN ?_ _ | refine kD ?_ | refine kA ?_ _)); exact BK418.out)) : gb425 ≠ gb418)); have n15_ := mk0 ((by rw [hg]; exact Nat.ne_of_lt (blk_lt (by (with_reducible repeat (first | refine kN ?_ _ | refine kD ?_ | refine kA ?_ _)); exact BK419.out)) : gb419 ≠ gb425)); have n16_ := mk0 ((by rw [hg]; exact Nat.ne_of_gt (blk_lt (by (with_reducible repeat (first | refine kN ?_ _ | refine kD ?_ | refine kA ?_ _)); exact BK419.out)) : gb425 ≠ gb419)); clear HO408; clear HO413; clear HO417; clear HO423; clear BK409; clear BK418; clear BK419; clear HB; have HO408 := n0_; have HO413 := n1_; have HO417 := n2_; have HO423 := n3_; have BK409 := n4_; have BK418 := n5_; have BK419 := n6_; have HB := n7_; have BK425 := n8_; have GW425 := n9_; have GE425 := n10_; have NB409_425 := n11_; have NB425_409 := n12_; have NB418_425 := n13_; have NB425_418 := n14_; have NB419_425 := n15_; have NB425_419 := n16_; clear q_ n0_ n1_ n2_ n3_ n4_ n5_ n6_ n7_ n8_ n9_ n10_ n11_ n12_ n13_ n14_ n15_ n16_; clear hb hbox hg; have hnb42 := NB425_409.out; have hnc42 := NB409_425.out; have hnb43 := NB425_418.out; have hnc43 := NB418_425.out; have hnb44 := NB425_419.out; have hnc44 := NB419_425.out; have z45 := bc2 BK425.out; obtain ⟨Ao46, co46, eo46⟩ := Kd.R_slice HO423.out; subst eo46; have z47 := bc2 BK418.out; have z48 := bc2 BK419.out) | ((with_reducible refine gate_callee (f := 9) rfl ?_); refine goesL_ (some 36) rfl rfl Try.func9 (by kernel_rfl) rfl #[.agg #[.int .i64 t410, .slice Ao36 t411.length co36], .agg #[.int .i64 t414, .slice Ao39 t415.length co39]] rfl (by (try simp only [List.map_toArray, List.map_cons, List.map_nil]); first | done | rfl) ?_; (with_reducible refine (spec_AddA.calls k t410 _ _ t411 t414 _ _ t415 t426 t427 t430 _ ?side1 ?side2 ?side3 ?side4 A7.out).mono ?_); (case side1 => refine (Kd.R_reads' (e := 70) (base := w.heap.size) (ok := fun k_ => ((some k_ ≠ (.slice Ao39 t415.length co39 : Value).ownBlock ∧ some k_ ≠ (.slice Ao29 t406.length co29 : Value).ownBlock) ∧ some k_ ≠ (.slice Ao46 t421.length co46 : Value).ownBlock)) (n := t411.length) (c := co36) ?_).2.2; exact (by (with_reducible repeat (first | apply Kd.R_alloc | apply Kd.R_drewN | apply Kd.R_drew)); exact (Kd.R_mono (Kd.R_far (p := ⟨gb425, 1, none⟩) (Kd.R_far (p := ⟨gb425, 0, none⟩) (Kd.R_types HO413.out BK425.out (by decide)) (fun _ hk => hk.2) (.int .i64 t420)) (fun _ hk => hk.2) (.slice Ao46 t421.length co46)) (fun _ h_ => h_.1)))); (case side2 => exact (Kd.R_reads' HO413.out).2.1); (case side3 => refine (Kd.R_reads' (e := 70) (base := w.heap.size) (ok := fun k_ => ((some k_ ≠ (.slice Ao36 t411.length co36 : Value).ownBlock ∧ some k_ ≠ (.slice Ao29 t406.length co29 : Value).ownBlock) ∧ some k_ ≠ (.slice Ao46 t421.length co46 : Value).ownBlock)) (n := t415.length) (c := co39) ?_).2.2; exact (by (with_reducible repeat (first | apply Kd.R_alloc | apply Kd.R_drewN | apply Kd.R_drew)); exact (Kd.R_mono (Kd.R_far (p := ⟨gb425, 1, none⟩) (Kd.R_far (p := ⟨gb425, 0, none⟩) (Kd.R_types HO417.out BK425.out (by decide)) (fun _ hk => hk.2) (.int .i64 t420)) (fun _ hk => hk.2) (.slice Ao46 t421.length co46)) (fun _ h_ => h_.1)))); (case side4 => exact (Kd.R_reads' HO417.out).2.1); rintro e w49 ⟨v428, rfl, ho0, hb⟩; refine ⟨_, rfl, ?_⟩; have q_ := qB (by repeat (first | (with_reducible first | exact HB.out | apply bA | apply bN | apply bD | refine bS ?_ GE409.out | refine bS ?_ GE418.out | refine bS ?_ GE419.out | refine bS ?_ GE425.out) | exact HB.out)) hb; have n0_ := mk0 (Kd.R_elder' (by (with_reducible repeat (first | apply Kd.R_alloc | apply Kd.R_drewN | apply Kd.R_drew)); exact (Kd.R_mono (Kd.R_far (p := ⟨gb425, 1, none⟩) (Kd.R_far (p := ⟨gb425, 0, none⟩) (Kd.R_types HO408.out BK425.out (by decide)) (fun _ hk => hk.2) (.int .i64 t420)) (fun _ hk => hk.2) (.slice Ao46 t421.length co46)) (fun _ h_ => h_.1))) (Kd.R_base ho0) hb); have n1_ := mk0 (Kd.R_elder' (by (with_reducible repeat (first | apply Kd.R_alloc | apply Kd.R_drewN | apply Kd.R_drew)); exact (Kd.R_mono (Kd.R_far (p := ⟨gb425, 1, none⟩) (Kd.R_far (p := ⟨gb425, 0, none⟩) (Kd.R_types HO413.out BK425.out (by decide)) (fun _ hk => hk.2) (.int .i64 t420)) (fun _ hk => hk.2) (.slice Ao46 t421.length co46)) (fun _ h_ => h_.1))) (Kd.R_base ho0) hb); have n2_ := mk0 (Kd.R_elder' (by (with_reducible repeat (first | apply Kd.R_alloc | apply Kd.R_drewN | apply Kd.R_drew)); exact (Kd.R_mono (Kd.R_far (p := ⟨gb425, 1, none⟩) (Kd.R_far (p := ⟨gb425, 0, none⟩) (Kd.R_types HO417.out BK425.out (by decide)) (fun _ hk => hk.2) (.int .i64 t420)) (fun _ hk => hk.2) (.slice Ao46 t421.length co46)) (fun _ h_ => h_.1))) (Kd.R_base ho0) hb); have n3_ := mk0 (Kd.R_elder' (by (with_reducible repeat (first | apply Kd.R_alloc | apply Kd.R_drewN | apply Kd.R_drew)); exact (Kd.R_mono (Kd.R_far (p := ⟨gb425, 1, none⟩) (Kd.R_far (p := ⟨gb425, 0, none⟩) (Kd.R_types HO423.out BK425.out (by decide)) (fun _ hk => hk.2) (.int .i64 t420)) (fun _ hk => hk.2) (.slice Ao46 t421.length co46)) (fun _ h_ => h_.1))) (Kd.R_base ho0) hb); have n4_ := mk0 (Kd.R_lower (Kd.R_new' (Kd.R_new' (Kd.R_new' (Kd.R_new' ho0 (Kd.R_lt (by (with_reducible repeat (first | apply Kd.R_alloc | apply Kd.R_drewN | apply Kd.R_drew)); exact (Kd.R_mono (Kd.R_far (p := ⟨gb425, 1, none⟩) (Kd.R_far (p := ⟨gb425, 0, none⟩) (Kd.R_types HO408.out BK425.out (by decide)) (fun _ hk => hk.2) (.int .i64 t420)) (fun _ hk => hk.2) (.slice Ao46 t421.length co46)) (fun _ h_ => h_.1))))) (Kd.R_lt (by (with_reducible repeat (first | apply Kd.R_alloc | apply Kd.R_drewN | apply Kd.R_drew)); exact (Kd.R_mono (Kd.R_far (p := ⟨gb425, 1, none⟩) (Kd.R_far (p := ⟨gb425, 0, none⟩) (Kd.R_types HO413.out BK425.out (by decide)) (fun _ hk => hk.2) (.int .i64 t420)) (fun _ hk => hk.2) (.slice Ao46 t421.length co46)) (fun _ h_ => h_.1))))) (Kd.R_lt (by (with_reducible repeat (first | apply Kd.R_alloc | apply Kd.R_drewN | apply Kd.R_drew)); exact (Kd.R_mono (Kd.R_far (p := ⟨gb425, 1, none⟩) (Kd.R_far (p := ⟨gb425, 0, none⟩) (Kd.R_types HO417.out BK425.out (by decide)) (fun _ hk => hk.2) (.int .i64 t420)) (fun _ hk => hk.2) (.slice Ao46 t421.length co46)) (fun _ h_ => h_.1))))) (Kd.R_lt (by (with_reducible repeat (first | apply Kd.R_alloc | apply Kd.R_drewN | apply Kd.R_drew)); exact (Kd.R_mono (Kd.R_far (p := ⟨gb425, 1, none⟩) (Kd.R_far (p := ⟨gb425, 0, none⟩) (Kd.R_types HO423.out BK425.out (by decide)) (fun _ hk => hk.2) (.int .i64 t420)) (fun _ hk => hk.2) (.slice Ao46 t421.length co46)) (fun _ h_ => h_.1))))) (below_size q_)); have n5_ := mk0 (blk_below (g := gb409) (o := .cells #[.int .i64 t405, .slice Ao29 t406.length co29] 28 (0, 0)) (by (with_reducible repeat (first | refine kN ?_ _ | refine kD ?_ | refine kA ?_ _)); refine blk_far ?_ NB409_425.out _; (with_reducible repeat (first | refine kN ?_ _ | refine kD ?_ | refine kA ?_ _)); refine blk_far ?_ NB409_425.out _; (with_reducible repeat (first | refine kN ?_ _ | refine kD ?_ | refine kA ?_ _)); exact BK409.out) hb); have n6_ := mk0 (blk_below (g := gb418) (o := .cells #[.int .i64 t410, .slice Ao36 t411.length co36] 28 (0, 0)) (by (with_reducible repeat (first | refine kN ?_ _ | refine kD ?_ | refine kA ?_ _)); refine blk_far ?_ NB418_425.out _; (with_reducible repeat (first | refine kN ?_ _ | refine kD ?_ | refine kA ?_ _)); refine blk_far ?_ NB418_425.out _; (with_reducible repeat (first | refine kN ?_ _ | refine kD ?_ | refine kA ?_ _)); exact BK418.out) hb); have n7_ := mk0 (blk_below (g := gb419) (o := .cells #[.int .i64 t414, .slice Ao39 t415.length co39] 28 (0, 0)) (by (with_reducible repeat (first | refine kN ?_ _ | refine kD ?_ | refine kA ?_ _)); refine blk_far ?_ NB419_425.out _; (with_reducible repeat (first | refine kN ?_ _ | refine kD ?_ | refine kA ?_ _)); refine blk_far ?_ NB419_425.out _; (with_reducible repeat (first | refine kN ?_ _ | refine kD ?_ | refine kA ?_ _)); exact BK419.out) hb); have n8_ := mk0 (blk_below (g := gb425) (o := .cells #[.int .i64 t420, .slice Ao46 t421.length co46] 28 (0, 0)) (by (with_reducible repeat (first | refine kN ?_ _ | refine kD ?_ | refine kA ?_ _)); refine blk_put (cs := #[.int .i64 t420, .slice none 0 0]) ?_ 1 _ rfl; (with_reducible repeat (first | refine kN ?_ _ | refine kD ?_ | refine kA ?_ _)); refine blk_put (cs := #[.int .i64 0, .slice none 0 0]) ?_ 0 _ rfl; (with_reducible repeat (first | refine kN ?_ _ | refine kD ?_ | refine kA ?_ _)); exact BK425.out) hb); have n9_ := mk0 (below_step q_ hb); clear HO408; clear HO413; clear HO417; clear HO423; clear BK409; clear BK418; clear BK419; clear BK425; clear HB; have HO408 := n0_; have HO413 := n1_; have HO417 := n2_; have HO423 := n3_; have HO429 := n4_; have BK409 := n5_; have BK418 := n6_; have BK419 := n7_; have BK425 := n8_; have HB := n9_; clear q_ n0_ n1_ n2_ n3_ n4_ n5_ n6_ n7_ n8_ n9_; (try clear hb); (try clear hb2); (try clear hk); (try clear hi); (try clear ho0)) | ((with_reducible refine gate_dst (N := 8) rfl ?_); refine box_event ?hg (N := 8) ?hd (cs := #[.int .i64 0, .slice none 0 0]) (t := 28) ?hr ?_; (case hd => rfl); (case hg => rfl); (case hr => first | (go_simp; done) | (go_simp; rfl)); intro gb431 hg w50 hbox hb; have q_ := qB (by repeat (first | (with_reducible first | exact HB.out | apply bA | apply bN | apply bD | refine bS ?_ GE409.out | refine bS ?_ GE418.out | refine bS ?_ GE419.out | refine bS ?_ GE425.out) | exact HB.out)) hb; have n0_ := mk0 (Kd.R_below (by (with_reducible repeat (first | apply Kd.R_alloc | apply Kd.R_drewN | apply Kd.R_drew)); exact HO408.out) hb); have n1_ := mk0 (Kd.R_below (by (with_reducible repeat (first | apply Kd.R_alloc | apply Kd.R_drewN | apply Kd.R_drew)); exact HO413.out) hb); have n2_ := mk0 (Kd.R_below (by (with_reducible repeat (first | apply Kd.R_alloc | apply Kd.R_drewN | apply Kd.R_drew)); exact HO417.out) hb); have n3_ := mk0 (Kd.R_below (by (with_reducible repeat (first | apply Kd.R_alloc | apply Kd.R_drewN | apply Kd.R_drew)); exact HO423.out) hb); have n4_ := mk0 (Kd.R_below (by (with_reducible repeat (first | apply Kd.R_alloc | apply Kd.R_drewN | apply Kd.R_drew)); exact HO429.out) hb); have n5_ := mk0 (blk_below (by (with_reducible repeat (first | refine kN ?_ _ | refine kD ?_ | refine kA ?_ _)); exact BK409.out) hb); have n6_ := mk0 (blk_below (by (with_reducible repeat (first | refine kN ?_ _ | refine kD ?_ | refine kA ?_ _)); exact BK418.out) hb); have n7_ := mk0 (blk_below (by (with_reducible repeat (first | refine kN ?_ _ | refine kD ?_ | refine kA ?_ _)); exact BK419.out) hb); have n8_ := mk0 (blk_below (by (with_reducible repeat (first | refine kN ?_ _ | refine kD ?_ | refine kA ?_ _)); exact BK425.out) hb); have n9_ := mk0 (below_step q_ hb); have n10_ := mk0 (hbox); have n11_ := mk0 ((by rw [hg]; exact (below_size q_) : w.heap.size ≤ gb431)); have n12_ := n11_; have n13_ := mk0 ((by rw [hg]; exact Nat.ne_of_lt (blk_lt (by (with_reducible repeat (first | refine kN ?_ _ | refine kD ?_ | refine kA ?_ _)); exact BK409.out)) : gb409 ≠ gb431)); have n14_ := mk0 ((by rw [hg]; exact Nat.ne_of_gt (blk_lt (by (with_reducible repeat (first | refine kN ?_ _ | refine kD ?_ | refine kA ?_ _)); exact BK409.out)) : gb431 ≠ gb409)); have n15_ := mk0 ((by rw [hg]; exact Nat.ne_of_lt (blk_lt (by (with_reducible repeat (first | refine kN ?_ _ | refine kD ?_ | refine kA ?_ _)); exact BK418.out)) : gb418 ≠ gb431)); have n16_ := mk0 ((by rw [hg]; exact Nat.ne_of_gt (blk_lt (by (with_reducible repeat (first | refine kN ?_ _ | refine kD ?_ | refine kA ?_ _)); exact BK418.out)) : gb431 ≠ gb418)); have n17_ := mk0 ((by rw [hg]; exact Nat.ne_of_lt (blk_lt (by (with_reducible repeat (first | refine kN ?_ _ | refine kD ?_ | refine kA ?_ _)); exact BK419.out)) : gb419 ≠ gb431)); have n18_ := mk0 ((by rw [hg]; exact Nat.ne_of_gt (blk_lt (by (with_reducible repeat (first | refine kN ?_ _ | refine kD ?_ | refine kA ?_ _)); exact BK419.out)) : gb431 ≠ gb419)); have n19_ := mk0 ((by rw [hg]; exact Nat.ne_of_lt (blk_lt (by (with_reducible repeat (first | refine kN ?_ _ | refine kD ?_ | refine kA ?_ _)); exact BK425.out)) : gb425 ≠ gb431)); have n20_ := mk0 ((by rw [hg]; exact Nat.ne_of_gt (blk_lt (by (with_reducible repeat (first | refine kN ?_ _ | refine kD ?_ | refine kA ?_ _)); exact BK425.out)) : gb431 ≠ gb425)); clear HO408; clear HO413; clear HO417; clear HO423; clear HO429; clear BK409; clear BK418; clear BK419; clear BK425; clear HB; have HO408 := n0_; have HO413 := n1_; have HO417 := n2_; have HO423 := n3_; have HO429 := n4_; have BK409 := n5_; have BK418 := n6_; have BK419 := n7_; have BK425 := n8_; have HB := n9_; have BK431 := n10_; have GW431 := n11_; have GE431 := n12_; have NB409_431 := n13_; have NB431_409 := n14_; have NB418_431 := n15_; have NB431_418 := n16_; have NB419_431 := n17_; have NB431_419 := n18_; have NB425_431 := n19_; have NB431_425 := n20_; clear q_ n0_ n1_ n2_ n3_ n4_ n5_ n6_ n7_ n8_ n9_ n10_ n11_ n12_ n13_ n14_ n15_ n16_ n17_ n18_ n19_ n20_; clear hb hbox hg; have hnb51 := NB431_409.out; have hnc51 := NB409_431.out; have hnb52 := NB431_418.out; have hnc52 := NB418_431.out; have hnb53 := NB431_419.out; have hnc53 := NB419_431.out; have hnb54 := NB431_425.out; have hnc54 := NB425_431.out; have z55 := bc2 BK431.out; obtain ⟨Ao56, co56, eo56⟩ := Kd.R_slice HO429.out; subst eo56; have z57 := bc2 BK418.out; have z58 := bc2 BK419.out) | ((with_reducible refine gate_callee (f := 16) rfl ?_); refine goesL_ (some 42) rfl rfl Try.func16 (by kernel_rfl) rfl #[.agg #[.int .i64 t410, .slice Ao36 t411.length co36], .agg #[.int .i64 t414, .slice Ao39 t415.length co39]] rfl (by (try simp only [List.map_toArray, List.map_cons, List.map_nil]); first | done | rfl) ?_; (with_reducible refine (impl_SubA.calls k t410 _ _ t411 t414 _ _ t415 t432 t433 t436 _ ?side1 ?side2 ?side3 ?side4 A8.out).mono ?_); (case side1 => refine (Kd.R_reads' (e := 70) (base := w.heap.size) (ok := fun k_ => (((some k_ ≠ (.slice Ao39 t415.length co39 : Value).ownBlock ∧ some k_ ≠ (.slice Ao29 t406.length co29 : Value).ownBlock) ∧ some k_ ≠ (.slice Ao46 t421.length co46 : Value).ownBlock) ∧ some k_ ≠ (.slice Ao56 t427.length co56 : Value).ownBlock)) (n := t411.length) (c := co36) ?_).2.2; exact (by (with_reducible repeat (first | apply Kd.R_alloc | apply Kd.R_drewN | apply Kd.R_drew)); exact (Kd.R_mono (Kd.R_far (p := ⟨gb431, 1, none⟩) (Kd.R_far (p := ⟨gb431, 0, none⟩) (Kd.R_types HO413.out BK431.out (by decide)) (fun _ hk => hk.2) (.int .i64 t426)) (fun _ hk => hk.2) (.slice Ao56 t427.length co56)) (fun _ h_ => h_.1)))); (case side2 => exact (Kd.R_reads' HO413.out).2.1); (case side3 => refine (Kd.R_reads' (e := 70) (base := w.heap.size) (ok := fun k_ => (((some k_ ≠ (.slice Ao36 t411.length co36 : Value).ownBlock ∧ some k_ ≠ (.slice Ao29 t406.length co29 : Value).ownBlock) ∧ some k_ ≠ (.slice Ao46 t421.length co46 : Value).ownBlock) ∧ some k_ ≠ (.slice Ao56 t427.length co56 : Value).ownBlock)) (n := t415.length) (c := co39) ?_).2.2; exact (by (with_reducible repeat (first | apply Kd.R_alloc | apply Kd.R_drewN | apply Kd.R_drew)); exact (Kd.R_mono (Kd.R_far (p := ⟨gb431, 1, none⟩) (Kd.R_far (p := ⟨gb431, 0, none⟩) (Kd.R_types HO417.out BK431.out (by decide)) (fun _ hk => hk.2) (.int .i64 t426)) (fun _ hk => hk.2) (.slice Ao56 t427.length co56)) (fun _ h_ => h_.1)))); (case side4 => exact (Kd.R_reads' HO417.out).2.1); rintro e w59 ⟨v434, rfl, ho0, hb⟩; refine ⟨_, rfl, ?_⟩; have q_ := qB (by repeat (first | (with_reducible first | exact HB.out | apply bA | apply bN | apply bD | refine bS ?_ GE409.out | refine bS ?_ GE418.out | refine bS ?_ GE419.out | refine bS ?_ GE425.out | refine bS ?_ GE431.out) | exact HB.out)) hb; have n0_ := mk0 (Kd.R_elder' (by (with_reducible repeat (first | apply Kd.R_alloc | apply Kd.R_drewN | apply Kd.R_drew)); exact (Kd.R_mono (Kd.R_far (p := ⟨gb431, 1, none⟩) (Kd.R_far (p := ⟨gb431, 0, none⟩) (Kd.R_types HO408.out BK431.out (by decide)) (fun _ hk => hk.2) (.int .i64 t426)) (fun _ hk => hk.2) (.slice Ao56 t427.length co56)) (fun _ h_ => h_.1))) (Kd.R_base ho0) hb); have n1_ := mk0 (Kd.R_elder' (by (with_reducible repeat (first | apply Kd.R_alloc | apply Kd.R_drewN | apply Kd.R_drew)); exact (Kd.R_mono (Kd.R_far (p := ⟨gb431, 1, none⟩) (Kd.R_far (p := ⟨gb431, 0, none⟩) (Kd.R_types HO413.out BK431.out (by decide)) (fun _ hk => hk.2) (.int .i64 t426)) (fun _ hk => hk.2) (.slice Ao56 t427.length co56)) (fun _ h_ => h_.1))) (Kd.R_base ho0) hb); have n2_ := mk0 (Kd.R_elder' (by (with_reducible repeat (first | apply Kd.R_alloc | apply Kd.R_drewN | apply Kd.R_drew)); exact (Kd.R_mono (Kd.R_far (p := ⟨gb431, 1, none⟩) (Kd.R_far (p := ⟨gb431, 0, none⟩) (Kd.R_types HO417.out BK431.out (by decide)) (fun _ hk => hk.2) (.int .i64 t426)) (fun _ hk => hk.2) (.slice Ao56 t427.length co56)) (fun _ h_ => h_.1))) (Kd.R_base ho0) hb); have n3_ := mk0 (Kd.R_elder' (by (with_reducible repeat (first | apply Kd.R_alloc | apply Kd.R_drewN | apply Kd.R_drew)); exact (Kd.R_mono (Kd.R_far (p := ⟨gb431, 1, none⟩) (Kd.R_far (p := ⟨gb431, 0, none⟩) (Kd.R_types HO423.out BK431.out (by decide)) (fun _ hk => hk.2) (.int .i64 t426)) (fun _ hk => hk.2) (.slice Ao56 t427.length co56)) (fun _ h_ => h_.1))) (Kd.R_base ho0) hb); have n4_ := mk0 (Kd.R_elder' (by (with_reducible repeat (first | apply Kd.R_alloc | apply Kd.R_drewN | apply Kd.R_drew)); exact (Kd.R_mono (Kd.R_far (p := ⟨gb431, 1, none⟩) (Kd.R_far (p := ⟨gb431, 0, none⟩) (Kd.R_types HO429.out BK431.out (by decide)) (fun _ hk => hk.2) (.int .i64 t426)) (fun _ hk => hk.2) (.slice Ao56 t427.length co56)) (fun _ h_ => h_.1))) (Kd.R_base ho0) hb); have n5_ := mk0 (Kd.R_lower (Kd.R_new' (Kd.R_new' (Kd.R_new' (Kd.R_new' (Kd.R_new' ho0 (Kd.R_lt (by (with_reducible repeat (first | apply Kd.R_alloc | apply Kd.R_drewN | apply Kd.R_drew)); exact (Kd.R_mono (Kd.R_far (p := ⟨gb431, 1, none⟩) (Kd.R_far (p := ⟨gb431, 0, none⟩) (Kd.R_types HO408.out BK431.out (by decide)) (fun _ hk => hk.2) (.int .i64 t426)) (fun _ hk => hk.2) (.slice Ao56 t427.length co56)) (fun _ h_ => h_.1))))) (Kd.R_lt (by (with_reducible repeat (first | apply Kd.R_alloc | apply Kd.R_drewN | apply Kd.R_drew)); exact (Kd.R_mono (Kd.R_far (p := ⟨gb431, 1, none⟩) (Kd.R_far (p := ⟨gb431, 0, none⟩) (Kd.R_types HO413.out BK431.out (by decide)) (fun _ hk => hk.2) (.int .i64 t426)) (fun _ hk => hk.2) (.slice Ao56 t427.length co56)) (fun _ h_ => h_.1))))) (Kd.R_lt (by (with_reducible repeat (first | apply Kd.R_alloc | apply Kd.R_drewN | apply Kd.R_drew)); exact (Kd.R_mono (Kd.R_far (p := ⟨gb431, 1, none⟩) (Kd.R_far (p := ⟨gb431, 0, none⟩) (Kd.R_types HO417.out BK431.out (by decide)) (fun _ hk => hk.2) (.int .i64 t426)) (fun _ hk => hk.2) (.slice Ao56 t427.length co56)) (fun _ h_ => h_.1))))) (Kd.R_lt (by (with_reducible repeat (first | apply Kd.R_alloc | apply Kd.R_drewN | apply Kd.R_drew)); exact (Kd.R_mono (Kd.R_far (p := ⟨gb431, 1, none⟩) (Kd.R_far (p := ⟨gb431, 0, none⟩) (Kd.R_types HO423.out BK431.out (by decide)) (fun _ hk => hk.2) (.int .i64 t426)) (fun _ hk => hk.2) (.slice Ao56 t427.length co56)) (fun _ h_ => h_.1))))) (Kd.R_lt (by (with_reducible repeat (first | apply Kd.R_alloc | apply Kd.R_drewN | apply Kd.R_drew)); exact (Kd.R_mono (Kd.R_far (p := ⟨gb431, 1, none⟩) (Kd.R_far (p := ⟨gb431, 0, none⟩) (Kd.R_types HO429.out BK431.out (by decide)) (fun _ hk => hk.2) (.int .i64 t426)) (fun _ hk => hk.2) (.slice Ao56 t427.length co56)) (fun _ h_ => h_.1))))) (below_size q_)); have n6_ := mk0 (blk_below (g := gb409) (o := .cells #[.int .i64 t405, .slice Ao29 t406.length co29] 28 (0, 0)) (by (with_reducible repeat (first | refine kN ?_ _ | refine kD ?_ | refine kA ?_ _)); refine blk_far ?_ NB409_431.out _; (with_reducible repeat (first | refine kN ?_ _ | refine kD ?_ | refine kA ?_ _)); refine blk_far ?_ NB409_431.out _; (with_reducible repeat (first | refine kN ?_ _ | refine kD ?_ | refine kA ?_ _)); exact BK409.out) hb); have n7_ := mk0 (blk_below (g := gb418) (o := .cells #[.int .i64 t410, .slice Ao36 t411.length co36] 28 (0, 0)) (by (with_reducible repeat (first | refine kN ?_ _ | refine kD ?_ | refine kA ?_ _)); refine blk_far ?_ NB418_431.out _; (with_reducible repeat (first | refine kN ?_ _ | refine kD ?_ | refine kA ?_ _)); refine blk_far ?_ NB418_431.out _; (with_reducible repeat (first | refine kN ?_ _ | refine kD ?_ | refine kA ?_ _)); exact BK418.out) hb); have n8_ := mk0 (blk_below (g := gb419) (o := .cells #[.int .i64 t414, .slice Ao39 t415.length co39] 28 (0, 0)) (by (with_reducible repeat (first | refine kN ?_ _ | refine kD ?_ | refine kA ?_ _)); refine blk_far ?_ NB419_431.out _; (with_reducible repeat (first | refine kN ?_ _ | refine kD ?_ | refine kA ?_ _)); refine blk_far ?_ NB419_431.out _; (with_reducible repeat (first | refine kN ?_ _ | refine kD ?_ | refine kA ?_ _)); exact BK419.out) hb); have n9_ := mk0 (blk_below (g := gb425) (o := .cells #[.int .i64 t420, .slice Ao46 t421.length co46] 28 (0, 0)) (by (with_reducible repeat (first | refine kN ?_ _ | refine kD ?_ | refine kA ?_ _)); refine blk_far ?_ NB425_431.out _; (with_reducible repeat (first | refine kN ?_ _ | refine kD ?_ | refine kA ?_ _)); refine blk_far ?_ NB425_431.out _; (with_reducible repeat (first | refine kN ?_ _ | refine kD ?_ | refine kA ?_ _)); exact BK425.out) hb); have n10_ := mk0 (blk_below (g := gb431) (o := .cells #[.int .i64 t426, .slice Ao56 t427.length co56] 28 (0, 0)) (by (with_reducible repeat (first | refine kN ?_ _ | refine kD ?_ | refine kA ?_ _)); refine blk_put (cs := #[.int .i64 t426, .slice none 0 0]) ?_ 1 _ rfl; (with_reducible repeat (first | refine kN ?_ _ | refine kD ?_ | refine kA ?_ _)); refine blk_put (cs := #[.int .i64 0, .slice none 0 0]) ?_ 0 _ rfl; (with_reducible repeat (first | refine kN ?_ _ | refine kD ?_ | refine kA ?_ _)); exact BK431.out) hb); have n11_ := mk0 (below_step q_ hb); clear HO408; clear HO413; clear HO417; clear HO423; clear HO429; clear BK409; clear BK418; clear BK419; clear BK425; clear BK431; clear HB; have HO408 := n0_; have HO413 := n1_; have HO417 := n2_; have HO423 := n3_; have HO429 := n4_; have HO435 := n5_; have BK409 := n6_; have BK418 := n7_; have BK419 := n8_; have BK425 := n9_; have BK431 := n10_; have HB := n11_; clear q_ n0_ n1_ n2_ n3_ n4_ n5_ n6_ n7_ n8_ n9_ n10_ n11_; (try clear hb); (try clear hb2); (try clear hk); (try clear hi); (try clear ho0)) | ((with_reducible refine gate_dst (N := 10) rfl ?_); refine box_event ?hg (N := 10) ?hd (cs := #[.int .i64 0, .slice none 0 0]) (t := 28) ?hr ?_; (case hd => rfl); (case hg => rfl); (case hr => first | (go_simp; done) | (go_simp; rfl)); intro gb437 hg w60 hbox hb; have q_ := qB (by repeat (first | (with_reducible first | exact HB.out | apply bA | apply bN | apply bD | refine bS ?_ GE409.out | refine bS ?_ GE418.out | refine bS ?_ GE419.out | refine bS ?_ GE425.out | refine bS ?_ GE431.out) | exact HB.out)) hb; have n0_ := mk0 (Kd.R_below (by (with_reducible repeat (first | apply Kd.R_alloc | apply Kd.R_drewN | apply Kd.R_drew)); exact HO408.out) hb); have n1_ := mk0 (Kd.R_below (by (with_reducible repeat (first | apply Kd.R_alloc | apply Kd.R_drewN | apply Kd.R_drew)); exact HO413.out) hb); have n2_ := mk0 (Kd.R_below (by (with_reducible repeat (first | apply Kd.R_alloc | apply Kd.R_drewN | apply Kd.R_drew)); exact HO417.out) hb); have n3_ := mk0 (Kd.R_below (by (with_reducible repeat (first | apply Kd.R_alloc | apply Kd.R_drewN | apply Kd.R_drew)); exact HO423.out) hb); have n4_ := mk0 (Kd.R_below (by (with_reducible repeat (first | apply Kd.R_alloc | apply Kd.R_drewN | apply Kd.R_drew)); exact HO429.out) hb); have n5_ := mk0 (Kd.R_below (by (with_reducible repeat (first | apply Kd.R_alloc | apply Kd.R_drewN | apply Kd.R_drew)); exact HO435.out) hb); have n6_ := mk0 (blk_below (by (with_reducible repeat (first | refine kN ?_ _ | refine kD ?_ | refine kA ?_ _)); exact BK409.out) hb); have n7_ := mk0 (blk_below (by (with_reducible repeat (first | refine kN ?_ _ | refine kD ?_ | refine kA ?_ _)); exact BK418.out) hb); have n8_ := mk0 (blk_below (by (with_reducible repeat (first | refine kN ?_ _ | refine kD ?_ | refine kA ?_ _)); exact BK419.out) hb); have n9_ := mk0 (blk_below (by (with_reducible repeat (first | refine kN ?_ _ | refine kD ?_ | refine kA ?_ _)); exact BK425.out) hb); have n10_ := mk0 (blk_below (by (with_reducible repeat (first | refine kN ?_ _ | refine kD ?_ | refine kA ?_ _)); exact BK431.out) hb); have n11_ := mk0 (below_step q_ hb); have n12_ := mk0 (hbox); have n13_ := mk0 ((by rw [hg]; exact (below_size q_) : w.heap.size ≤ gb437)); have n14_ := n13_; have n15_ := mk0 ((by rw [hg]; exact Nat.ne_of_lt (blk_lt (by (with_reducible repeat (first | refine kN ?_ _ | refine kD ?_ | refine kA ?_ _)); exact BK409.out)) : gb409 ≠ gb437)); have n16_ := mk0 ((by rw [hg]; exact Nat.ne_of_gt (blk_lt (by (with_reducible repeat (first | refine kN ?_ _ | refine kD ?_ | refine kA ?_ _)); exact BK409.out)) : gb437 ≠ gb409)); have n17_ := mk0 ((by rw [hg]; exact Nat.ne_of_lt (blk_lt (by (with_reducible repeat (first | refine kN ?_ _ | refine kD ?_ | refine kA ?_ _)); exact BK418.out)) : gb418 ≠ gb437)); have n18_ := mk0 ((by rw [hg]; exact Nat.ne_of_gt (blk_lt (by (with_reducible repeat (first | refine kN ?_ _ | refine kD ?_ | refine kA ?_ _)); exact BK418.out)) : gb437 ≠ gb418)); have n19_ := mk0 ((by rw [hg]; exact Nat.ne_of_lt (blk_lt (by (with_reducible repeat (first | refine kN ?_ _ | refine kD ?_ | refine kA ?_ _)); exact BK419.out)) : gb419 ≠ gb437)); have n20_ := mk0 ((by rw [hg]; exact Nat.ne_of_gt (blk_lt (by (with_reducible repeat (first | refine kN ?_ _ | refine kD ?_ | refine kA ?_ _)); exact BK419.out)) : gb437 ≠ gb419)); have n21_ := mk0 ((by rw [hg]; exact Nat.ne_of_lt (blk_lt (by (with_reducible repeat (first | refine kN ?_ _ | refine kD ?_ | refine kA ?_ _)); exact BK425.out)) : gb425 ≠ gb437)); have n22_ := mk0 ((by rw [hg]; exact Nat.ne_of_gt (blk_lt (by (with_reducible repeat (first | refine kN ?_ _ | refine kD ?_ | refine kA ?_ _)); exact BK425.out)) : gb437 ≠ gb425)); have n23_ := mk0 ((by rw [hg]; exact Nat.ne_of_lt (blk_lt (by (with_reducible repeat (first | refine kN ?_ _ | refine kD ?_ | refine kA ?_ _)); exact BK431.out)) : gb431 ≠ gb437)); have n24_ := mk0 ((by rw [hg]; exact Nat.ne_of_gt (blk_lt (by (with_reducible repeat (first | refine kN ?_ _ | refine kD ?_ | refine kA ?_ _)); exact BK431.out)) : gb437 ≠ gb431)); clear HO408; clear HO413; clear HO417; clear HO423; clear HO429; clear HO435; clear BK409; clear BK418; clear BK419; clear BK425; clear BK431; clear HB; have HO408 := n0_; have HO413 := n1_; have HO417 := n2_; have HO423 := n3_; have HO429 := n4_; have HO435 := n5_; have BK409 := n6_; have BK418 := n7_; have BK419 := n8_; have BK425 := n9_; have BK431 := n10_; have HB := n11_; have BK437 := n12_; have GW437 := n13_; have GE437 := n14_; have NB409_437 := n15_; have NB437_409 := n16_; have NB418_437 := n17_; have NB437_418 := n18_; have NB419_437 := n19_; have NB437_419 := n20_; have NB425_437 := n21_; have NB437_425 := n22_; have NB431_437 := n23_; have NB437_431 := n24_; clear q_ n0_ n1_ n2_ n3_ n4_ n5_ n6_ n7_ n8_ n9_ n10_ n11_ n12_ n13_ n14_ n15_ n16_ n17_ n18_ n19_ n20_ n21_ n22_ n23_ n24_; clear hb hbox hg; have hnb61 := NB437_409.out; have hnc61 := NB409_437.out; have hnb62 := NB437_418.out; have hnc62 := NB418_437.out; have hnb63 := NB437_419.out; have hnc63 := NB419_437.out; have hnb64 := NB437_425.out; have hnc64 := NB425_437.out; have hnb65 := NB437_431.out; have hnc65 := NB431_437.out; have z66 := bc2 BK437.out; obtain ⟨Ao67, co67, eo67⟩ := Kd.R_slice HO435.out; subst eo67; have z68 := bc2 BK418.out; have z69 := bc2 BK419.out) | ((with_reducible refine gate_callee (f := 15) rfl ?_); refine goesL_ (some 48) rfl rfl Try.func15 (by kernel_rfl) rfl #[.agg #[.int .i64 t410, .slice Ao36 t411.length co36], .agg #[.int .i64 t414, .slice Ao39 t415.length co39]] rfl (by (try simp only [List.map_toArray, List.map_cons, List.map_nil]); first | done | rfl) ?_; (with_reducible refine (spec_SubA.calls k t410 _ _ t411 t414 _ _ t415 t438 t439 t442 _ ?side1 ?side2 ?side3 ?side4 A9.out).mono ?_); (case side1 => refine (Kd.R_reads' (e := 70) (base := w.heap.size) (ok := fun k_ => ((((some k_ ≠ (.slice Ao39 t415.length co39 : Value).ownBlock ∧ some k_ ≠ (.slice Ao29 t406.length co29 : Value).ownBlock) ∧ some k_ ≠ (.slice Ao46 t421.length co46 : Value).ownBlock) ∧ some k_ ≠ (.slice Ao56 t427.length co56 : Value).ownBlock) ∧ some k_ ≠ (.slice Ao67 t433.length co67 : Value).ownBlock)) (n := t411.length) (c := co36) ?_).2.2; exact (by (with_reducible repeat (first | apply Kd.R_alloc | apply Kd.R_drewN | apply Kd.R_drew)); exact (Kd.R_mono (Kd.R_far (p := ⟨gb437, 1, none⟩) (Kd.R_far (p := ⟨gb437, 0, none⟩) (Kd.R_types HO413.out BK437.out (by decide)) (fun _ hk => hk.2) (.int .i64 t432)) (fun _ hk => hk.2) (.slice Ao67 t433.length co67)) (fun _ h_ => h_.1)))); (case side2 => exact (Kd.R_reads' HO413.out).2.1); (case side3 => refine (Kd.R_reads' (e := 70) (base := w.heap.size) (ok := fun k_ => ((((some k_ ≠ (.slice Ao36 t411.length co36 : Value).ownBlock ∧ some k_ ≠ (.slice Ao29 t406.length co29 : Value).ownBlock) ∧ some k_ ≠ (.slice Ao46 t421.length co46 : Value).ownBlock) ∧ some k_ ≠ (.slice Ao56 t427.length co56 : Value).ownBlock) ∧ some k_ ≠ (.slice Ao67 t433.length co67 : Value).ownBlock)) (n := t415.length) (c := co39) ?_).2.2; exact (by (with_reducible repeat (first | apply Kd.R_alloc | apply Kd.R_drewN | apply Kd.R_drew)); exact (Kd.R_mono (Kd.R_far (p := ⟨gb437, 1, none⟩) (Kd.R_far (p := ⟨gb437, 0, none⟩) (Kd.R_types HO417.out BK437.out (by decide)) (fun _ hk => hk.2) (.int .i64 t432)) (fun _ hk => hk.2) (.slice Ao67 t433.length co67)) (fun _ h_ => h_.1)))); (case side4 => exact (Kd.R_reads' HO417.out).2.1); rintro e w70 ⟨v440, rfl, ho0, hb⟩; refine ⟨_, rfl, ?_⟩; have q_ := qB (by repeat (first | (with_reducible first | exact HB.out | apply bA | apply bN | apply bD | refine bS ?_ GE409.out | refine bS ?_ GE418.out | refine bS ?_ GE419.out | refine bS ?_ GE425.out | refine bS ?_ GE431.out | refine bS ?_ GE437.out) | exact HB.out)) hb; have n0_ := mk0 (Kd.R_elder' (by (with_reducible repeat (first | apply Kd.R_alloc | apply Kd.R_drewN | apply Kd.R_drew)); exact (Kd.R_mono (Kd.R_far (p := ⟨gb437, 1, none⟩) (Kd.R_far (p := ⟨gb437, 0, none⟩) (Kd.R_types HO408.out BK437.out (by decide)) (fun _ hk => hk.2) (.int .i64 t432)) (fun _ hk => hk.2) (.slice Ao67 t433.length co67)) (fun _ h_ => h_.1))) (Kd.R_base ho0) hb); have n1_ := mk0 (Kd.R_elder' (by (with_reducible repeat (first | apply Kd.R_alloc | apply Kd.R_drewN | apply Kd.R_drew)); exact (Kd.R_mono (Kd.R_far (p := ⟨gb437, 1, none⟩) (Kd.R_far (p := ⟨gb437, 0, none⟩) (Kd.R_types HO413.out BK437.out (by decide)) (fun _ hk => hk.2) (.int .i64 t432)) (fun _ hk => hk.2) (.slice Ao67 t433.length co67)) (fun _ h_ => h_.1))) (Kd.R_base ho0) hb); have n2_ := mk0 (Kd.R_elder' (by (with_reducible repeat (first | apply Kd.R_alloc | apply Kd.R_drewN | apply Kd.R_drew)); exact (Kd.R_mono (Kd.R_far (p := ⟨gb437, 1, none⟩) (Kd.R_far (p := ⟨gb437, 0, none⟩) (Kd.R_types HO417.out BK437.out (by decide)) (fun _ hk => hk.2) (.int .i64 t432)) (fun _ hk => hk.2) (.slice Ao67 t433.length co67)) (fun _ h_ => h_.1))) (Kd.R_base ho0) hb); have n3_ := mk0 (Kd.R_elder' (by (with_reducible repeat (first | apply Kd.R_alloc | apply Kd.R_drewN | apply Kd.R_drew)); exact (Kd.R_mono (Kd.R_far (p := ⟨gb437, 1, none⟩) (Kd.R_far (p := ⟨gb437, 0, none⟩) (Kd.R_types HO423.out BK437.out (by decide)) (fun _ hk => hk.2) (.int .i64 t432)) (fun _ hk => hk.2) (.slice Ao67 t433.length co67)) (fun _ h_ => h_.1))) (Kd.R_base ho0) hb); have n4_ := mk0 (Kd.R_elder' (by (with_reducible repeat (first | apply Kd.R_alloc | apply Kd.R_drewN | apply Kd.R_drew)); exact (Kd.R_mono (Kd.R_far (p := ⟨gb437, 1, none⟩) (Kd.R_far (p := ⟨gb437, 0, none⟩) (Kd.R_types HO429.out BK437.out (by decide)) (fun _ hk => hk.2) (.int .i64 t432)) (fun _ hk => hk.2) (.slice Ao67 t433.length co67)) (fun _ h_ => h_.1))) (Kd.R_base ho0) hb); have n5_ := mk0 (Kd.R_elder' (by (with_reducible repeat (first | apply Kd.R_alloc | apply Kd.R_drewN | apply Kd.R_drew)); exact (Kd.R_mono (Kd.R_far (p := ⟨gb437, 1, none⟩) (Kd.R_far (p := ⟨gb437, 0, none⟩) (Kd.R_types HO435.out BK437.out (by decide)) (fun _ hk => hk.2) (.int .i64 t432)) (fun _ hk => hk.2) (.slice Ao67 t433.length co67)) (fun _ h_ => h_.1))) (Kd.R_base ho0) hb); have n6_ := mk0 (Kd.R_lower (Kd.R_new' (Kd.R_new' (Kd.R_new' (Kd.R_new' (Kd.R_new' (Kd.R_new' ho0 (Kd.R_lt (by (with_reducible repeat (first | apply Kd.R_alloc | apply Kd.R_drewN | apply Kd.R_drew)); exact (Kd.R_mono (Kd.R_far (p := ⟨gb437, 1, none⟩) (Kd.R_far (p := ⟨gb437, 0, none⟩) (Kd.R_types HO408.out BK437.out (by decide)) (fun _ hk => hk.2) (.int .i64 t432)) (fun _ hk => hk.2) (.slice Ao67 t433.length co67)) (fun _ h_ => h_.1))))) (Kd.R_lt (by (with_reducible repeat (first | apply Kd.R_alloc | apply Kd.R_drewN | apply Kd.R_drew)); exact (Kd.R_mono (Kd.R_far (p := ⟨gb437, 1, none⟩) (Kd.R_far (p := ⟨gb437, 0, none⟩) (Kd.R_types HO413.out BK437.out (by decide)) (fun _ hk => hk.2) (.int .i64 t432)) (fun _ hk => hk.2) (.slice Ao67 t433.length co67)) (fun _ h_ => h_.1))))) (Kd.R_lt (by (with_reducible repeat (first | apply Kd.R_alloc | apply Kd.R_drewN | apply Kd.R_drew)); exact (Kd.R_mono (Kd.R_far (p := ⟨gb437, 1, none⟩) (Kd.R_far (p := ⟨gb437, 0, none⟩) (Kd.R_types HO417.out BK437.out (by decide)) (fun _ hk => hk.2) (.int .i64 t432)) (fun _ hk => hk.2) (.slice Ao67 t433.length co67)) (fun _ h_ => h_.1))))) (Kd.R_lt (by (with_reducible repeat (first | apply Kd.R_alloc | apply Kd.R_drewN | apply Kd.R_drew)); exact (Kd.R_mono (Kd.R_far (p := ⟨gb437, 1, none⟩) (Kd.R_far (p := ⟨gb437, 0, none⟩) (Kd.R_types HO423.out BK437.out (by decide)) (fun _ hk => hk.2) (.int .i64 t432)) (fun _ hk => hk.2) (.slice Ao67 t433.length co67)) (fun _ h_ => h_.1))))) (Kd.R_lt (by (with_reducible repeat (first | apply Kd.R_alloc | apply Kd.R_drewN | apply Kd.R_drew)); exact (Kd.R_mono (Kd.R_far (p := ⟨gb437, 1, none⟩) (Kd.R_far (p := ⟨gb437, 0, none⟩) (Kd.R_types HO429.out BK437.out (by decide)) (fun _ hk => hk.2) (.int .i64 t432)) (fun _ hk => hk.2) (.slice Ao67 t433.length co67)) (fun _ h_ => h_.1))))) (Kd.R_lt (by (with_reducible repeat (first | apply Kd.R_alloc | apply Kd.R_drewN | apply Kd.R_drew)); exact (Kd.R_mono (Kd.R_far (p := ⟨gb437, 1, none⟩) (Kd.R_far (p := ⟨gb437, 0, none⟩) (Kd.R_types HO435.out BK437.out (by decide)) (fun _ hk => hk.2) (.int .i64 t432)) (fun _ hk => hk.2) (.slice Ao67 t433.length co67)) (fun _ h_ => h_.1))))) (below_size q_)); have n7_ := mk0 (blk_below (g := gb409) (o := .cells #[.int .i64 t405, .slice Ao29 t406.length co29] 28 (0, 0)) (by (with_reducible repeat (first | refine kN ?_ _ | refine kD ?_ | refine kA ?_ _)); refine blk_far ?_ NB409_437.out _; (with_reducible repeat (first | refine kN ?_ _ | refine kD ?_ | refine kA ?_ _)); refine blk_far ?_ NB409_437.out _; (with_reducible repeat (first | refine kN ?_ _ | refine kD ?_ | refine kA ?_ _)); exact BK409.out) hb); have n8_ := mk0 (blk_below (g := gb418) (o := .cells #[.int .i64 t410, .slice Ao36 t411.length co36] 28 (0, 0)) (by (with_reducible repeat (first | refine kN ?_ _ | refine kD ?_ | refine kA ?_ _)); refine blk_far ?_ NB418_437.out _; (with_reducible repeat (first | refine kN ?_ _ | refine kD ?_ | refine kA ?_ _)); refine blk_far ?_ NB418_437.out _; (with_reducible repeat (first | refine kN ?_ _ | refine kD ?_ | refine kA ?_ _)); exact BK418.out) hb); have n9_ := mk0 (blk_below (g := gb419) (o := .cells #[.int .i64 t414, .slice Ao39 t415.length co39] 28 (0, 0)) (by (with_reducible repeat (first | refine kN ?_ _ | refine kD ?_ | refine kA ?_ _)); refine blk_far ?_ NB419_437.out _; (with_reducible repeat (first | refine kN ?_ _ | refine kD ?_ | refine kA ?_ _)); refine blk_far ?_ NB419_437.out _; (with_reducible repeat (first | refine kN ?_ _ | refine kD ?_ | refine kA ?_ _)); exact BK419.out) hb); have n10_ := mk0 (blk_below (g := gb425) (o := .cells #[.int .i64 t420, .slice Ao46 t421.length co46] 28 (0, 0)) (by (with_reducible repeat (first | refine kN ?_ _ | refine kD ?_ | refine kA ?_ _)); refine blk_far ?_ NB425_437.out _; (with_reducible repeat (first | refine kN ?_ _ | refine kD ?_ | refine kA ?_ _)); refine blk_far ?_ NB425_437.out _; (with_reducible repeat (first | refine kN ?_ _ | refine kD ?_ | refine kA ?_ _)); exact BK425.out) hb); have n11_ := mk0 (blk_below (g := gb431) (o := .cells #[.int .i64 t426, .slice Ao56 t427.length co56] 28 (0, 0)) (by (with_reducible repeat (first | refine kN ?_ _ | refine kD ?_ | refine kA ?_ _)); refine blk_far ?_ NB431_437.out _; (with_reducible repeat (first | refine kN ?_ _ | refine kD ?_ | refine kA ?_ _)); refine blk_far ?_ NB431_437.out _; (with_reducible repeat (first | refine kN ?_ _ | refine kD ?_ | refine kA ?_ _)); exact BK431.out) hb); have n12_ := mk0 (blk_below (g := gb437) (o := .cells #[.int .i64 t432, .slice Ao67 t433.length co67] 28 (0, 0)) (by (with_reducible repeat (first | refine kN ?_ _ | refine kD ?_ | refine kA ?_ _)); refine blk_put (cs := #[.int .i64 t432, .slice none 0 0]) ?_ 1 _ rfl; (with_reducible repeat (first | refine kN ?_ _ | refine kD ?_ | refine kA ?_ _)); refine blk_put (cs := #[.int .i64 0, .slice none 0 0]) ?_ 0 _ rfl; (with_reducible repeat (first | refine kN ?_ _ | refine kD ?_ | refine kA ?_ _)); exact BK437.out) hb); have n13_ := mk0 (below_step q_ hb); clear HO408; clear HO413; clear HO417; clear HO423; clear HO429; clear HO435; clear BK409; clear BK418; clear BK419; clear BK425; clear BK431; clear BK437; clear HB; have HO408 := n0_; have HO413 := n1_; have HO417 := n2_; have HO423 := n3_; have HO429 := n4_; have HO435 := n5_; have HO441 := n6_; have BK409 := n7_; have BK418 := n8_; have BK419 := n9_; have BK425 := n10_; have BK431 := n11_; have BK437 := n12_; have HB := n13_; clear q_ n0_ n1_ n2_ n3_ n4_ n5_ n6_ n7_ n8_ n9_ n10_ n11_ n12_ n13_; (try clear hb); (try clear hb2); (try clear hk); (try clear hi); (try clear ho0)) | ((with_reducible refine gate_dst (N := 12) rfl ?_); refine box_event ?hg (N := 12) ?hd (cs := #[.int .i64 0, .slice none 0 0]) (t := 28) ?hr ?_; (case hd => rfl); (case hg => rfl); (case hr => first | (go_simp; done) | (go_simp; rfl)); intro gb443 hg w71 hbox hb; have q_ := qB (by repeat (first | (with_reducible first | exact HB.out | apply bA | apply bN | apply bD | refine bS ?_ GE409.out | refine bS ?_ GE418.out | refine bS ?_ GE419.out | refine bS ?_ GE425.out | refine bS ?_ GE431.out | refine bS ?_ GE437.out) | exact HB.out)) hb; have n0_ := mk0 (Kd.R_below (by (with_reducible repeat (first | apply Kd.R_alloc | apply Kd.R_drewN | apply Kd.R_drew)); exact HO408.out) hb); have n1_ := mk0 (Kd.R_below (by (with_reducible repeat (first | apply Kd.R_alloc | apply Kd.R_drewN | apply Kd.R_drew)); exact HO413.out) hb); have n2_ := mk0 (Kd.R_below (by (with_reducible repeat (first | apply Kd.R_alloc | apply Kd.R_drewN | apply Kd.R_drew)); exact HO417.out) hb); have n3_ := mk0 (Kd.R_below (by (with_reducible repeat (first | apply Kd.R_alloc | apply Kd.R_drewN | apply Kd.R_drew)); exact HO423.out) hb); have n4_ := mk0 (Kd.R_below (by (with_reducible repeat (first | apply Kd.R_alloc | apply Kd.R_drewN | apply Kd.R_drew)); exact HO429.out) hb); have n5_ := mk0 (Kd.R_below (by (with_reducible repeat (first | apply Kd.R_alloc | apply Kd.R_drewN | apply Kd.R_drew)); exact HO435.out) hb); have n6_ := mk0 (Kd.R_below (by (with_reducible repeat (first | apply Kd.R_alloc | apply Kd.R_drewN | apply Kd.R_drew)); exact HO441.out) hb); have n7_ := mk0 (blk_below (by (with_reducible repeat (first | refine kN ?_ _ | refine kD ?_ | refine kA ?_ _)); exact BK409.out) hb); have n8_ := mk0 (blk_below (by (with_reducible repeat (first | refine kN ?_ _ | refine kD ?_ | refine kA ?_ _)); exact BK418.out) hb); have n9_ := mk0 (blk_below (by (with_reducible repeat (first | refine kN ?_ _ | refine kD ?_ | refine kA ?_ _)); exact BK419.out) hb); have n10_ := mk0 (blk_below (by (with_reducible repeat (first | refine kN ?_ _ | refine kD ?_ | refine kA ?_ _)); exact BK425.out) hb); have n11_ := mk0 (blk_below (by (with_reducible repeat (first | refine kN ?_ _ | refine kD ?_ | refine kA ?_ _)); exact BK431.out) hb); have n12_ := mk0 (blk_below (by (with_reducible repeat (first | refine kN ?_ _ | refine kD ?_ | refine kA ?_ _)); exact BK437.out) hb); have n13_ := mk0 (below_step q_ hb); have n14_ := mk0 (hbox); have n15_ := mk0 ((by rw [hg]; exact (below_size q_) : w.heap.size ≤ gb443)); have n16_ := n15_; have n17_ := mk0 ((by rw [hg]; exact Nat.ne_of_lt (blk_lt (by (with_reducible repeat (first | refine kN ?_ _ | refine kD ?_ | refine kA ?_ _)); exact BK409.out)) : gb409 ≠ gb443)); have n18_ := mk0 ((by rw [hg]; exact Nat.ne_of_gt (blk_lt (by (with_reducible repeat (first | refine kN ?_ _ | refine kD ?_ | refine kA ?_ _)); exact BK409.out)) : gb443 ≠ gb409)); have n19_ := mk0 ((by rw [hg]; exact Nat.ne_of_lt (blk_lt (by (with_reducible repeat (first | refine kN ?_ _ | refine kD ?_ | refine kA ?_ _)); exact BK418.out)) : gb418 ≠ gb443)); have n20_ := mk0 ((by rw [hg]; exact Nat.ne_of_gt (blk_lt (by (with_reducible repeat (first | refine kN ?_ _ | refine kD ?_ | refine kA ?_ _)); exact BK418.out)) : gb443 ≠ gb418)); have n21_ := mk0 ((by rw [hg]; exact Nat.ne_of_lt (blk_lt (by (with_reducible repeat (first | refine kN ?_ _ | refine kD ?_ | refine kA ?_ _)); exact BK419.out)) : gb419 ≠ gb443)); have n22_ := mk0 ((by rw [hg]; exact Nat.ne_of_gt (blk_lt (by (with_reducible repeat (first | refine kN ?_ _ | refine kD ?_ | refine kA ?_ _)); exact BK419.out)) : gb443 ≠ gb419)); have n23_ := mk0 ((by rw [hg]; exact Nat.ne_of_lt (blk_lt (by (with_reducible repeat (first | refine kN ?_ _ | refine kD ?_ | refine kA ?_ _)); exact BK425.out)) : gb425 ≠ gb443)); have n24_ := mk0 ((by rw [hg]; exact Nat.ne_of_gt (blk_lt (by (with_reducible repeat (first | refine kN ?_ _ | refine kD ?_ | refine kA ?_ _)); exact BK425.out)) : gb443 ≠ gb425)); have n25_ := mk0 ((by rw [hg]; exact Nat.ne_of_lt (blk_lt (by (with_reducible repeat (first | refine kN ?_ _ | refine kD ?_ | refine kA ?_ _)); exact BK431.out)) : gb431 ≠ gb443)); have n26_ := mk0 ((by rw [hg]; exact Nat.ne_of_gt (blk_lt (by (with_reducible repeat (first | refine kN ?_ _ | refine kD ?_ | refine kA ?_ _)); exact BK431.out)) : gb443 ≠ gb431)); have n27_ := mk0 ((by rw [hg]; exact Nat.ne_of_lt (blk_lt (by (with_reducible repeat (first | refine kN ?_ _ | refine kD ?_ | refine kA ?_ _)); exact BK437.out)) : gb437 ≠ gb443)); have n28_ := mk0 ((by rw [hg]; exact Nat.ne_of_gt (blk_lt (by (with_reducible repeat (first | refine kN ?_ _ | refine kD ?_ | refine kA ?_ _)); exact BK437.out)) : gb443 ≠ gb437)); clear HO408; clear HO413; clear HO417; clear HO423; clear HO429; clear HO435; clear HO441; clear BK409; clear BK418; clear BK419; clear BK425; clear BK431; clear BK437; clear HB; have HO408 := n0_; have HO413 := n1_; have HO417 := n2_; have HO423 := n3_; have HO429 := n4_; have HO435 := n5_; have HO441 := n6_; have BK409 := n7_; have BK418 := n8_; have BK419 := n9_; have BK425 := n10_; have BK431 := n11_; have BK437 := n12_; have HB := n13_; have BK443 := n14_; have GW443 := n15_; have GE443 := n16_; have NB409_443 := n17_; have NB443_409 := n18_; have NB418_443 := n19_; have NB443_418 := n20_; have NB419_443 := n21_; have NB443_419 := n22_; have NB425_443 := n23_; have NB443_425 := n24_; have NB431_443 := n25_; have NB443_431 := n26_; have NB437_443 := n27_; have NB443_437 := n28_; clear q_ n0_ n1_ n2_ n3_ n4_ n5_ n6_ n7_ n8_ n9_ n10_ n11_ n12_ n13_ n14_ n15_ n16_ n17_ n18_ n19_ n20_ n21_ n22_ n23_ n24_ n25_ n26_ n27_ n28_; clear hb hbox hg; have hnb72 := NB443_409.out; have hnc72 := NB409_443.out; have hnb73 := NB443_418.out; have hnc73 := NB418_443.out; have hnb74 := NB443_419.out; have hnc74 := NB419_443.out; have hnb75 := NB443_425.out; have hnc75 := NB425_443.out; have hnb76 := NB443_431.out; have hnc76 := NB431_443.out; have hnb77 := NB443_437.out; have hnc77 := NB437_443.out; have z78 := bc2 BK443.out; obtain ⟨Ao79, co79, eo79⟩ := Kd.R_slice HO441.out; subst eo79) | ((with_reducible refine gate_callee (f := 25) rfl ?_); refine goesL_ (some 53) rfl rfl Try.func25 (by kernel_rfl) rfl #[.slice A0 l0.length c0] rfl (by (try simp only [List.map_toArray, List.map_cons, List.map_nil]); first | done | rfl) ?_; (with_reducible refine (spec_DrawAffAt.calls k _ _ l0 t444 t445 t448 _ ?side1 ?side2 A10.out).mono ?_); (case side1 => exact Kd.C_below HR0.out (by repeat (first | (with_reducible first | exact HB.out | apply bA | apply bN | apply bD | refine bS ?_ GE409.out | refine bS ?_ GE418.out | refine bS ?_ GE419.out | refine bS ?_ GE425.out | refine bS ?_ GE431.out | refine bS ?_ GE437.out | refine bS ?_ GE443.out) | exact HB.out))); (case side2 => exact HC0.out); rintro e w80 ⟨v446, v449, rfl, ho0, ho1, hb⟩; refine ⟨_, rfl, ?_⟩; have q_ := qB (by repeat (first | (with_reducible first | exact HB.out | apply bA | apply bN | apply bD | refine bS ?_ GE409.out | refine bS ?_ GE418.out | refine bS ?_ GE419.out | refine bS ?_ GE425.out | refine bS ?_ GE431.out | refine bS ?_ GE437.out | refine bS ?_ GE443.out) | exact HB.out)) hb; have n0_ := mk0 (Kd.R_elder' (by (with_reducible repeat (first | apply Kd.R_alloc | apply Kd.R_drewN | apply Kd.R_drew)); exact (Kd.R_mono (Kd.R_far (p := ⟨gb443, 1, none⟩) (Kd.R_far (p := ⟨gb443, 0, none⟩) (Kd.R_types HO408.out BK443.out (by decide)) (fun _ hk => hk.2) (.int .i64 t438)) (fun _ hk => hk.2) (.slice Ao79 t439.length co79)) (fun _ h_ => h_.1))) (Kd.R_base ho0) hb); have n1_ := mk0 (Kd.R_elder' (by (with_reducible repeat (first | apply Kd.R_alloc | apply Kd.R_drewN | apply Kd.R_drew)); exact (Kd.R_mono (Kd.R_far (p := ⟨gb443, 1, none⟩) (Kd.R_far (p := ⟨gb443, 0, none⟩) (Kd.R_types HO413.out BK443.out (by decide)) (fun _ hk => hk.2) (.int .i64 t438)) (fun _ hk => hk.2) (.slice Ao79 t439.length co79)) (fun _ h_ => h_.1))) (Kd.R_base ho0) hb); have n2_ := mk0 (Kd.R_elder' (by (with_reducible repeat (first | apply Kd.R_alloc | apply Kd.R_drewN | apply Kd.R_drew)); exact (Kd.R_mono (Kd.R_far (p := ⟨gb443, 1, none⟩) (Kd.R_far (p := ⟨gb443, 0, none⟩) (Kd.R_types HO417.out BK443.out (by decide)) (fun _ hk => hk.2) (.int .i64 t438)) (fun _ hk => hk.2) (.slice Ao79 t439.length co79)) (fun _ h_ => h_.1))) (Kd.R_base ho0) hb); have n3_ := mk0 (Kd.R_elder' (by (with_reducible repeat (first | apply Kd.R_alloc | apply Kd.R_drewN | apply Kd.R_drew)); exact (Kd.R_mono (Kd.R_far (p := ⟨gb443, 1, none⟩) (Kd.R_far (p := ⟨gb443, 0, none⟩) (Kd.R_types HO423.out BK443.out (by decide)) (fun _ hk => hk.2) (.int .i64 t438)) (fun _ hk => hk.2) (.slice Ao79 t439.length co79)) (fun _ h_ => h_.1))) (Kd.R_base ho0) hb); have n4_ := mk0 (Kd.R_elder' (by (with_reducible repeat (first | apply Kd.R_alloc | apply Kd.R_drewN | apply Kd.R_drew)); exact (Kd.R_mono (Kd.R_far (p := ⟨gb443, 1, none⟩) (Kd.R_far (p := ⟨gb443, 0, none⟩) (Kd.R_types HO429.out BK443.out (by decide)) (fun _ hk => hk.2) (.int .i64 t438)) (fun _ hk => hk.2) (.slice Ao79 t439.length co79)) (fun _ h_ => h_.1))) (Kd.R_base ho0) hb); have n5_ := mk0 (Kd.R_elder' (by (with_reducible repeat (first | apply Kd.R_alloc | apply Kd.R_drewN | apply Kd.R_drew)); exact (Kd.R_mono (Kd.R_far (p := ⟨gb443, 1, none⟩) (Kd.R_far (p := ⟨gb443, 0, none⟩) (Kd.R_types HO435.out BK443.out (by decide)) (fun _ hk => hk.2) (.int .i64 t438)) (fun _ hk => hk.2) (.slice Ao79 t439.length co79)) (fun _ h_ => h_.1))) (Kd.R_base ho0) hb); have n6_ := mk0 (Kd.R_elder' (by (with_reducible repeat (first | apply Kd.R_alloc | apply Kd.R_drewN | apply Kd.R_drew)); exact (Kd.R_mono (Kd.R_far (p := ⟨gb443, 1, none⟩) (Kd.R_far (p := ⟨gb443, 0, none⟩) (Kd.R_types HO441.out BK443.out (by decide)) (fun _ hk => hk.2) (.int .i64 t438)) (fun _ hk => hk.2) (.slice Ao79 t439.length co79)) (fun _ h_ => h_.1))) (Kd.R_base ho0) hb); have n7_ := mk0 (Kd.R_lower (Kd.R_new' (Kd.R_new' (Kd.R_new' (Kd.R_new' (Kd.R_new' (Kd.R_new' (Kd.R_new' ho0 (Kd.R_lt (by (with_reducible repeat (first | apply Kd.R_alloc | apply Kd.R_drewN | apply Kd.R_drew)); exact (Kd.R_mono (Kd.R_far (p := ⟨gb443, 1, none⟩) (Kd.R_far (p := ⟨gb443, 0, none⟩) (Kd.R_types HO408.out BK443.out (by decide)) (fun _ hk => hk.2) (.int .i64 t438)) (fun _ hk => hk.2) (.slice Ao79 t439.length co79)) (fun _ h_ => h_.1))))) (Kd.R_lt (by (with_reducible repeat (first | apply Kd.R_alloc | apply Kd.R_drewN | apply Kd.R_drew)); exact (Kd.R_mono (Kd.R_far (p := ⟨gb443, 1, none⟩) (Kd.R_far (p := ⟨gb443, 0, none⟩) (Kd.R_types HO413.out BK443.out (by decide)) (fun _ hk => hk.2) (.int .i64 t438)) (fun _ hk => hk.2) (.slice Ao79 t439.length co79)) (fun _ h_ => h_.1))))) (Kd.R_lt (by (with_reducible repeat (first | apply Kd.R_alloc | apply Kd.R_drewN | apply Kd.R_drew)); exact (Kd.R_mono (Kd.R_far (p := ⟨gb443, 1, none⟩) (Kd.R_far (p := ⟨gb443, 0, none⟩) (Kd.R_types HO417.out BK443.out (by decide)) (fun _ hk => hk.2) (.int .i64 t438)) (fun _ hk => hk.2) (.slice Ao79 t439.length co79)) (fun _ h_ => h_.1))))) (Kd.R_lt (by (with_reducible repeat (first | apply Kd.R_alloc | apply Kd.R_drewN | apply Kd.R_drew)); exact (Kd.R_mono (Kd.R_far (p := ⟨gb443, 1, none⟩) (Kd.R_far (p := ⟨gb443, 0, none⟩) (Kd.R_types HO423.out BK443.out (by decide)) (fun _ hk => hk.2) (.int .i64 t438)) (fun _ hk => hk.2) (.slice Ao79 t439.length co79)) (fun _ h_ => h_.1))))) (Kd.R_lt (by (with_reducible repeat (first | apply Kd.R_alloc | apply Kd.R_drewN | apply Kd.R_drew)); exact (Kd.R_mono (Kd.R_far (p := ⟨gb443, 1, none⟩) (Kd.R_far (p := ⟨gb443, 0, none⟩) (Kd.R_types HO429.out BK443.out (by decide)) (fun _ hk => hk.2) (.int .i64 t438)) (fun _ hk => hk.2) (.slice Ao79 t439.length co79)) (fun _ h_ => h_.1))))) (Kd.R_lt (by (with_reducible repeat (first | apply Kd.R_alloc | apply Kd.R_drewN | apply Kd.R_drew)); exact (Kd.R_mono (Kd.R_far (p := ⟨gb443, 1, none⟩) (Kd.R_far (p := ⟨gb443, 0, none⟩) (Kd.R_types HO435.out BK443.out (by decide)) (fun _ hk => hk.2) (.int .i64 t438)) (fun _ hk => hk.2) (.slice Ao79 t439.length co79)) (fun _ h_ => h_.1))))) (Kd.R_lt (by (with_reducible repeat (first | apply Kd.R_alloc | apply Kd.R_drewN | apply Kd.R_drew)); exact (Kd.R_mono (Kd.R_far (p := ⟨gb443, 1, none⟩) (Kd.R_far (p := ⟨gb443, 0, none⟩) (Kd.R_types HO441.out BK443.out (by decide)) (fun _ hk => hk.2) (.int .i64 t438)) (fun _ hk => hk.2) (.slice Ao79 t439.length co79)) (fun _ h_ => h_.1))))) (below_size q_)); have n8_ := mk0 (Kd.R_lower ho1 (below_size q_)); have n9_ := mk0 (blk_below (g := gb409) (o := .cells #[.int .i64 t405, .slice Ao29 t406.length co29] 28 (0, 0)) (by (with_reducible repeat (first | refine kN ?_ _ | refine kD ?_ | refine kA ?_ _)); refine blk_far ?_ NB409_443.out _; (with_reducible repeat (first | refine kN ?_ _ | refine kD ?_ | refine kA ?_ _)); refine blk_far ?_ NB409_443.out _; (with_reducible repeat (first | refine kN ?_ _ | refine kD ?_ | refine kA ?_ _)); exact BK409.out) hb); have n10_ := mk0 (blk_below (g := gb418) (o := .cells #[.int .i64 t410, .slice Ao36 t411.length co36] 28 (0, 0)) (by (with_reducible repeat (first | refine kN ?_ _ | refine kD ?_ | refine kA ?_ _)); refine blk_far ?_ NB418_443.out _; (with_reducible repeat (first | refine kN ?_ _ | refine kD ?_ | refine kA ?_ _)); refine blk_far ?_ NB418_443.out _; (with_reducible repeat (first | refine kN ?_ _ | refine kD ?_ | refine kA ?_ _)); exact BK418.out) hb); have n11_ := mk0 (blk_below (g := gb419) (o := .cells #[.int .i64 t414, .slice Ao39 t415.length co39] 28 (0, 0)) (by (with_reducible repeat (first | refine kN ?_ _ | refine kD ?_ | refine kA ?_ _)); refine blk_far ?_ NB419_443.out _; (with_reducible repeat (first | refine kN ?_ _ | refine kD ?_ | refine kA ?_ _)); refine blk_far ?_ NB419_443.out _; (with_reducible repeat (first | refine kN ?_ _ | refine kD ?_ | refine kA ?_ _)); exact BK419.out) hb); have n12_ := mk0 (blk_below (g := gb425) (o := .cells #[.int .i64 t420, .slice Ao46 t421.length co46] 28 (0, 0)) (by (with_reducible repeat (first | refine kN ?_ _ | refine kD ?_ | refine kA ?_ _)); refine blk_far ?_ NB425_443.out _; (with_reducible repeat (first | refine kN ?_ _ | refine kD ?_ | refine kA ?_ _)); refine blk_far ?_ NB425_443.out _; (with_reducible repeat (first | refine kN ?_ _ | refine kD ?_ | refine kA ?_ _)); exact BK425.out) hb); have n13_ := mk0 (blk_below (g := gb431) (o := .cells #[.int .i64 t426, .slice Ao56 t427.length co56] 28 (0, 0)) (by (with_reducible repeat (first | refine kN ?_ _ | refine kD ?_ | refine kA ?_ _)); refine blk_far ?_ NB431_443.out _; (with_reducible repeat (first | refine kN ?_ _ | refine kD ?_ | refine kA ?_ _)); refine blk_far ?_ NB431_443.out _; (with_reducible repeat (first | refine kN ?_ _ | refine kD ?_ | refine kA ?_ _)); exact BK431.out) hb); have n14_ := mk0 (blk_below (g := gb437) (o := .cells #[.int .i64 t432, .slice Ao67 t433.length co67] 28 (0, 0)) (by (with_reducible repeat (first | refine kN ?_ _ | refine kD ?_ | refine kA ?_ _)); refine blk_far ?_ NB437_443.out _; (with_reducible repeat (first | refine kN ?_ _ | refine kD ?_ | refine kA ?_ _)); refine blk_far ?_ NB437_443.out _; (with_reducible repeat (first | refine kN ?_ _ | refine kD ?_ | refine kA ?_ _)); exact BK437.out) hb); have n15_ := mk0 (blk_below (g := gb443) (o := .cells #[.int .i64 t438, .slice Ao79 t439.length co79] 28 (0, 0)) (by (with_reducible repeat (first | refine kN ?_ _ | refine kD ?_ | refine kA ?_ _)); refine blk_put (cs := #[.int .i64 t438, .slice none 0 0]) ?_ 1 _ rfl; (with_reducible repeat (first | refine kN ?_ _ | refine kD ?_ | refine kA ?_ _)); refine blk_put (cs := #[.int .i64 0, .slice none 0 0]) ?_ 0 _ rfl; (with_reducible repeat (first | refine kN ?_ _ | refine kD ?_ | refine kA ?_ _)); exact BK443.out) hb); have n16_ := mk0 (below_step q_ hb); clear HO408; clear HO413; clear HO417; clear HO423; clear HO429; clear HO435; clear HO441; clear BK409; clear BK418; clear BK419; clear BK425; clear BK431; clear BK437; clear BK443; clear HB; have HO408 := n0_; have HO413 := n1_; have HO417 := n2_; have HO423 := n3_; have HO429 := n4_; have HO435 := n5_; have HO441 := n6_; have HO447 := n7_; have HO450 := n8_; have BK409 := n9_; have BK418 := n10_; have BK419 := n11_; have BK425 := n12_; have BK431 := n13_; have BK437 := n14_; have BK443 := n15_; have HB := n16_; clear q_ n0_ n1_ n2_ n3_ n4_ n5_ n6_ n7_ n8_ n9_ n10_ n11_ n12_ n13_ n14_ n15_ n16_; (try clear hb); (try clear hb2); (try clear hk); (try clear hi); (try clear ho0); (try clear ho1)) | ((with_reducible refine gate_dst (N := 14) rfl ?_); refine box_event ?hg (N := 14) ?hd (cs := #[.int .i64 0, .slice none 0 0]) (t := 28) ?hr ?_; (case hd => rfl); (case hg => rfl); (case hr => first | (go_simp; done) | (go_simp; rfl)); intro gb451 hg w81 hbox hb; have q_ := qB (by repeat (first | (with_reducible first | exact HB.out | apply bA | apply bN | apply bD | refine bS ?_ GE409.out | refine bS ?_ GE418.out | refine bS ?_ GE419.out | refine bS ?_ GE425.out | refine bS ?_ GE431.out | refine bS ?_ GE437.out | refine bS ?_ GE443.out) | exact HB.out)) hb; have n0_ := mk0 (Kd.R_below (by (with_reducible repeat (first | apply Kd.R_alloc | apply Kd.R_drewN | apply Kd.R_drew)); exact HO408.out) hb); have n1_ := mk0 (Kd.R_below (by (with_reducible repeat (first | apply Kd.R_alloc | apply Kd.R_drewN | apply Kd.R_drew)); exact HO413.out) hb); have n2_ := mk0 (Kd.R_below (by (with_reducible repeat (first | apply Kd.R_alloc | apply Kd.R_drewN | apply Kd.R_drew)); exact HO417.out) hb); have n3_ := mk0 (Kd.R_below (by (with_reducible repeat (first | apply Kd.R_alloc | apply Kd.R_drewN | apply Kd.R_drew)); exact HO423.out) hb); have n4_ := mk0 (Kd.R_below (by (with_reducible repeat (first | apply Kd.R_alloc | apply Kd.R_drewN | apply Kd.R_drew)); exact HO429.out) hb); have n5_ := mk0 (Kd.R_below (by (with_reducible repeat (first | apply Kd.R_alloc | apply Kd.R_drewN | apply Kd.R_drew)); exact HO435.out) hb); have n6_ := mk0 (Kd.R_below (by (with_reducible repeat (first | apply Kd.R_alloc | apply Kd.R_drewN | apply Kd.R_drew)); exact HO441.out) hb); have n7_ := mk0 (Kd.R_below (by (with_reducible repeat (first | apply Kd.R_alloc | apply Kd.R_drewN | apply Kd.R_drew)); exact HO447.out) hb); have n8_ := mk0 (Kd.R_below (by (with_reducible repeat (first | apply Kd.R_alloc | apply Kd.R_drewN | apply Kd.R_drew)); exact HO450.out) hb); have n9_ := mk0 (blk_below (by (with_reducible repeat (first | refine kN ?_ _ | refine kD ?_ | refine kA ?_ _)); exact BK409.out) hb); have n10_ := mk0 (blk_below (by (with_reducible repeat (first | refine kN ?_ _ | refine kD ?_ | refine kA ?_ _)); exact BK418.out) hb); have n11_ := mk0 (blk_below (by (with_reducible repeat (first | refine kN ?_ _ | refine kD ?_ | refine kA ?_ _)); exact BK419.out) hb); have n12_ := mk0 (blk_below (by (with_reducible repeat (first | refine kN ?_ _ | refine kD ?_ | refine kA ?_ _)); exact BK425.out) hb); have n13_ := mk0 (blk_below (by (with_reducible repeat (first | refine kN ?_ _ | refine kD ?_ | refine kA ?_ _)); exact BK431.out) hb); have n14_ := mk0 (blk_below (by (with_reducible repeat (first | refine kN ?_ _ | refine kD ?_ | refine kA ?_ _)); exact BK437.out) hb); have n15_ := mk0 (blk_below (by (with_reducible repeat (first | refine kN ?_ _ | refine kD ?_ | refine kA ?_ _)); exact BK443.out) hb); have n16_ := mk0 (below_step q_ hb); have n17_ := mk0 (hbox); have n18_ := mk0 ((by rw [hg]; exact (below_size q_) : w.heap.size ≤ gb451)); have n19_ := n18_; have n20_ := mk0 ((by rw [hg]; exact Nat.ne_of_lt (blk_lt (by (with_reducible repeat (first | refine kN ?_ _ | refine kD ?_ | refine kA ?_ _)); exact BK409.out)) : gb409 ≠ gb451)); have n21_ := mk0 ((by rw [hg]; exact Nat.ne_of_gt (blk_lt (by (with_reducible repeat (first | refine kN ?_ _ | refine kD ?_ | refine kA ?_ _)); exact BK409.out)) : gb451 ≠ gb409)); have n22_ := mk0 ((by rw [hg]; exact Nat.ne_of_lt (blk_lt (by (with_reducible repeat (first | refine kN ?_ _ | refine kD ?_ | refine kA ?_ _)); exact BK418.out)) : gb418 ≠ gb451)); have n23_ := mk0 ((by rw [hg]; exact Nat.ne_of_gt (blk_lt (by (with_reducible repeat (first | refine kN ?_ _ | refine kD ?_ | refine kA ?_ _)); exact BK418.out)) : gb451 ≠ gb418)); have n24_ := mk0 ((by rw [hg]; exact Nat.ne_of_lt (blk_lt (by (with_reducible repeat (first | refine kN ?_ _ | refine kD ?_ | refine kA ?_ _)); exact BK419.out)) : gb419 ≠ gb451)); have n25_ := mk0 ((by rw [hg]; exact Nat.ne_of_gt (blk_lt (by (with_reducible repeat (first | refine kN ?_ _ | refine kD ?_ | refine kA ?_ _)); exact BK419.out)) : gb451 ≠ gb419)); have n26_ := mk0 ((by rw [hg]; exact Nat.ne_of_lt (blk_lt (by (with_reducible repeat (first | refine kN ?_ _ | refine kD ?_ | refine kA ?_ _)); exact BK425.out)) : gb425 ≠ gb451)); have n27_ := mk0 ((by rw [hg]; exact Nat.ne_of_gt (blk_lt (by (with_reducible repeat (first | refine kN ?_ _ | refine kD ?_ | refine kA ?_ _)); exact BK425.out)) : gb451 ≠ gb425)); have n28_ := mk0 ((by rw [hg]; exact Nat.ne_of_lt (blk_lt (by (with_reducible repeat (first | refine kN ?_ _ | refine kD ?_ | refine kA ?_ _)); exact BK431.out)) : gb431 ≠ gb451)); have n29_ := mk0 ((by rw [hg]; exact Nat.ne_of_gt (blk_lt (by (with_reducible repeat (first | refine kN ?_ _ | refine kD ?_ | refine kA ?_ _)); exact BK431.out)) : gb451 ≠ gb431)); have n30_ := mk0 ((by rw [hg]; exact Nat.ne_of_lt (blk_lt (by (with_reducible repeat (first | refine kN ?_ _ | refine kD ?_ | refine kA ?_ _)); exact BK437.out)) : gb437 ≠ gb451)); have n31_ := mk0 ((by rw [hg]; exact Nat.ne_of_gt (blk_lt (by (with_reducible repeat (first | refine kN ?_ _ | refine kD ?_ | refine kA ?_ _)); exact BK437.out)) : gb451 ≠ gb437)); have n32_ := mk0 ((by rw [hg]; exact Nat.ne_of_lt (blk_lt (by (with_reducible repeat (first | refine kN ?_ _ | refine kD ?_ | refine kA ?_ _)); exact BK443.out)) : gb443 ≠ gb451)); have n33_ := mk0 ((by rw [hg]; exact Nat.ne_of_gt (blk_lt (by (with_reducible repeat (first | refine kN ?_ _ | refine kD ?_ | refine kA ?_ _)); exact BK443.out)) : gb451 ≠ gb443)); clear HO408; clear HO413; clear HO417; clear HO423; clear HO429; clear HO435; clear HO441; clear HO447; clear HO450; clear BK409; clear BK418; clear BK419; clear BK425; clear BK431; clear BK437; clear BK443; clear HB; have HO408 := n0_; have HO413 := n1_; have HO417 := n2_; have HO423 := n3_; have HO429 := n4_; have HO435 := n5_; have HO441 := n6_; have HO447 := n7_; have HO450 := n8_; have BK409 := n9_; have BK418 := n10_; have BK419 := n11_; have BK425 := n12_; have BK431 := n13_; have BK437 := n14_; have BK443 := n15_; have HB := n16_; have BK451 := n17_; have GW451 := n18_; have GE451 := n19_; have NB409_451 := n20_; have NB451_409 := n21_; have NB418_451 := n22_; have NB451_418 := n23_; have NB419_451 := n24_; have NB451_419 := n25_; have NB425_451 := n26_; have NB451_425 := n27_; have NB431_451 := n28_; have NB451_431 := n29_; have NB437_451 := n30_; have NB451_437 := n31_; have NB443_451 := n32_; have NB451_443 := n33_; clear q_ n0_ n1_ n2_ n3_ n4_ n5_ n6_ n7_ n8_ n9_ n10_ n11_ n12_ n13_ n14_ n15_ n16_ n17_ n18_ n19_ n20_ n21_ n22_ n23_ n24_ n25_ n26_ n27_ n28_ n29_ n30_ n31_ n32_ n33_; clear hb hbox hg; have hnb82 := NB451_409.out; have hnc82 := NB409_451.out; have hnb83 := NB451_418.out; have hnc83 := NB418_451.out; have hnb84 := NB451_419.out; have hnc84 := NB419_451.out; have hnb85 := NB451_425.out; have hnc85 := NB425_451.out; have hnb86 := NB451_431.out; have hnc86 := NB431_451.out; have hnb87 := NB451_437.out; have hnc87 := NB437_451.out; have hnb88 := NB451_443.out; have hnc88 := NB443_451.out; have z89 := bc2 BK451.out; obtain ⟨Ao90, co90, eo90⟩ := Kd.R_slice HO447.out; subst eo90) | ((with_reducible refine gate_callee (f := 26) rfl ?_); refine goesL_ (some 58) rfl rfl Try.func26 (by kernel_rfl) rfl #[.slice A0 l0.length c0] rfl (by (try simp only [List.map_toArray, List.map_cons, List.map_nil]); first | done | rfl) ?_; (with_reducible refine (spec_DrawCoefOf.calls k _ _ l0 t452 t453 t456 _ ?side1 ?side2 A11.out).mono ?_); (case side1 => exact Kd.C_below HR0.out (by repeat (first | (with_reducible first | exact HB.out | apply bA | apply bN | apply bD | refine bS ?_ GE409.out | refine bS ?_ GE418.out | refine bS ?_ GE419.out | refine bS ?_ GE425.out | refine bS ?_ GE431.out | refine bS ?_ GE437.out | refine bS ?_ GE443.out | refine bS ?_ GE451.out) | exact HB.out))); (case side2 => exact HC0.out); rintro e w91 ⟨v454, rfl, ho0, hb⟩; refine ⟨_, rfl, ?_⟩; have q_ := qB (by repeat (first | (with_reducible first | exact HB.out | apply bA | apply bN | apply bD | refine bS ?_ GE409.out | refine bS ?_ GE418.out | refine bS ?_ GE419.out | refine bS ?_ GE425.out | refine bS ?_ GE431.out | refine bS ?_ GE437.out | refine bS ?_ GE443.out | refine bS ?_ GE451.out) | exact HB.out)) hb; have n0_ := mk0 (Kd.R_elder' (by (with_reducible repeat (first | apply Kd.R_alloc | apply Kd.R_drewN | apply Kd.R_drew)); exact (Kd.R_mono (Kd.R_far (p := ⟨gb451, 1, none⟩) (Kd.R_far (p := ⟨gb451, 0, none⟩) (Kd.R_types HO408.out BK451.out (by decide)) (fun _ hk => hk.2) (.int .i64 t444)) (fun _ hk => hk.2) (.slice Ao90 t445.length co90)) (fun _ h_ => h_.1))) (Kd.R_base ho0) hb); have n1_ := mk0 (Kd.R_elder' (by (with_reducible repeat (first | apply Kd.R_alloc | apply Kd.R_drewN | apply Kd.R_drew)); exact (Kd.R_mono (Kd.R_far (p := ⟨gb451, 1, none⟩) (Kd.R_far (p := ⟨gb451, 0, none⟩) (Kd.R_types HO413.out BK451.out (by decide)) (fun _ hk => hk.2) (.int .i64 t444)) (fun _ hk => hk.2) (.slice Ao90 t445.length co90)) (fun _ h_ => h_.1))) (Kd.R_base ho0) hb); have n2_ := mk0 (Kd.R_elder' (by (with_reducible repeat (first | apply Kd.R_alloc | apply Kd.R_drewN | apply Kd.R_drew)); exact (Kd.R_mono (Kd.R_far (p := ⟨gb451, 1, none⟩) (Kd.R_far (p := ⟨gb451, 0, none⟩) (Kd.R_types HO417.out BK451.out (by decide)) (fun _ hk => hk.2) (.int .i64 t444)) (fun _ hk => hk.2) (.slice Ao90 t445.length co90)) (fun _ h_ => h_.1))) (Kd.R_base ho0) hb); have n3_ := mk0 (Kd.R_elder' (by (with_reducible repeat (first | apply Kd.R_alloc | apply Kd.R_drewN | apply Kd.R_drew)); exact (Kd.R_mono (Kd.R_far (p := ⟨gb451, 1, none⟩) (Kd.R_far (p := ⟨gb451, 0, none⟩) (Kd.R_types HO423.out BK451.out (by decide)) (fun _ hk => hk.2) (.int .i64 t444)) (fun _ hk => hk.2) (.slice Ao90 t445.length co90)) (fun _ h_ => h_.1))) (Kd.R_base ho0) hb); have n4_ := mk0 (Kd.R_elder' (by (with_reducible repeat (first | apply Kd.R_alloc | apply Kd.R_drewN | apply Kd.R_drew)); exact (Kd.R_mono (Kd.R_far (p := ⟨gb451, 1, none⟩) (Kd.R_far (p := ⟨gb451, 0, none⟩) (Kd.R_types HO429.out BK451.out (by decide)) (fun _ hk => hk.2) (.int .i64 t444)) (fun _ hk => hk.2) (.slice Ao90 t445.length co90)) (fun _ h_ => h_.1))) (Kd.R_base ho0) hb); have n5_ := mk0 (Kd.R_elder' (by (with_reducible repeat (first | apply Kd.R_alloc | apply Kd.R_drewN | apply Kd.R_drew)); exact (Kd.R_mono (Kd.R_far (p := ⟨gb451, 1, none⟩) (Kd.R_far (p := ⟨gb451, 0, none⟩) (Kd.R_types HO435.out BK451.out (by decide)) (fun _ hk => hk.2) (.int .i64 t444)) (fun _ hk => hk.2) (.slice Ao90 t445.length co90)) (fun _ h_ => h_.1))) (Kd.R_base ho0) hb); have n6_ := mk0 (Kd.R_elder' (by (with_reducible repeat (first | apply Kd.R_alloc | apply Kd.R_drewN | apply Kd.R_drew)); exact (Kd.R_mono (Kd.R_far (p := ⟨gb451, 1, none⟩) (Kd.R_far (p := ⟨gb451, 0, none⟩) (Kd.R_types HO441.out BK451.out (by decide)) (fun _ hk => hk.2) (.int .i64 t444)) (fun _ hk => hk.2) (.slice Ao90 t445.length co90)) (fun _ h_ => h_.1))) (Kd.R_base ho0) hb); have n7_ := mk0 (Kd.R_elder' (by (with_reducible repeat (first | apply Kd.R_alloc | apply Kd.R_drewN | apply Kd.R_drew)); exact (Kd.R_mono (Kd.R_far (p := ⟨gb451, 1, none⟩) (Kd.R_far (p := ⟨gb451, 0, none⟩) (Kd.R_types HO447.out BK451.out (by decide)) (fun _ hk => hk.2) (.int .i64 t444)) (fun _ hk => hk.2) (.slice Ao90 t445.length co90)) (fun _ h_ => h_.1))) (Kd.R_base ho0) hb); have n8_ := mk0 (Kd.R_below (by (with_reducible repeat (first | apply Kd.R_alloc | apply Kd.R_drewN | apply Kd.R_drew)); exact (Kd.R_mono (Kd.R_far (p := ⟨gb451, 1, none⟩) (Kd.R_far (p := ⟨gb451, 0, none⟩) (Kd.R_types HO450.out BK451.out (by decide)) (fun _ hk => hk.2) (.int .i64 t444)) (fun _ hk => hk.2) (.slice Ao90 t445.length co90)) (fun _ h_ => h_.1))) hb); have n9_ := mk0 (Kd.R_lower (Kd.R_new' (Kd.R_new' (Kd.R_new' (Kd.R_new' (Kd.R_new' (Kd.R_new' (Kd.R_new' (Kd.R_new' ho0 (Kd.R_lt (by (with_reducible repeat (first | apply Kd.R_alloc | apply Kd.R_drewN | apply Kd.R_drew)); exact (Kd.R_mono (Kd.R_far (p := ⟨gb451, 1, none⟩) (Kd.R_far (p := ⟨gb451, 0, none⟩) (Kd.R_types HO408.out BK451.out (by decide)) (fun _ hk => hk.2) (.int .i64 t444)) (fun _ hk => hk.2) (.slice Ao90 t445.length co90)) (fun _ h_ => h_.1))))) (Kd.R_lt (by (with_reducible repeat (first | apply Kd.R_alloc | apply Kd.R_drewN | apply Kd.R_drew)); exact (Kd.R_mono (Kd.R_far (p := ⟨gb451, 1, none⟩) (Kd.R_far (p := ⟨gb451, 0, none⟩) (Kd.R_types HO413.out BK451.out (by decide)) (fun _ hk => hk.2) (.int .i64 t444)) (fun _ hk => hk.2) (.slice Ao90 t445.length co90)) (fun _ h_ => h_.1))))) (Kd.R_lt (by (with_reducible repeat (first | apply Kd.R_alloc | apply Kd.R_drewN | apply Kd.R_drew)); exact (Kd.R_mono (Kd.R_far (p := ⟨gb451, 1, none⟩) (Kd.R_far (p := ⟨gb451, 0, none⟩) (Kd.R_types HO417.out BK451.out (by decide)) (fun _ hk => hk.2) (.int .i64 t444)) (fun _ hk => hk.2) (.slice Ao90 t445.length co90)) (fun _ h_ => h_.1))))) (Kd.R_lt (by (with_reducible repeat (first | apply Kd.R_alloc | apply Kd.R_drewN | apply Kd.R_drew)); exact (Kd.R_mono (Kd.R_far (p := ⟨gb451, 1, none⟩) (Kd.R_far (p := ⟨gb451, 0, none⟩) (Kd.R_types HO423.out BK451.out (by decide)) (fun _ hk => hk.2) (.int .i64 t444)) (fun _ hk => hk.2) (.slice Ao90 t445.length co90)) (fun _ h_ => h_.1))))) (Kd.R_lt (by (with_reducible repeat (first | apply Kd.R_alloc | apply Kd.R_drewN | apply Kd.R_drew)); exact (Kd.R_mono (Kd.R_far (p := ⟨gb451, 1, none⟩) (Kd.R_far (p := ⟨gb451, 0, none⟩) (Kd.R_types HO429.out BK451.out (by decide)) (fun _ hk => hk.2) (.int .i64 t444)) (fun _ hk => hk.2) (.slice Ao90 t445.length co90)) (fun _ h_ => h_.1))))) (Kd.R_lt (by (with_reducible repeat (first | apply Kd.R_alloc | apply Kd.R_drewN | apply Kd.R_drew)); exact (Kd.R_mono (Kd.R_far (p := ⟨gb451, 1, none⟩) (Kd.R_far (p := ⟨gb451, 0, none⟩) (Kd.R_types HO435.out BK451.out (by decide)) (fun _ hk => hk.2) (.int .i64 t444)) (fun _ hk => hk.2) (.slice Ao90 t445.length co90)) (fun _ h_ => h_.1))))) (Kd.R_lt (by (with_reducible repeat (first | apply Kd.R_alloc | apply Kd.R_drewN | apply Kd.R_drew)); exact (Kd.R_mono (Kd.R_far (p := ⟨gb451, 1, none⟩) (Kd.R_far (p := ⟨gb451, 0, none⟩) (Kd.R_types HO441.out BK451.out (by decide)) (fun _ hk => hk.2) (.int .i64 t444)) (fun _ hk => hk.2) (.slice Ao90 t445.length co90)) (fun _ h_ => h_.1))))) (Kd.R_lt (by (with_reducible repeat (first | apply Kd.R_alloc | apply Kd.R_drewN | apply Kd.R_drew)); exact (Kd.R_mono (Kd.R_far (p := ⟨gb451, 1, none⟩) (Kd.R_far (p := ⟨gb451, 0, none⟩) (Kd.R_types HO447.out BK451.out (by decide)) (fun _ hk => hk.2) (.int .i64 t444)) (fun _ hk => hk.2) (.slice Ao90 t445.length co90)) (fun _ h_ => h_.1))))) (below_size q_)); have n10_ := mk0 (blk_below (g := gb409) (o := .cells #[.int .i64 t405, .slice Ao29 t406.length co29] 28 (0, 0)) (by (with_reducible repeat (first | refine kN ?_ _ | refine kD ?_ | refine kA ?_ _)); refine blk_far ?_ NB409_451.out _; (with_reducible repeat (first | refine kN ?_ _ | refine kD ?_ | refine kA ?_ _)); refine blk_far ?_ NB409_451.out _; (with_reducible repeat (first | refine kN ?_ _ | refine kD ?_ | refine kA ?_ _)); exact BK409.out) hb); have n11_ := mk0 (blk_below (g := gb418) (o := .cells #[.int .i64 t410, .slice Ao36 t411.length co36] 28 (0, 0)) (by (with_reducible repeat (first | refine kN ?_ _ | refine kD ?_ | refine kA ?_ _)); refine blk_far ?_ NB418_451.out _; (with_reducible repeat (first | refine kN ?_ _ | refine kD ?_ | refine kA ?_ _)); refine blk_far ?_ NB418_451.out _; (with_reducible repeat (first | refine kN ?_ _ | refine kD ?_ | refine kA ?_ _)); exact BK418.out) hb); have n12_ := mk0 (blk_below (g := gb419) (o := .cells #[.int .i64 t414, .slice Ao39 t415.length co39] 28 (0, 0)) (by (with_reducible repeat (first | refine kN ?_ _ | refine kD ?_ | refine kA ?_ _)); refine blk_far ?_ NB419_451.out _; (with_reducible repeat (first | refine kN ?_ _ | refine kD ?_ | refine kA ?_ _)); refine blk_far ?_ NB419_451.out _; (with_reducible repeat (first | refine kN ?_ _ | refine kD ?_ | refine kA ?_ _)); exact BK419.out) hb); have n13_ := mk0 (blk_below (g := gb425) (o := .cells #[.int .i64 t420, .slice Ao46 t421.length co46] 28 (0, 0)) (by (with_reducible repeat (first | refine kN ?_ _ | refine kD ?_ | refine kA ?_ _)); refine blk_far ?_ NB425_451.out _; (with_reducible repeat (first | refine kN ?_ _ | refine kD ?_ | refine kA ?_ _)); refine blk_far ?_ NB425_451.out _; (with_reducible repeat (first | refine kN ?_ _ | refine kD ?_ | refine kA ?_ _)); exact BK425.out) hb); have n14_ := mk0 (blk_below (g := gb431) (o := .cells #[.int .i64 t426, .slice Ao56 t427.length co56] 28 (0, 0)) (by (with_reducible repeat (first | refine kN ?_ _ | refine kD ?_ | refine kA ?_ _)); refine blk_far ?_ NB431_451.out _; (with_reducible repeat (first | refine kN ?_ _ | refine kD ?_ | refine kA ?_ _)); refine blk_far ?_ NB431_451.out _; (with_reducible repeat (first | refine kN ?_ _ | refine kD ?_ | refine kA ?_ _)); exact BK431.out) hb); have n15_ := mk0 (blk_below (g := gb437) (o := .cells #[.int .i64 t432, .slice Ao67 t433.length co67] 28 (0, 0)) (by (with_reducible repeat (first | refine kN ?_ _ | refine kD ?_ | refine kA ?_ _)); refine blk_far ?_ NB437_451.out _; (with_reducible repeat (first | refine kN ?_ _ | refine kD ?_ | refine kA ?_ _)); refine blk_far ?_ NB437_451.out _; (with_reducible repeat (first | refine kN ?_ _ | refine kD ?_ | refine kA ?_ _)); exact BK437.out) hb); have n16_ := mk0 (blk_below (g := gb443) (o := .cells #[.int .i64 t438, .slice Ao79 t439.length co79] 28 (0, 0)) (by (with_reducible repeat (first | refine kN ?_ _ | refine kD ?_ | refine kA ?_ _)); refine blk_far ?_ NB443_451.out _; (with_reducible repeat (first | refine kN ?_ _ | refine kD ?_ | refine kA ?_ _)); refine blk_far ?_ NB443_451.out _; (with_reducible repeat (first | refine kN ?_ _ | refine kD ?_ | refine kA ?_ _)); exact BK443.out) hb); have n17_ := mk0 (blk_below (g := gb451) (o := .cells #[.int .i64 t444, .slice Ao90 t445.length co90] 28 (0, 0)) (by (with_reducible repeat (first | refine kN ?_ _ | refine kD ?_ | refine kA ?_ _)); refine blk_put (cs := #[.int .i64 t444, .slice none 0 0]) ?_ 1 _ rfl; (with_reducible repeat (first | refine kN ?_ _ | refine kD ?_ | refine kA ?_ _)); refine blk_put (cs := #[.int .i64 0, .slice none 0 0]) ?_ 0 _ rfl; (with_reducible repeat (first | refine kN ?_ _ | refine kD ?_ | refine kA ?_ _)); exact BK451.out) hb); have n18_ := mk0 (below_step q_ hb); clear HO408; clear HO413; clear HO417; clear HO423; clear HO429; clear HO435; clear HO441; clear HO447; clear HO450; clear BK409; clear BK418; clear BK419; clear BK425; clear BK431; clear BK437; clear BK443; clear BK451; clear HB; have HO408 := n0_; have HO413 := n1_; have HO417 := n2_; have HO423 := n3_; have HO429 := n4_; have HO435 := n5_; have HO441 := n6_; have HO447 := n7_; have HO450 := n8_; have HO455 := n9_; have BK409 := n10_; have BK418 := n11_; have BK419 := n12_; have BK425 := n13_; have BK431 := n14_; have BK437 := n15_; have BK443 := n16_; have BK451 := n17_; have HB := n18_; clear q_ n0_ n1_ n2_ n3_ n4_ n5_ n6_ n7_ n8_ n9_ n10_ n11_ n12_ n13_ n14_ n15_ n16_ n17_ n18_; (try clear hb); (try clear hb2); (try clear hk); (try clear hi); (try clear ho0)) | ((with_reducible refine gate_dst (N := 16) rfl ?_); refine box_event ?hg (N := 16) ?hd (cs := #[.int .i64 0, .slice none 0 0]) (t := 28) ?hr ?_; (case hd => rfl); (case hg => rfl); (case hr => first | (go_simp; done) | (go_simp; rfl)); intro gb457 hg w92 hbox hb; have q_ := qB (by repeat (first | (with_reducible first | exact HB.out | apply bA | apply bN | apply bD | refine bS ?_ GE409.out | refine bS ?_ GE418.out | refine bS ?_ GE419.out | refine bS ?_ GE425.out | refine bS ?_ GE431.out | refine bS ?_ GE437.out | refine bS ?_ GE443.out | refine bS ?_ GE451.out) | exact HB.out)) hb; have n0_ := mk0 (Kd.R_below (by (with_reducible repeat (first | apply Kd.R_alloc | apply Kd.R_drewN | apply Kd.R_drew)); exact HO408.out) hb); have n1_ := mk0 (Kd.R_below (by (with_reducible repeat (first | apply Kd.R_alloc | apply Kd.R_drewN | apply Kd.R_drew)); exact HO413.out) hb); have n2_ := mk0 (Kd.R_below (by (with_reducible repeat (first | apply Kd.R_alloc | apply Kd.R_drewN | apply Kd.R_drew)); exact HO417.out) hb); have n3_ := mk0 (Kd.R_below (by (with_reducible repeat (first | apply Kd.R_alloc | apply Kd.R_drewN | apply Kd.R_drew)); exact HO423.out) hb); have n4_ := mk0 (Kd.R_below (by (with_reducible repeat (first | apply Kd.R_alloc | apply Kd.R_drewN | apply Kd.R_drew)); exact HO429.out) hb); have n5_ := mk0 (Kd.R_below (by (with_reducible repeat (first | apply Kd.R_alloc | apply Kd.R_drewN | apply Kd.R_drew)); exact HO435.out) hb); have n6_ := mk0 (Kd.R_below (by (with_reducible repeat (first | apply Kd.R_alloc | apply Kd.R_drewN | apply Kd.R_drew)); exact HO441.out) hb); have n7_ := mk0 (Kd.R_below (by (with_reducible repeat (first | apply Kd.R_alloc | apply Kd.R_drewN | apply Kd.R_drew)); exact HO447.out) hb); have n8_ := mk0 (Kd.R_below (by (with_reducible repeat (first | apply Kd.R_alloc | apply Kd.R_drewN | apply Kd.R_drew)); exact HO450.out) hb); have n9_ := mk0 (Kd.R_below (by (with_reducible repeat (first | apply Kd.R_alloc | apply Kd.R_drewN | apply Kd.R_drew)); exact HO455.out) hb); have n10_ := mk0 (blk_below (by (with_reducible repeat (first | refine kN ?_ _ | refine kD ?_ | refine kA ?_ _)); exact BK409.out) hb); have n11_ := mk0 (blk_below (by (with_reducible repeat (first | refine kN ?_ _ | refine kD ?_ | refine kA ?_ _)); exact BK418.out) hb); have n12_ := mk0 (blk_below (by (with_reducible repeat (first | refine kN ?_ _ | refine kD ?_ | refine kA ?_ _)); exact BK419.out) hb); have n13_ := mk0 (blk_below (by (with_reducible repeat (first | refine kN ?_ _ | refine kD ?_ | refine kA ?_ _)); exact BK425.out) hb); have n14_ := mk0 (blk_below (by (with_reducible repeat (first | refine kN ?_ _ | refine kD ?_ | refine kA ?_ _)); exact BK431.out) hb); have n15_ := mk0 (blk_below (by (with_reducible repeat (first | refine kN ?_ _ | refine kD ?_ | refine kA ?_ _)); exact BK437.out) hb); have n16_ := mk0 (blk_below (by (with_reducible repeat (first | refine kN ?_ _ | refine kD ?_ | refine kA ?_ _)); exact BK443.out) hb); have n17_ := mk0 (blk_below (by (with_reducible repeat (first | refine kN ?_ _ | refine kD ?_ | refine kA ?_ _)); exact BK451.out) hb); have n18_ := mk0 (below_step q_ hb); have n19_ := mk0 (hbox); have n20_ := mk0 ((by rw [hg]; exact (below_size q_) : w.heap.size ≤ gb457)); have n21_ := n20_; have n22_ := mk0 ((by rw [hg]; exact Nat.ne_of_lt (blk_lt (by (with_reducible repeat (first | refine kN ?_ _ | refine kD ?_ | refine kA ?_ _)); exact BK409.out)) : gb409 ≠ gb457)); have n23_ := mk0 ((by rw [hg]; exact Nat.ne_of_gt (blk_lt (by (with_reducible repeat (first | refine kN ?_ _ | refine kD ?_ | refine kA ?_ _)); exact BK409.out)) : gb457 ≠ gb409)); have n24_ := mk0 ((by rw [hg]; exact Nat.ne_of_lt (blk_lt (by (with_reducible repeat (first | refine kN ?_ _ | refine kD ?_ | refine kA ?_ _)); exact BK418.out)) : gb418 ≠ gb457)); have n25_ := mk0 ((by rw [hg]; exact Nat.ne_of_gt (blk_lt (by (with_reducible repeat (first | refine kN ?_ _ | refine kD ?_ | refine kA ?_ _)); exact BK418.out)) : gb457 ≠ gb418)); have n26_ := mk0 ((by rw [hg]; exact Nat.ne_of_lt (blk_lt (by (with_reducible repeat (first | refine kN ?_ _ | refine kD ?_ | refine kA ?_ _)); exact BK419.out)) : gb419 ≠ gb457)); have n27_ := mk0 ((by rw [hg]; exact Nat.ne_of_gt (blk_lt (by (with_reducible repeat (first | refine kN ?_ _ | refine kD ?_ | refine kA ?_ _)); exact BK419.out)) : gb457 ≠ gb419)); have n28_ := mk0 ((by rw [hg]; exact Nat.ne_of_lt (blk_lt (by (with_reducible repeat (first | refine kN ?_ _ | refine kD ?_ | refine kA ?_ _)); exact BK425.out)) : gb425 ≠ gb457)); have n29_ := mk0 ((by rw [hg]; exact Nat.ne_of_gt (blk_lt (by (with_reducible repeat (first | refine kN ?_ _ | refine kD ?_ | refine kA ?_ _)); exact BK425.out)) : gb457 ≠ gb425)); have n30_ := mk0 ((by rw [hg]; exact Nat.ne_of_lt (blk_lt (by (with_reducible repeat (first | refine kN ?_ _ | refine kD ?_ | refine kA ?_ _)); exact BK431.out)) : gb431 ≠ gb457)); have n31_ := mk0 ((by rw [hg]; exact Nat.ne_of_gt (blk_lt (by (with_reducible repeat (first | refine kN ?_ _ | refine kD ?_ | refine kA ?_ _)); exact BK431.out)) : gb457 ≠ gb431)); have n32_ := mk0 ((by rw [hg]; exact Nat.ne_of_lt (blk_lt (by (with_reducible repeat (first | refine kN ?_ _ | refine kD ?_ | refine kA ?_ _)); exact BK437.out)) : gb437 ≠ gb457)); have n33_ := mk0 ((by rw [hg]; exact Nat.ne_of_gt (blk_lt (by (with_reducible repeat (first | refine kN ?_ _ | refine kD ?_ | refine kA ?_ _)); exact BK437.out)) : gb457 ≠ gb437)); have n34_ := mk0 ((by rw [hg]; exact Nat.ne_of_lt (blk_lt (by (with_reducible repeat (first | refine kN ?_ _ | refine kD ?_ | refine kA ?_ _)); exact BK443.out)) : gb443 ≠ gb457)); have n35_ := mk0 ((by rw [hg]; exact Nat.ne_of_gt (blk_lt (by (with_reducible repeat (first | refine kN ?_ _ | refine kD ?_ | refine kA ?_ _)); exact BK443.out)) : gb457 ≠ gb443)); have n36_ := mk0 ((by rw [hg]; exact Nat.ne_of_lt (blk_lt (by (with_reducible repeat (first | refine kN ?_ _ | refine kD ?_ | refine kA ?_ _)); exact BK451.out)) : gb451 ≠ gb457)); have n37_ := mk0 ((by rw [hg]; exact Nat.ne_of_gt (blk_lt (by (with_reducible repeat (first | refine kN ?_ _ | refine kD ?_ | refine kA ?_ _)); exact BK451.out)) : gb457 ≠ gb451)); clear HO408; clear HO413; clear HO417; clear HO423; clear HO429; clear HO435; clear HO441; clear HO447; clear HO450; clear HO455; clear BK409; clear BK418; clear BK419; clear BK425; clear BK431; clear BK437; clear BK443; clear BK451; clear HB; have HO408 := n0_; have HO413 := n1_; have HO417 := n2_; have HO423 := n3_; have HO429 := n4_; have HO435 := n5_; have HO441 := n6_; have HO447 := n7_; have HO450 := n8_; have HO455 := n9_; have BK409 := n10_; have BK418 := n11_; have BK419 := n12_; have BK425 := n13_; have BK431 := n14_; have BK437 := n15_; have BK443 := n16_; have BK451 := n17_; have HB := n18_; have BK457 := n19_; have GW457 := n20_; have GE457 := n21_; have NB409_457 := n22_; have NB457_409 := n23_; have NB418_457 := n24_; have NB457_418 := n25_; have NB419_457 := n26_; have NB457_419 := n27_; have NB425_457 := n28_; have NB457_425 := n29_; have NB431_457 := n30_; have NB457_431 := n31_; have NB437_457 := n32_; have NB457_437 := n33_; have NB443_457 := n34_; have NB457_443 := n35_; have NB451_457 := n36_; have NB457_451 := n37_; clear q_ n0_ n1_ n2_ n3_ n4_ n5_ n6_ n7_ n8_ n9_ n10_ n11_ n12_ n13_ n14_ n15_ n16_ n17_ n18_ n19_ n20_ n21_ n22_ n23_ n24_ n25_ n26_ n27_ n28_ n29_ n30_ n31_ n32_ n33_ n34_ n35_ n36_ n37_; clear hb hbox hg; have hnb93 := NB457_409.out; have hnc93 := NB409_457.out; have hnb94 := NB457_418.out; have hnc94 := NB418_457.out; have hnb95 := NB457_419.out; have hnc95 := NB419_457.out; have hnb96 := NB457_425.out; have hnc96 := NB425_457.out; have hnb97 := NB457_431.out; have hnc97 := NB431_457.out; have hnb98 := NB457_437.out; have hnc98 := NB437_457.out; have hnb99 := NB457_443.out; have hnc99 := NB443_457.out; have hnb100 := NB457_451.out; have hnc100 := NB451_457.out; have z101 := bc2 BK457.out; obtain ⟨Ao102, co102, eo102⟩ := Kd.R_slice HO455.out; subst eo102))
        have n0_ : Aside0 (Kd.R k70 70 ((w92.setCell ⟨gb457, 0, none⟩ (.int .i64 t452)).setCell ⟨gb457, 1, none⟩ (.slice Ao102 t453.length co102)) w.heap.size (fun k_ => some k_ ≠ (.slice Ao36 t411.length co36 : Value).ownBlock ∧ some k_ ≠ (.slice Ao39 t415.length co39 : Value).ownBlock ∧ some k_ ≠ (.slice Ao46 t421.length co46 : Value).ownBlock ∧ some k_ ≠ (.slice Ao56 t427.length co56 : Value).ownBlock ∧ some k_ ≠ (.slice Ao67 t433.length co67 : Value).ownBlock ∧ some k_ ≠ (.slice Ao79 t439.length co79 : Value).ownBlock ∧ some k_ ≠ (.slice Ao90 t445.length co90 : Value).ownBlock ∧ some k_ ≠ (.slice Ao102 t453.length co102 : Value).ownBlock) (.slice Ao29 t406.length co29) t406) := ⟨by (with_reducible repeat (first | apply Kd.R_alloc | apply Kd.R_drewN | apply Kd.R_drew)); exact Kd.R_mono (Kd.R_far (p := ⟨gb457, 1, none⟩) (Kd.R_far (p := ⟨gb457, 0, none⟩) (Kd.R_types HO408.out BK457.out (by decide)) (fun _ hk => hk.2) (.int .i64 t452)) (fun _ hk => hk.2) (.slice Ao102 t453.length co102)) (fun _ hk => ⟨hk.1.1.1.1.1.1.1.1.2, ⟨hk.1.1.1.1.1.1.1.2, ⟨hk.1.1.1.1.1.1.2, ⟨hk.1.1.1.1.1.2, ⟨hk.1.1.1.1.2, ⟨hk.1.1.1.2, ⟨hk.1.1.2, hk.1.2⟩⟩⟩⟩⟩⟩⟩)⟩
        have n1_ : Aside0 (Kd.R k70 70 ((w92.setCell ⟨gb457, 0, none⟩ (.int .i64 t452)).setCell ⟨gb457, 1, none⟩ (.slice Ao102 t453.length co102)) w.heap.size (fun k_ => some k_ ≠ (.slice Ao29 t406.length co29 : Value).ownBlock ∧ some k_ ≠ (.slice Ao39 t415.length co39 : Value).ownBlock ∧ some k_ ≠ (.slice Ao46 t421.length co46 : Value).ownBlock ∧ some k_ ≠ (.slice Ao56 t427.length co56 : Value).ownBlock ∧ some k_ ≠ (.slice Ao67 t433.length co67 : Value).ownBlock ∧ some k_ ≠ (.slice Ao79 t439.length co79 : Value).ownBlock ∧ some k_ ≠ (.slice Ao90 t445.length co90 : Value).ownBlock ∧ some k_ ≠ (.slice Ao102 t453.length co102 : Value).ownBlock) (.slice Ao36 t411.length co36) t411) := ⟨by (with_reducible repeat (first | apply Kd.R_alloc | apply Kd.R_drewN | apply Kd.R_drew)); exact Kd.R_mono (Kd.R_far (p := ⟨gb457, 1, none⟩) (Kd.R_far (p := ⟨gb457, 0, none⟩) (Kd.R_types HO413.out BK457.out (by decide)) (fun _ hk => hk.2) (.int .i64 t452)) (fun _ hk => hk.2) (.slice Ao102 t453.length co102)) (fun _ hk => ⟨hk.1.1.1.1.1.1.1.2, ⟨hk.1.1.1.1.1.1.1.1, ⟨hk.1.1.1.1.1.1.2, ⟨hk.1.1.1.1.1.2, ⟨hk.1.1.1.1.2, ⟨hk.1.1.1.2, ⟨hk.1.1.2, hk.1.2⟩⟩⟩⟩⟩⟩⟩)⟩
        have n2_ : Aside0 (Kd.R k70 70 ((w92.setCell ⟨gb457, 0, none⟩ (.int .i64 t452)).setCell ⟨gb457, 1, none⟩ (.slice Ao102 t453.length co102)) w.heap.size (fun k_ => some k_ ≠ (.slice Ao29 t406.length co29 : Value).ownBlock ∧ some k_ ≠ (.slice Ao36 t411.length co36 : Value).ownBlock ∧ some k_ ≠ (.slice Ao46 t421.length co46 : Value).ownBlock ∧ some k_ ≠ (.slice Ao56 t427.length co56 : Value).ownBlock ∧ some k_ ≠ (.slice Ao67 t433.length co67 : Value).ownBlock ∧ some k_ ≠ (.slice Ao79 t439.length co79 : Value).ownBlock ∧ some k_ ≠ (.slice Ao90 t445.length co90 : Value).ownBlock ∧ some k_ ≠ (.slice Ao102 t453.length co102 : Value).ownBlock) (.slice Ao39 t415.length co39) t415) := ⟨by (with_reducible repeat (first | apply Kd.R_alloc | apply Kd.R_drewN | apply Kd.R_drew)); exact Kd.R_mono (Kd.R_far (p := ⟨gb457, 1, none⟩) (Kd.R_far (p := ⟨gb457, 0, none⟩) (Kd.R_types HO417.out BK457.out (by decide)) (fun _ hk => hk.2) (.int .i64 t452)) (fun _ hk => hk.2) (.slice Ao102 t453.length co102)) (fun _ hk => ⟨hk.1.1.1.1.1.1.1.2, ⟨hk.1.1.1.1.1.1.1.1, ⟨hk.1.1.1.1.1.1.2, ⟨hk.1.1.1.1.1.2, ⟨hk.1.1.1.1.2, ⟨hk.1.1.1.2, ⟨hk.1.1.2, hk.1.2⟩⟩⟩⟩⟩⟩⟩)⟩
        have n3_ : Aside0 (Kd.R k70 70 ((w92.setCell ⟨gb457, 0, none⟩ (.int .i64 t452)).setCell ⟨gb457, 1, none⟩ (.slice Ao102 t453.length co102)) w.heap.size (fun k_ => some k_ ≠ (.slice Ao29 t406.length co29 : Value).ownBlock ∧ some k_ ≠ (.slice Ao36 t411.length co36 : Value).ownBlock ∧ some k_ ≠ (.slice Ao39 t415.length co39 : Value).ownBlock ∧ some k_ ≠ (.slice Ao56 t427.length co56 : Value).ownBlock ∧ some k_ ≠ (.slice Ao67 t433.length co67 : Value).ownBlock ∧ some k_ ≠ (.slice Ao79 t439.length co79 : Value).ownBlock ∧ some k_ ≠ (.slice Ao90 t445.length co90 : Value).ownBlock ∧ some k_ ≠ (.slice Ao102 t453.length co102 : Value).ownBlock) (.slice Ao46 t421.length co46) t421) := ⟨by (with_reducible repeat (first | apply Kd.R_alloc | apply Kd.R_drewN | apply Kd.R_drew)); exact Kd.R_mono (Kd.R_far (p := ⟨gb457, 1, none⟩) (Kd.R_far (p := ⟨gb457, 0, none⟩) (Kd.R_types HO423.out BK457.out (by decide)) (fun _ hk => hk.2) (.int .i64 t452)) (fun _ hk => hk.2) (.slice Ao102 t453.length co102)) (fun _ hk => ⟨hk.1.1.1.1.1.1.1.1.2, ⟨hk.1.1.1.1.1.1.1.2, ⟨hk.1.1.1.1.1.1.2, ⟨hk.1.1.1.1.1.2, ⟨hk.1.1.1.1.2, ⟨hk.1.1.1.2, ⟨hk.1.1.2, hk.1.2⟩⟩⟩⟩⟩⟩⟩)⟩
        have n4_ : Aside0 (Kd.R k70 70 ((w92.setCell ⟨gb457, 0, none⟩ (.int .i64 t452)).setCell ⟨gb457, 1, none⟩ (.slice Ao102 t453.length co102)) w.heap.size (fun k_ => some k_ ≠ (.slice Ao29 t406.length co29 : Value).ownBlock ∧ some k_ ≠ (.slice Ao36 t411.length co36 : Value).ownBlock ∧ some k_ ≠ (.slice Ao39 t415.length co39 : Value).ownBlock ∧ some k_ ≠ (.slice Ao46 t421.length co46 : Value).ownBlock ∧ some k_ ≠ (.slice Ao67 t433.length co67 : Value).ownBlock ∧ some k_ ≠ (.slice Ao79 t439.length co79 : Value).ownBlock ∧ some k_ ≠ (.slice Ao90 t445.length co90 : Value).ownBlock ∧ some k_ ≠ (.slice Ao102 t453.length co102 : Value).ownBlock) (.slice Ao56 t427.length co56) t427) := ⟨by (with_reducible repeat (first | apply Kd.R_alloc | apply Kd.R_drewN | apply Kd.R_drew)); exact Kd.R_mono (Kd.R_far (p := ⟨gb457, 1, none⟩) (Kd.R_far (p := ⟨gb457, 0, none⟩) (Kd.R_types HO429.out BK457.out (by decide)) (fun _ hk => hk.2) (.int .i64 t452)) (fun _ hk => hk.2) (.slice Ao102 t453.length co102)) (fun _ hk => ⟨hk.1.1.1.1.1.1.1.1.2, ⟨hk.1.1.1.1.1.1.1.2, ⟨hk.1.1.1.1.1.1.2, ⟨hk.1.1.1.1.1.2, ⟨hk.1.1.1.1.2, ⟨hk.1.1.1.2, ⟨hk.1.1.2, hk.1.2⟩⟩⟩⟩⟩⟩⟩)⟩
        have n5_ : Aside0 (Kd.R k70 70 ((w92.setCell ⟨gb457, 0, none⟩ (.int .i64 t452)).setCell ⟨gb457, 1, none⟩ (.slice Ao102 t453.length co102)) w.heap.size (fun k_ => some k_ ≠ (.slice Ao29 t406.length co29 : Value).ownBlock ∧ some k_ ≠ (.slice Ao36 t411.length co36 : Value).ownBlock ∧ some k_ ≠ (.slice Ao39 t415.length co39 : Value).ownBlock ∧ some k_ ≠ (.slice Ao46 t421.length co46 : Value).ownBlock ∧ some k_ ≠ (.slice Ao56 t427.length co56 : Value).ownBlock ∧ some k_ ≠ (.slice Ao79 t439.length co79 : Value).ownBlock ∧ some k_ ≠ (.slice Ao90 t445.length co90 : Value).ownBlock ∧ some k_ ≠ (.slice Ao102 t453.length co102 : Value).ownBlock) (.slice Ao67 t433.length co67) t433) := ⟨by (with_reducible repeat (first | apply Kd.R_alloc | apply Kd.R_drewN | apply Kd.R_drew)); exact Kd.R_mono (Kd.R_far (p := ⟨gb457, 1, none⟩) (Kd.R_far (p := ⟨gb457, 0, none⟩) (Kd.R_types HO435.out BK457.out (by decide)) (fun _ hk => hk.2) (.int .i64 t452)) (fun _ hk => hk.2) (.slice Ao102 t453.length co102)) (fun _ hk => ⟨hk.1.1.1.1.1.1.1.1.2, ⟨hk.1.1.1.1.1.1.1.2, ⟨hk.1.1.1.1.1.1.2, ⟨hk.1.1.1.1.1.2, ⟨hk.1.1.1.1.2, ⟨hk.1.1.1.2, ⟨hk.1.1.2, hk.1.2⟩⟩⟩⟩⟩⟩⟩)⟩
        have n6_ : Aside0 (Kd.R k70 70 ((w92.setCell ⟨gb457, 0, none⟩ (.int .i64 t452)).setCell ⟨gb457, 1, none⟩ (.slice Ao102 t453.length co102)) w.heap.size (fun k_ => some k_ ≠ (.slice Ao29 t406.length co29 : Value).ownBlock ∧ some k_ ≠ (.slice Ao36 t411.length co36 : Value).ownBlock ∧ some k_ ≠ (.slice Ao39 t415.length co39 : Value).ownBlock ∧ some k_ ≠ (.slice Ao46 t421.length co46 : Value).ownBlock ∧ some k_ ≠ (.slice Ao56 t427.length co56 : Value).ownBlock ∧ some k_ ≠ (.slice Ao67 t433.length co67 : Value).ownBlock ∧ some k_ ≠ (.slice Ao90 t445.length co90 : Value).ownBlock ∧ some k_ ≠ (.slice Ao102 t453.length co102 : Value).ownBlock) (.slice Ao79 t439.length co79) t439) := ⟨by (with_reducible repeat (first | apply Kd.R_alloc | apply Kd.R_drewN | apply Kd.R_drew)); exact Kd.R_mono (Kd.R_far (p := ⟨gb457, 1, none⟩) (Kd.R_far (p := ⟨gb457, 0, none⟩) (Kd.R_types HO441.out BK457.out (by decide)) (fun _ hk => hk.2) (.int .i64 t452)) (fun _ hk => hk.2) (.slice Ao102 t453.length co102)) (fun _ hk => ⟨hk.1.1.1.1.1.1.1.1.2, ⟨hk.1.1.1.1.1.1.1.2, ⟨hk.1.1.1.1.1.1.2, ⟨hk.1.1.1.1.1.2, ⟨hk.1.1.1.1.2, ⟨hk.1.1.1.2, ⟨hk.1.1.2, hk.1.2⟩⟩⟩⟩⟩⟩⟩)⟩
        have n7_ : Aside0 (Kd.R k70 70 ((w92.setCell ⟨gb457, 0, none⟩ (.int .i64 t452)).setCell ⟨gb457, 1, none⟩ (.slice Ao102 t453.length co102)) w.heap.size (fun k_ => some k_ ≠ (.slice Ao29 t406.length co29 : Value).ownBlock ∧ some k_ ≠ (.slice Ao36 t411.length co36 : Value).ownBlock ∧ some k_ ≠ (.slice Ao39 t415.length co39 : Value).ownBlock ∧ some k_ ≠ (.slice Ao46 t421.length co46 : Value).ownBlock ∧ some k_ ≠ (.slice Ao56 t427.length co56 : Value).ownBlock ∧ some k_ ≠ (.slice Ao67 t433.length co67 : Value).ownBlock ∧ some k_ ≠ (.slice Ao79 t439.length co79 : Value).ownBlock ∧ some k_ ≠ (.slice Ao102 t453.length co102 : Value).ownBlock) (.slice Ao90 t445.length co90) t445) := ⟨by (with_reducible repeat (first | apply Kd.R_alloc | apply Kd.R_drewN | apply Kd.R_drew)); exact Kd.R_mono (Kd.R_far (p := ⟨gb457, 1, none⟩) (Kd.R_far (p := ⟨gb457, 0, none⟩) (Kd.R_types HO447.out BK457.out (by decide)) (fun _ hk => hk.2) (.int .i64 t452)) (fun _ hk => hk.2) (.slice Ao102 t453.length co102)) (fun _ hk => ⟨hk.1.1.1.1.1.1.1.1.2, ⟨hk.1.1.1.1.1.1.1.2, ⟨hk.1.1.1.1.1.1.2, ⟨hk.1.1.1.1.1.2, ⟨hk.1.1.1.1.2, ⟨hk.1.1.1.2, ⟨hk.1.1.2, hk.1.2⟩⟩⟩⟩⟩⟩⟩)⟩
        have n8_ : Aside0 (Kd.R k76 76 ((w92.setCell ⟨gb457, 0, none⟩ (.int .i64 t452)).setCell ⟨gb457, 1, none⟩ (.slice Ao102 t453.length co102)) w.heap.size (fun _ => True) v449 t448) := ⟨by (with_reducible repeat (first | apply Kd.R_alloc | apply Kd.R_drewN | apply Kd.R_drew)); exact Kd.R_mono (Kd.R_far (p := ⟨gb457, 1, none⟩) (Kd.R_far (p := ⟨gb457, 0, none⟩) (Kd.R_types HO450.out BK457.out (by decide)) (fun _ hk => hk.2) (.int .i64 t452)) (fun _ hk => hk.2) (.slice Ao102 t453.length co102)) (fun _ hk => trivial)⟩
        have n9_ : Aside0 (Kd.R k70 70 ((w92.setCell ⟨gb457, 0, none⟩ (.int .i64 t452)).setCell ⟨gb457, 1, none⟩ (.slice Ao102 t453.length co102)) w.heap.size (fun k_ => some k_ ≠ (.slice Ao29 t406.length co29 : Value).ownBlock ∧ some k_ ≠ (.slice Ao36 t411.length co36 : Value).ownBlock ∧ some k_ ≠ (.slice Ao39 t415.length co39 : Value).ownBlock ∧ some k_ ≠ (.slice Ao46 t421.length co46 : Value).ownBlock ∧ some k_ ≠ (.slice Ao56 t427.length co56 : Value).ownBlock ∧ some k_ ≠ (.slice Ao67 t433.length co67 : Value).ownBlock ∧ some k_ ≠ (.slice Ao79 t439.length co79 : Value).ownBlock ∧ some k_ ≠ (.slice Ao90 t445.length co90 : Value).ownBlock) (.slice Ao102 t453.length co102) t453) := ⟨by (with_reducible repeat (first | apply Kd.R_alloc | apply Kd.R_drewN | apply Kd.R_drew)); exact Kd.R_mono (Kd.R_far (p := ⟨gb457, 1, none⟩) (Kd.R_far (p := ⟨gb457, 0, none⟩) (Kd.R_types HO455.out BK457.out (by decide)) (fun _ hk => hk.2) (.int .i64 t452)) (fun _ hk => hk.2) (.slice Ao102 t453.length co102)) (fun _ hk => ⟨hk.1.1.1.1.1.1.1.1.2, ⟨hk.1.1.1.1.1.1.1.2, ⟨hk.1.1.1.1.1.1.2, ⟨hk.1.1.1.1.1.2, ⟨hk.1.1.1.1.2, ⟨hk.1.1.1.2, ⟨hk.1.1.2, hk.1.2⟩⟩⟩⟩⟩⟩⟩)⟩
        have n10_ : Aside0 (((w92.setCell ⟨gb457, 0, none⟩ (.int .i64 t452)).setCell ⟨gb457, 1, none⟩ (.slice Ao102 t453.length co102)).heap[gb409]? = some (.cells #[.int .i64 t405, .slice Ao29 t406.length co29] 28 (0, 0))) := ⟨by (with_reducible repeat (first | refine kN ?_ _ | refine kD ?_ | refine kA ?_ _)); refine blk_far ?_ NB409_457.out _; (with_reducible repeat (first | refine kN ?_ _ | refine kD ?_ | refine kA ?_ _)); refine blk_far ?_ NB409_457.out _; (with_reducible repeat (first | refine kN ?_ _ | refine kD ?_ | refine kA ?_ _)); exact BK409.out⟩
        have n11_ : Aside0 (((w92.setCell ⟨gb457, 0, none⟩ (.int .i64 t452)).setCell ⟨gb457, 1, none⟩ (.slice Ao102 t453.length co102)).heap[gb418]? = some (.cells #[.int .i64 t410, .slice Ao36 t411.length co36] 28 (0, 0))) := ⟨by (with_reducible repeat (first | refine kN ?_ _ | refine kD ?_ | refine kA ?_ _)); refine blk_far ?_ NB418_457.out _; (with_reducible repeat (first | refine kN ?_ _ | refine kD ?_ | refine kA ?_ _)); refine blk_far ?_ NB418_457.out _; (with_reducible repeat (first | refine kN ?_ _ | refine kD ?_ | refine kA ?_ _)); exact BK418.out⟩
        have n12_ : Aside0 (((w92.setCell ⟨gb457, 0, none⟩ (.int .i64 t452)).setCell ⟨gb457, 1, none⟩ (.slice Ao102 t453.length co102)).heap[gb419]? = some (.cells #[.int .i64 t414, .slice Ao39 t415.length co39] 28 (0, 0))) := ⟨by (with_reducible repeat (first | refine kN ?_ _ | refine kD ?_ | refine kA ?_ _)); refine blk_far ?_ NB419_457.out _; (with_reducible repeat (first | refine kN ?_ _ | refine kD ?_ | refine kA ?_ _)); refine blk_far ?_ NB419_457.out _; (with_reducible repeat (first | refine kN ?_ _ | refine kD ?_ | refine kA ?_ _)); exact BK419.out⟩
        have n13_ : Aside0 (((w92.setCell ⟨gb457, 0, none⟩ (.int .i64 t452)).setCell ⟨gb457, 1, none⟩ (.slice Ao102 t453.length co102)).heap[gb425]? = some (.cells #[.int .i64 t420, .slice Ao46 t421.length co46] 28 (0, 0))) := ⟨by (with_reducible repeat (first | refine kN ?_ _ | refine kD ?_ | refine kA ?_ _)); refine blk_far ?_ NB425_457.out _; (with_reducible repeat (first | refine kN ?_ _ | refine kD ?_ | refine kA ?_ _)); refine blk_far ?_ NB425_457.out _; (with_reducible repeat (first | refine kN ?_ _ | refine kD ?_ | refine kA ?_ _)); exact BK425.out⟩
        have n14_ : Aside0 (((w92.setCell ⟨gb457, 0, none⟩ (.int .i64 t452)).setCell ⟨gb457, 1, none⟩ (.slice Ao102 t453.length co102)).heap[gb431]? = some (.cells #[.int .i64 t426, .slice Ao56 t427.length co56] 28 (0, 0))) := ⟨by (with_reducible repeat (first | refine kN ?_ _ | refine kD ?_ | refine kA ?_ _)); refine blk_far ?_ NB431_457.out _; (with_reducible repeat (first | refine kN ?_ _ | refine kD ?_ | refine kA ?_ _)); refine blk_far ?_ NB431_457.out _; (with_reducible repeat (first | refine kN ?_ _ | refine kD ?_ | refine kA ?_ _)); exact BK431.out⟩
        have n15_ : Aside0 (((w92.setCell ⟨gb457, 0, none⟩ (.int .i64 t452)).setCell ⟨gb457, 1, none⟩ (.slice Ao102 t453.length co102)).heap[gb437]? = some (.cells #[.int .i64 t432, .slice Ao67 t433.length co67] 28 (0, 0))) := ⟨by (with_reducible repeat (first | refine kN ?_ _ | refine kD ?_ | refine kA ?_ _)); refine blk_far ?_ NB437_457.out _; (with_reducible repeat (first | refine kN ?_ _ | refine kD ?_ | refine kA ?_ _)); refine blk_far ?_ NB437_457.out _; (with_reducible repeat (first | refine kN ?_ _ | refine kD ?_ | refine kA ?_ _)); exact BK437.out⟩
        have n16_ : Aside0 (((w92.setCell ⟨gb457, 0, none⟩ (.int .i64 t452)).setCell ⟨gb457, 1, none⟩ (.slice Ao102 t453.length co102)).heap[gb443]? = some (.cells #[.int .i64 t438, .slice Ao79 t439.length co79] 28 (0, 0))) := ⟨by (with_reducible repeat (first | refine kN ?_ _ | refine kD ?_ | refine kA ?_ _)); refine blk_far ?_ NB443_457.out _; (with_reducible repeat (first | refine kN ?_ _ | refine kD ?_ | refine kA ?_ _)); refine blk_far ?_ NB443_457.out _; (with_reducible repeat (first | refine kN ?_ _ | refine kD ?_ | refine kA ?_ _)); exact BK443.out⟩
        have n17_ : Aside0 (((w92.setCell ⟨gb457, 0, none⟩ (.int .i64 t452)).setCell ⟨gb457, 1, none⟩ (.slice Ao102 t453.length co102)).heap[gb451]? = some (.cells #[.int .i64 t444, .slice Ao90 t445.length co90] 28 (0, 0))) := ⟨by (with_reducible repeat (first | refine kN ?_ _ | refine kD ?_ | refine kA ?_ _)); refine blk_far ?_ NB451_457.out _; (with_reducible repeat (first | refine kN ?_ _ | refine kD ?_ | refine kA ?_ _)); refine blk_far ?_ NB451_457.out _; (with_reducible repeat (first | refine kN ?_ _ | refine kD ?_ | refine kA ?_ _)); exact BK451.out⟩
        have n18_ : Aside0 (((w92.setCell ⟨gb457, 0, none⟩ (.int .i64 t452)).setCell ⟨gb457, 1, none⟩ (.slice Ao102 t453.length co102)).heap[gb457]? = some (.cells #[.int .i64 t452, .slice Ao102 t453.length co102] 28 (0, 0))) := ⟨by (with_reducible repeat (first | refine kN ?_ _ | refine kD ?_ | refine kA ?_ _)); refine blk_put (cs := #[.int .i64 t452, .slice none 0 0]) ?_ 1 _ rfl; (with_reducible repeat (first | refine kN ?_ _ | refine kD ?_ | refine kA ?_ _)); refine blk_put (cs := #[.int .i64 0, .slice none 0 0]) ?_ 0 _ rfl; (with_reducible repeat (first | refine kN ?_ _ | refine kD ?_ | refine kA ?_ _)); exact BK457.out⟩
        have n19_ : Aside0 (Below w.heap.size w ((w92.setCell ⟨gb457, 0, none⟩ (.int .i64 t452)).setCell ⟨gb457, 1, none⟩ (.slice Ao102 t453.length co102))) := ⟨by repeat (first | (with_reducible first | exact HB.out | apply bA | apply bN | apply bD | refine bS ?_ GE409.out | refine bS ?_ GE418.out | refine bS ?_ GE419.out | refine bS ?_ GE425.out | refine bS ?_ GE431.out | refine bS ?_ GE437.out | refine bS ?_ GE443.out | refine bS ?_ GE451.out | refine bS ?_ GE457.out) | exact HB.out)⟩
        (try clear HO408)
        (try clear HO413)
        (try clear HO417)
        (try clear HO423)
        (try clear HO429)
        (try clear HO435)
        (try clear HO441)
        (try clear HO447)
        (try clear HO450)
        (try clear HO455)
        (try clear BK409)
        (try clear BK418)
        (try clear BK419)
        (try clear BK425)
        (try clear BK431)
        (try clear BK437)
        (try clear BK443)
        (try clear BK451)
        (try clear BK457)
        (try clear HB)
        generalize ((w92.setCell ⟨gb457, 0, none⟩ (.int .i64 t452)).setCell ⟨gb457, 1, none⟩ (.slice Ao102 t453.length co102)) = w103 at n0_ n1_ n2_ n3_ n4_ n5_ n6_ n7_ n8_ n9_ n10_ n11_ n12_ n13_ n14_ n15_ n16_ n17_ n18_ n19_ ⊢
        have HO408 := n0_
        have HO413 := n1_
        have HO417 := n2_
        have HO423 := n3_
        have HO429 := n4_
        have HO435 := n5_
        have HO441 := n6_
        have HO447 := n7_
        have HO450 := n8_
        have HO455 := n9_
        have BK409 := n10_
        have BK418 := n11_
        have BK419 := n12_
        have BK425 := n13_
        have BK431 := n14_
        have BK437 := n15_
        have BK443 := n16_
        have BK451 := n17_
        have BK457 := n18_
        have HB := n19_
        clear n0_ n1_ n2_ n3_ n4_ n5_ n6_ n7_ n8_ n9_ n10_ n11_ n12_ n13_ n14_ n15_ n16_ n17_ n18_ n19_
        have n0_ := mk0 (Kd.R_drew HO408.out)
        have n1_ := mk0 (Kd.R_drew HO413.out)
        have n2_ := mk0 (Kd.R_drew HO417.out)
        have n3_ := mk0 (Kd.R_drew HO423.out)
        have n4_ := mk0 (Kd.R_drew HO429.out)
        have n5_ := mk0 (Kd.R_drew HO435.out)
        have n6_ := mk0 (Kd.R_drew HO441.out)
        have n7_ := mk0 (Kd.R_drew HO447.out)
        have n8_ := mk0 (Kd.R_drew HO450.out)
        have n9_ := mk0 (Kd.R_drew HO455.out)
        have n10_ := mk0 (kD BK409.out)
        have n11_ := mk0 (kD BK418.out)
        have n12_ := mk0 (kD BK419.out)
        have n13_ := mk0 (kD BK425.out)
        have n14_ := mk0 (kD BK431.out)
        have n15_ := mk0 (kD BK437.out)
        have n16_ := mk0 (kD BK443.out)
        have n17_ := mk0 (kD BK451.out)
        have n18_ := mk0 (kD BK457.out)
        have n19_ := mk0 (bD HB.out)
        clear HO408
        clear HO413
        clear HO417
        clear HO423
        clear HO429
        clear HO435
        clear HO441
        clear HO447
        clear HO450
        clear HO455
        clear BK409
        clear BK418
        clear BK419
        clear BK425
        clear BK431
        clear BK437
        clear BK443
        clear BK451
        clear BK457
        clear HB
        have HO408 := n0_
        have HO413 := n1_
        have HO417 := n2_
        have HO423 := n3_
        have HO429 := n4_
        have HO435 := n5_
        have HO441 := n6_
        have HO447 := n7_
        have HO450 := n8_
        have HO455 := n9_
        have BK409 := n10_
        have BK418 := n11_
        have BK419 := n12_
        have BK425 := n13_
        have BK431 := n14_
        have BK437 := n15_
        have BK443 := n16_
        have BK451 := n17_
        have BK457 := n18_
        have HB := n19_
        clear n0_ n1_ n2_ n3_ n4_ n5_ n6_ n7_ n8_ n9_ n10_ n11_ n12_ n13_ n14_ n15_ n16_ n17_ n18_ n19_
        refine start_ (n := 44) (S := fun w' => w'.cell? ⟨gb409, 0, none⟩ = some (.int .i64 t405) ∧ w'.cell? ⟨gb409, 1, none⟩ = some (.slice Ao29 t406.length co29) ∧ w'.cell? ⟨gb425, 0, none⟩ = some (.int .i64 t420) ∧ w'.cell? ⟨gb425, 1, none⟩ = some (.slice Ao46 t421.length co46) ∧ w'.cell? ⟨gb431, 0, none⟩ = some (.int .i64 t426) ∧ w'.cell? ⟨gb431, 1, none⟩ = some (.slice Ao56 t427.length co56) ∧ w'.cell? ⟨gb437, 0, none⟩ = some (.int .i64 t432) ∧ w'.cell? ⟨gb437, 1, none⟩ = some (.slice Ao67 t433.length co67) ∧ w'.cell? ⟨gb443, 0, none⟩ = some (.int .i64 t438) ∧ w'.cell? ⟨gb443, 1, none⟩ = some (.slice Ao79 t439.length co79) ∧ w'.cell? ⟨gb451, 0, none⟩ = some (.int .i64 t444) ∧ w'.cell? ⟨gb451, 1, none⟩ = some (.slice Ao90 t445.length co90) ∧ w'.cell? ⟨gb457, 0, none⟩ = some (.int .i64 t452) ∧ w'.cell? ⟨gb457, 1, none⟩ = some (.slice Ao102 t453.length co102)) (ds := []) #[false, false, false, false, false, false, false, false, false, false, false, false, false, false, false, false, false, false, false, false, false, false, false, false, false, false, false, false, false, false, false, false, false, false, false, false, false, false, false, false, false, false, false, false] (by kernel_rfl) rfl rfl ⟨(blk_cell BK409.out 0).trans rfl, (blk_cell BK409.out 1).trans rfl, (blk_cell BK425.out 0).trans rfl, (blk_cell BK425.out 1).trans rfl, (blk_cell BK431.out 0).trans rfl, (blk_cell BK431.out 1).trans rfl, (blk_cell BK437.out 0).trans rfl, (blk_cell BK437.out 1).trans rfl, (blk_cell BK443.out 0).trans rfl, (blk_cell BK443.out 1).trans rfl, (blk_cell BK451.out 0).trans rfl, (blk_cell BK451.out 1).trans rfl, (blk_cell BK457.out 0).trans rfl, (blk_cell BK457.out 1).trans rfl⟩ (fun hHeld => ?_); refine with_tabW laws_FnAffsBent.tab11 laws_FnAffsBent.bits11 (fun HT_ HW_ => ?_)
        generalize w103.drew = w104 at HO408 HO413 HO417 HO423 HO429 HO435 HO441 HO447 HO450 HO455 BK409 BK418 BK419 BK425 BK431 BK437 BK443 BK451 BK457 HB hHeld ⊢
        refine take_ (i := 0) (N := some 61) (v := ?_) (a' := ?_) #[true, false, false, false, false, false, false, false, false, false, false, false, false, false, false, false, false, false, false, false, false, false, false, false, false, false, false, false, false, false, false, false, false, false, false, false, false, false, false, false, false, false, false, false] rfl rfl (take_ofW HT_.out HW_.out (by kernel_rfl)) (fun _ _ _ h => h) (Or.inl ⟨by rfl, ?_⟩) hHeld ?_ ?_
        rotate_left
        ·rintro w' ⟨s0, s1, s2, s3, s4, s5, s6, s7, s8, s9, s10, s11, s12, s13⟩
         go_simp
         with_reducible rfl
        rotate_left
        ·simp only [Act.put, List.setIfInBounds_toArray, List.set_cons_zero, List.set_cons_succ, i64_w, i32_w]
         rfl
        refine take_ (i := 2) (N := some 63) (v := ?_) (a' := ?_) #[true, false, true, false, false, false, false, false, false, false, false, false, false, false, false, false, false, false, false, false, false, false, false, false, false, false, false, false, false, false, false, false, false, false, false, false, false, false, false, false, false, false, false, false] rfl rfl (take_ofW HT_.out HW_.out (by kernel_rfl)) (fun _ _ _ h => h) (Or.inl ⟨by rfl, ?_⟩) hHeld ?_ ?_
        rotate_left
        ·rintro w' ⟨s0, s1, s2, s3, s4, s5, s6, s7, s8, s9, s10, s11, s12, s13⟩
         go_simp
         with_reducible rfl
        rotate_left
        ·simp only [Act.put, List.setIfInBounds_toArray, List.set_cons_zero, List.set_cons_succ, i64_w, i32_w]
         rfl
        refine one_ (i := 1) (N := some 62) #[true, true, true, false, false, false, false, false, false, false, false, false, false, false, false, false, false, false, false, false, false, false, false, false, false, false, false, false, false, false, false, false, false, false, false, false, false, false, false, false, false, false, false, false] rfl rfl (one_of HT_.out (by kernel_rfl)) (by decide) (fun K hK => ?_)
        refine goes_ Try.func20 (by kernel_rfl) rfl #[.agg #[.int .i64 t405, .slice Ao29 t406.length co29]] (by rfl) rfl rfl (by (try simp only [List.map_toArray, List.map_cons, List.map_nil]); first | done | rfl) ?_
        with_reducible refine (impl_AffOk.calls k t405 _ _ t406 t458 _ ?side1 ?side2 A12.out).mono ?_
        (case side1 => repeat (first | exact (Kd.R_reads' HO408.out).2.2 | (with_reducible refine cA ?_ _) | (with_reducible refine cN ?_ _) | (with_reducible refine cD ?_)))
        (case side2 => exact (Kd.R_reads' HO408.out).2.1)
        rintro e w105 ⟨rfl, hb⟩
        refine ⟨_, rfl, ?_⟩
        have n0_ := mk0 (Kd.R_below (by (with_reducible repeat (first | apply Kd.R_alloc | apply Kd.R_drewN | apply Kd.R_drew)); exact HO408.out) hb)
        have n1_ := mk0 (Kd.R_below (by (with_reducible repeat (first | apply Kd.R_alloc | apply Kd.R_drewN | apply Kd.R_drew)); exact HO413.out) hb)
        have n2_ := mk0 (Kd.R_below (by (with_reducible repeat (first | apply Kd.R_alloc | apply Kd.R_drewN | apply Kd.R_drew)); exact HO417.out) hb)
        have n3_ := mk0 (Kd.R_below (by (with_reducible repeat (first | apply Kd.R_alloc | apply Kd.R_drewN | apply Kd.R_drew)); exact HO423.out) hb)
        have n4_ := mk0 (Kd.R_below (by (with_reducible repeat (first | apply Kd.R_alloc | apply Kd.R_drewN | apply Kd.R_drew)); exact HO429.out) hb)
        have n5_ := mk0 (Kd.R_below (by (with_reducible repeat (first | apply Kd.R_alloc | apply Kd.R_drewN | apply Kd.R_drew)); exact HO435.out) hb)
        have n6_ := mk0 (Kd.R_below (by (with_reducible repeat (first | apply Kd.R_alloc | apply Kd.R_drewN | apply Kd.R_drew)); exact HO441.out) hb)
        have n7_ := mk0 (Kd.R_below (by (with_reducible repeat (first | apply Kd.R_alloc | apply Kd.R_drewN | apply Kd.R_drew)); exact HO447.out) hb)
        have n8_ := mk0 (Kd.R_below (by (with_reducible repeat (first | apply Kd.R_alloc | apply Kd.R_drewN | apply Kd.R_drew)); exact HO450.out) hb)
        have n9_ := mk0 (Kd.R_below (by (with_reducible repeat (first | apply Kd.R_alloc | apply Kd.R_drewN | apply Kd.R_drew)); exact HO455.out) hb)
        have n10_ := mk0 (blk_below (by (with_reducible repeat (first | refine kN ?_ _ | refine kD ?_ | refine kA ?_ _)); exact BK409.out) hb)
        have n11_ := mk0 (blk_below (by (with_reducible repeat (first | refine kN ?_ _ | refine kD ?_ | refine kA ?_ _)); exact BK418.out) hb)
        have n12_ := mk0 (blk_below (by (with_reducible repeat (first | refine kN ?_ _ | refine kD ?_ | refine kA ?_ _)); exact BK419.out) hb)
        have n13_ := mk0 (blk_below (by (with_reducible repeat (first | refine kN ?_ _ | refine kD ?_ | refine kA ?_ _)); exact BK425.out) hb)
        have n14_ := mk0 (blk_below (by (with_reducible repeat (first | refine kN ?_ _ | refine kD ?_ | refine kA ?_ _)); exact BK431.out) hb)
        have n15_ := mk0 (blk_below (by (with_reducible repeat (first | refine kN ?_ _ | refine kD ?_ | refine kA ?_ _)); exact BK437.out) hb)
        have n16_ := mk0 (blk_below (by (with_reducible repeat (first | refine kN ?_ _ | refine kD ?_ | refine kA ?_ _)); exact BK443.out) hb)
        have n17_ := mk0 (blk_below (by (with_reducible repeat (first | refine kN ?_ _ | refine kD ?_ | refine kA ?_ _)); exact BK451.out) hb)
        have n18_ := mk0 (blk_below (by (with_reducible repeat (first | refine kN ?_ _ | refine kD ?_ | refine kA ?_ _)); exact BK457.out) hb)
        have n19_ := mk0 (below_step (by repeat (first | (with_reducible first | exact HB.out | apply bA | apply bN | apply bD | refine bS ?_ GE409.out | refine bS ?_ GE418.out | refine bS ?_ GE419.out | refine bS ?_ GE425.out | refine bS ?_ GE431.out | refine bS ?_ GE437.out | refine bS ?_ GE443.out | refine bS ?_ GE451.out | refine bS ?_ GE457.out) | exact HB.out)) hb)
        clear HO408
        clear HO413
        clear HO417
        clear HO423
        clear HO429
        clear HO435
        clear HO441
        clear HO447
        clear HO450
        clear HO455
        clear BK409
        clear BK418
        clear BK419
        clear BK425
        clear BK431
        clear BK437
        clear BK443
        clear BK451
        clear BK457
        clear HB
        have HO408 := n0_
        have HO413 := n1_
        have HO417 := n2_
        have HO423 := n3_
        have HO429 := n4_
        have HO435 := n5_
        have HO441 := n6_
        have HO447 := n7_
        have HO450 := n8_
        have HO455 := n9_
        have BK409 := n10_
        have BK418 := n11_
        have BK419 := n12_
        have BK425 := n13_
        have BK431 := n14_
        have BK437 := n15_
        have BK443 := n16_
        have BK451 := n17_
        have BK457 := n18_
        have HB := n19_
        clear n0_ n1_ n2_ n3_ n4_ n5_ n6_ n7_ n8_ n9_ n10_ n11_ n12_ n13_ n14_ n15_ n16_ n17_ n18_ n19_
        (try clear hb)
        (try clear hb2)
        (try clear hk)
        (try clear hi)
        refine hK.out _ _ ⟨(blk_cell BK409.out 0).trans rfl, (blk_cell BK409.out 1).trans rfl, (blk_cell BK425.out 0).trans rfl, (blk_cell BK425.out 1).trans rfl, (blk_cell BK431.out 0).trans rfl, (blk_cell BK431.out 1).trans rfl, (blk_cell BK437.out 0).trans rfl, (blk_cell BK437.out 1).trans rfl, (blk_cell BK443.out 0).trans rfl, (blk_cell BK443.out 1).trans rfl, (blk_cell BK451.out 0).trans rfl, (blk_cell BK451.out 1).trans rfl, (blk_cell BK457.out 0).trans rfl, (blk_cell BK457.out 1).trans rfl⟩ (fun hHeld => ?_)
        clear hK K
        refine norm_ (a' := ?_) ?_ ?_
        rotate_left
        ·show Act.put _ (some 62) _ = _
         simp only [Act.put, List.setIfInBounds_toArray, List.set_cons_zero, List.set_cons_succ, i64_w, i32_w]
         rfl
        refine one_ (i := 3) (N := some 64) #[true, true, true, true, false, false, false, false, false, false, false, false, false, false, false, false, false, false, false, false, false, false, false, false, false, false, false, false, false, false, false, false, false, false, false, false, false, false, false, false, false, false, false, false] rfl rfl (one_of HT_.out (by kernel_rfl)) (by decide) (fun K hK => ?_)
        refine goes_ Try.func27 (by kernel_rfl) rfl #[.agg #[.int .i64 t405, .slice Ao29 t406.length co29]] (by rfl) rfl rfl (by (try simp only [List.map_toArray, List.map_cons, List.map_nil]); first | done | rfl) ?_
        with_reducible refine (spec_AffOk.calls k t405 _ _ t406 t459 _ ?side1 ?side2 A13.out).mono ?_
        (case side1 => repeat (first | exact (Kd.R_reads' HO408.out).2.2 | (with_reducible refine cA ?_ _) | (with_reducible refine cN ?_ _) | (with_reducible refine cD ?_)))
        (case side2 => exact (Kd.R_reads' HO408.out).2.1)
        rintro e w106 ⟨rfl, hb⟩
        refine ⟨_, rfl, ?_⟩
        have n0_ := mk0 (Kd.R_below (by (with_reducible repeat (first | apply Kd.R_alloc | apply Kd.R_drewN | apply Kd.R_drew)); exact HO408.out) hb)
        have n1_ := mk0 (Kd.R_below (by (with_reducible repeat (first | apply Kd.R_alloc | apply Kd.R_drewN | apply Kd.R_drew)); exact HO413.out) hb)
        have n2_ := mk0 (Kd.R_below (by (with_reducible repeat (first | apply Kd.R_alloc | apply Kd.R_drewN | apply Kd.R_drew)); exact HO417.out) hb)
        have n3_ := mk0 (Kd.R_below (by (with_reducible repeat (first | apply Kd.R_alloc | apply Kd.R_drewN | apply Kd.R_drew)); exact HO423.out) hb)
        have n4_ := mk0 (Kd.R_below (by (with_reducible repeat (first | apply Kd.R_alloc | apply Kd.R_drewN | apply Kd.R_drew)); exact HO429.out) hb)
        have n5_ := mk0 (Kd.R_below (by (with_reducible repeat (first | apply Kd.R_alloc | apply Kd.R_drewN | apply Kd.R_drew)); exact HO435.out) hb)
        have n6_ := mk0 (Kd.R_below (by (with_reducible repeat (first | apply Kd.R_alloc | apply Kd.R_drewN | apply Kd.R_drew)); exact HO441.out) hb)
        have n7_ := mk0 (Kd.R_below (by (with_reducible repeat (first | apply Kd.R_alloc | apply Kd.R_drewN | apply Kd.R_drew)); exact HO447.out) hb)
        have n8_ := mk0 (Kd.R_below (by (with_reducible repeat (first | apply Kd.R_alloc | apply Kd.R_drewN | apply Kd.R_drew)); exact HO450.out) hb)
        have n9_ := mk0 (Kd.R_below (by (with_reducible repeat (first | apply Kd.R_alloc | apply Kd.R_drewN | apply Kd.R_drew)); exact HO455.out) hb)
        have n10_ := mk0 (blk_below (by (with_reducible repeat (first | refine kN ?_ _ | refine kD ?_ | refine kA ?_ _)); exact BK409.out) hb)
        have n11_ := mk0 (blk_below (by (with_reducible repeat (first | refine kN ?_ _ | refine kD ?_ | refine kA ?_ _)); exact BK418.out) hb)
        have n12_ := mk0 (blk_below (by (with_reducible repeat (first | refine kN ?_ _ | refine kD ?_ | refine kA ?_ _)); exact BK419.out) hb)
        have n13_ := mk0 (blk_below (by (with_reducible repeat (first | refine kN ?_ _ | refine kD ?_ | refine kA ?_ _)); exact BK425.out) hb)
        have n14_ := mk0 (blk_below (by (with_reducible repeat (first | refine kN ?_ _ | refine kD ?_ | refine kA ?_ _)); exact BK431.out) hb)
        have n15_ := mk0 (blk_below (by (with_reducible repeat (first | refine kN ?_ _ | refine kD ?_ | refine kA ?_ _)); exact BK437.out) hb)
        have n16_ := mk0 (blk_below (by (with_reducible repeat (first | refine kN ?_ _ | refine kD ?_ | refine kA ?_ _)); exact BK443.out) hb)
        have n17_ := mk0 (blk_below (by (with_reducible repeat (first | refine kN ?_ _ | refine kD ?_ | refine kA ?_ _)); exact BK451.out) hb)
        have n18_ := mk0 (blk_below (by (with_reducible repeat (first | refine kN ?_ _ | refine kD ?_ | refine kA ?_ _)); exact BK457.out) hb)
        have n19_ := mk0 (below_step (by repeat (first | (with_reducible first | exact HB.out | apply bA | apply bN | apply bD | refine bS ?_ GE409.out | refine bS ?_ GE418.out | refine bS ?_ GE419.out | refine bS ?_ GE425.out | refine bS ?_ GE431.out | refine bS ?_ GE437.out | refine bS ?_ GE443.out | refine bS ?_ GE451.out | refine bS ?_ GE457.out) | exact HB.out)) hb)
        clear HO408
        clear HO413
        clear HO417
        clear HO423
        clear HO429
        clear HO435
        clear HO441
        clear HO447
        clear HO450
        clear HO455
        clear BK409
        clear BK418
        clear BK419
        clear BK425
        clear BK431
        clear BK437
        clear BK443
        clear BK451
        clear BK457
        clear HB
        have HO408 := n0_
        have HO413 := n1_
        have HO417 := n2_
        have HO423 := n3_
        have HO429 := n4_
        have HO435 := n5_
        have HO441 := n6_
        have HO447 := n7_
        have HO450 := n8_
        have HO455 := n9_
        have BK409 := n10_
        have BK418 := n11_
        have BK419 := n12_
        have BK425 := n13_
        have BK431 := n14_
        have BK437 := n15_
        have BK443 := n16_
        have BK451 := n17_
        have BK457 := n18_
        have HB := n19_
        clear n0_ n1_ n2_ n3_ n4_ n5_ n6_ n7_ n8_ n9_ n10_ n11_ n12_ n13_ n14_ n15_ n16_ n17_ n18_ n19_
        (try clear hb)
        (try clear hb2)
        (try clear hk)
        (try clear hi)
        refine hK.out _ _ ⟨(blk_cell BK409.out 0).trans rfl, (blk_cell BK409.out 1).trans rfl, (blk_cell BK425.out 0).trans rfl, (blk_cell BK425.out 1).trans rfl, (blk_cell BK431.out 0).trans rfl, (blk_cell BK431.out 1).trans rfl, (blk_cell BK437.out 0).trans rfl, (blk_cell BK437.out 1).trans rfl, (blk_cell BK443.out 0).trans rfl, (blk_cell BK443.out 1).trans rfl, (blk_cell BK451.out 0).trans rfl, (blk_cell BK451.out 1).trans rfl, (blk_cell BK457.out 0).trans rfl, (blk_cell BK457.out 1).trans rfl⟩ (fun hHeld => ?_)
        clear hK K
        refine norm_ (a' := ?_) ?_ ?_
        rotate_left
        ·show Act.put _ (some 64) _ = _
         simp only [Act.put, List.setIfInBounds_toArray, List.set_cons_zero, List.set_cons_succ, i64_w, i32_w]
         rfl
        refine pure_ (i := 4) (N := some 65) (v := ?_) (a' := ?_) #[true, true, true, true, true, false, false, false, false, false, false, false, false, false, false, false, false, false, false, false, false, false, false, false, false, false, false, false, false, false, false, false, false, false, false, false, false, false, false, false, false, false, false, false] rfl rfl (any_of HT_.out (by kernel_rfl)) (fun _ _ _ h => h) (Or.inl ⟨by rfl, ?_⟩) ?_ ?_
        rotate_left
        ·intro w'
         go_simp
         with_reducible rfl
        rotate_left
        ·simp only [Act.put, List.setIfInBounds_toArray, List.set_cons_zero, List.set_cons_succ, i64_w, i32_w]
         rfl
        refine pure_ (i := 5) (N := some 66) (v := ?_) (a' := ?_) #[true, true, true, true, true, true, false, false, false, false, false, false, false, false, false, false, false, false, false, false, false, false, false, false, false, false, false, false, false, false, false, false, false, false, false, false, false, false, false, false, false, false, false, false] rfl rfl (any_of HT_.out (by kernel_rfl)) (fun _ _ _ h => h) (Or.inl ⟨by rfl, ?_⟩) ?_ ?_
        rotate_left
        ·intro w'
         go_simp
         with_reducible rfl
        rotate_left
        ·simp only [Act.put, List.setIfInBounds_toArray, List.set_cons_zero, List.set_cons_succ, i64_w, i32_w]
         rfl
        refine pure_ (i := 6) (N := some 67) (v := ?_) (a' := ?_) #[true, true, true, true, true, true, true, false, false, false, false, false, false, false, false, false, false, false, false, false, false, false, false, false, false, false, false, false, false, false, false, false, false, false, false, false, false, false, false, false, false, false, false, false] rfl rfl (any_of HT_.out (by kernel_rfl)) (fun _ _ _ h => h) (Or.inl ⟨by rfl, ?_⟩) ?_ ?_
        rotate_left
        ·intro w'
         go_simp
         with_reducible rfl
        rotate_left
        ·simp only [Act.put, List.setIfInBounds_toArray, List.set_cons_zero, List.set_cons_succ, i64_w, i32_w]
         rfl
        refine pure_ (i := 7) (N := some 68) (v := ?_) (a' := ?_) #[true, true, true, true, true, true, true, true, false, false, false, false, false, false, false, false, false, false, false, false, false, false, false, false, false, false, false, false, false, false, false, false, false, false, false, false, false, false, false, false, false, false, false, false] rfl rfl (any_of HT_.out (by kernel_rfl)) (fun _ _ _ h => h) (Or.inl ⟨by rfl, ?_⟩) ?_ ?_
        rotate_left
        ·intro w'
         go_simp
         with_reducible rfl
        rotate_left
        ·simp only [Act.put, List.setIfInBounds_toArray, List.set_cons_zero, List.set_cons_succ, i64_w, i32_w]
         rfl
        refine pure_ (i := 8) (N := some 69) (v := ?_) (a' := ?_) #[true, true, true, true, true, true, true, true, true, false, false, false, false, false, false, false, false, false, false, false, false, false, false, false, false, false, false, false, false, false, false, false, false, false, false, false, false, false, false, false, false, false, false, false] rfl rfl (any_of HT_.out (by kernel_rfl)) (fun _ _ _ h => h) (Or.inl ⟨by rfl, ?_⟩) ?_ ?_
        rotate_left
        ·intro w'
         go_simp
         with_reducible rfl
        rotate_left
        ·simp only [Act.put, List.setIfInBounds_toArray, List.set_cons_zero, List.set_cons_succ, i64_w, i32_w]
         rfl
        refine pure_ (i := 9) (N := some 70) (v := ?_) (a' := ?_) #[true, true, true, true, true, true, true, true, true, true, false, false, false, false, false, false, false, false, false, false, false, false, false, false, false, false, false, false, false, false, false, false, false, false, false, false, false, false, false, false, false, false, false, false] rfl rfl (any_of HT_.out (by kernel_rfl)) (fun _ _ _ h => h) (Or.inl ⟨by rfl, ?_⟩) ?_ ?_
        rotate_left
        ·intro w'
         go_simp
         with_reducible rfl
        rotate_left
        ·simp only [Act.put, List.setIfInBounds_toArray, List.set_cons_zero, List.set_cons_succ, i64_w, i32_w]
         rfl
        refine pure_ (i := 10) (N := some 71) (v := ?_) (a' := ?_) #[true, true, true, true, true, true, true, true, true, true, true, false, false, false, false, false, false, false, false, false, false, false, false, false, false, false, false, false, false, false, false, false, false, false, false, false, false, false, false, false, false, false, false, false] rfl rfl (any_of HT_.out (by kernel_rfl)) (fun _ _ _ h => h) (Or.inl ⟨by rfl, ?_⟩) ?_ ?_
        rotate_left
        ·intro w'
         go_simp
         with_reducible rfl
        rotate_left
        ·simp only [Act.put, List.setIfInBounds_toArray, List.set_cons_zero, List.set_cons_succ, i64_w, i32_w]
         rfl
        refine take_ (i := 11) (N := some 72) (v := ?_) (a' := ?_) #[true, true, true, true, true, true, true, true, true, true, true, true, false, false, false, false, false, false, false, false, false, false, false, false, false, false, false, false, false, false, false, false, false, false, false, false, false, false, false, false, false, false, false, false] rfl rfl (take_ofW HT_.out HW_.out (by kernel_rfl)) (fun _ _ _ h => h) (Or.inl ⟨by rfl, ?_⟩) hHeld ?_ ?_
        rotate_left
        ·rintro w' ⟨s0, s1, s2, s3, s4, s5, s6, s7, s8, s9, s10, s11, s12, s13⟩
         go_simp
         with_reducible rfl
        rotate_left
        ·simp only [Act.put, List.setIfInBounds_toArray, List.set_cons_zero, List.set_cons_succ, i64_w, i32_w]
         rfl
        refine take_ (i := 12) (N := some 73) (v := ?_) (a' := ?_) #[true, true, true, true, true, true, true, true, true, true, true, true, true, false, false, false, false, false, false, false, false, false, false, false, false, false, false, false, false, false, false, false, false, false, false, false, false, false, false, false, false, false, false, false] rfl rfl (take_ofW HT_.out HW_.out (by kernel_rfl)) (fun _ _ _ h => h) (Or.inl ⟨by rfl, ?_⟩) hHeld ?_ ?_
        rotate_left
        ·rintro w' ⟨s0, s1, s2, s3, s4, s5, s6, s7, s8, s9, s10, s11, s12, s13⟩
         go_simp
         with_reducible rfl
        rotate_left
        ·simp only [Act.put, List.setIfInBounds_toArray, List.set_cons_zero, List.set_cons_succ, i64_w, i32_w]
         rfl
        refine one_ (i := 13) (N := some 74) #[true, true, true, true, true, true, true, true, true, true, true, true, true, true, false, false, false, false, false, false, false, false, false, false, false, false, false, false, false, false, false, false, false, false, false, false, false, false, false, false, false, false, false, false] rfl rfl (one_of HT_.out (by kernel_rfl)) (by decide) (fun K hK => ?_)
        refine goes_ Try.func19 (by kernel_rfl) rfl #[.agg #[.int .i64 t420, .slice Ao46 t421.length co46], .agg #[.int .i64 t426, .slice Ao56 t427.length co56]] (by rfl) rfl rfl (by (try simp only [List.map_toArray, List.map_cons, List.map_nil]); first | done | rfl) ?_
        with_reducible refine (laws_sameAff.calls k t420 _ _ t421 t426 _ _ t427 true _ ?side1 ?side2 ?side3 ?side4 A16.out).mono ?_
        (case side1 => repeat (first | exact (Kd.R_reads' HO423.out).2.2 | (with_reducible refine cA ?_ _) | (with_reducible refine cN ?_ _) | (with_reducible refine cD ?_)))
        (case side2 => exact (Kd.R_reads' HO423.out).2.1)
        (case side3 => repeat (first | exact (Kd.R_reads' HO429.out).2.2 | (with_reducible refine cA ?_ _) | (with_reducible refine cN ?_ _) | (with_reducible refine cD ?_)))
        (case side4 => exact (Kd.R_reads' HO429.out).2.1)
        rintro e w107 ⟨rfl, hb⟩
        refine ⟨_, rfl, ?_⟩
        have n0_ := mk0 (Kd.R_below (by (with_reducible repeat (first | apply Kd.R_alloc | apply Kd.R_drewN | apply Kd.R_drew)); exact HO408.out) hb)
        have n1_ := mk0 (Kd.R_below (by (with_reducible repeat (first | apply Kd.R_alloc | apply Kd.R_drewN | apply Kd.R_drew)); exact HO413.out) hb)
        have n2_ := mk0 (Kd.R_below (by (with_reducible repeat (first | apply Kd.R_alloc | apply Kd.R_drewN | apply Kd.R_drew)); exact HO417.out) hb)
        have n3_ := mk0 (Kd.R_below (by (with_reducible repeat (first | apply Kd.R_alloc | apply Kd.R_drewN | apply Kd.R_drew)); exact HO423.out) hb)
        have n4_ := mk0 (Kd.R_below (by (with_reducible repeat (first | apply Kd.R_alloc | apply Kd.R_drewN | apply Kd.R_drew)); exact HO429.out) hb)
        have n5_ := mk0 (Kd.R_below (by (with_reducible repeat (first | apply Kd.R_alloc | apply Kd.R_drewN | apply Kd.R_drew)); exact HO435.out) hb)
        have n6_ := mk0 (Kd.R_below (by (with_reducible repeat (first | apply Kd.R_alloc | apply Kd.R_drewN | apply Kd.R_drew)); exact HO441.out) hb)
        have n7_ := mk0 (Kd.R_below (by (with_reducible repeat (first | apply Kd.R_alloc | apply Kd.R_drewN | apply Kd.R_drew)); exact HO447.out) hb)
        have n8_ := mk0 (Kd.R_below (by (with_reducible repeat (first | apply Kd.R_alloc | apply Kd.R_drewN | apply Kd.R_drew)); exact HO450.out) hb)
        have n9_ := mk0 (Kd.R_below (by (with_reducible repeat (first | apply Kd.R_alloc | apply Kd.R_drewN | apply Kd.R_drew)); exact HO455.out) hb)
        have n10_ := mk0 (blk_below (by (with_reducible repeat (first | refine kN ?_ _ | refine kD ?_ | refine kA ?_ _)); exact BK409.out) hb)
        have n11_ := mk0 (blk_below (by (with_reducible repeat (first | refine kN ?_ _ | refine kD ?_ | refine kA ?_ _)); exact BK418.out) hb)
        have n12_ := mk0 (blk_below (by (with_reducible repeat (first | refine kN ?_ _ | refine kD ?_ | refine kA ?_ _)); exact BK419.out) hb)
        have n13_ := mk0 (blk_below (by (with_reducible repeat (first | refine kN ?_ _ | refine kD ?_ | refine kA ?_ _)); exact BK425.out) hb)
        have n14_ := mk0 (blk_below (by (with_reducible repeat (first | refine kN ?_ _ | refine kD ?_ | refine kA ?_ _)); exact BK431.out) hb)
        have n15_ := mk0 (blk_below (by (with_reducible repeat (first | refine kN ?_ _ | refine kD ?_ | refine kA ?_ _)); exact BK437.out) hb)
        have n16_ := mk0 (blk_below (by (with_reducible repeat (first | refine kN ?_ _ | refine kD ?_ | refine kA ?_ _)); exact BK443.out) hb)
        have n17_ := mk0 (blk_below (by (with_reducible repeat (first | refine kN ?_ _ | refine kD ?_ | refine kA ?_ _)); exact BK451.out) hb)
        have n18_ := mk0 (blk_below (by (with_reducible repeat (first | refine kN ?_ _ | refine kD ?_ | refine kA ?_ _)); exact BK457.out) hb)
        have n19_ := mk0 (below_step (by repeat (first | (with_reducible first | exact HB.out | apply bA | apply bN | apply bD | refine bS ?_ GE409.out | refine bS ?_ GE418.out | refine bS ?_ GE419.out | refine bS ?_ GE425.out | refine bS ?_ GE431.out | refine bS ?_ GE437.out | refine bS ?_ GE443.out | refine bS ?_ GE451.out | refine bS ?_ GE457.out) | exact HB.out)) hb)
        clear HO408
        clear HO413
        clear HO417
        clear HO423
        clear HO429
        clear HO435
        clear HO441
        clear HO447
        clear HO450
        clear HO455
        clear BK409
        clear BK418
        clear BK419
        clear BK425
        clear BK431
        clear BK437
        clear BK443
        clear BK451
        clear BK457
        clear HB
        have HO408 := n0_
        have HO413 := n1_
        have HO417 := n2_
        have HO423 := n3_
        have HO429 := n4_
        have HO435 := n5_
        have HO441 := n6_
        have HO447 := n7_
        have HO450 := n8_
        have HO455 := n9_
        have BK409 := n10_
        have BK418 := n11_
        have BK419 := n12_
        have BK425 := n13_
        have BK431 := n14_
        have BK437 := n15_
        have BK443 := n16_
        have BK451 := n17_
        have BK457 := n18_
        have HB := n19_
        clear n0_ n1_ n2_ n3_ n4_ n5_ n6_ n7_ n8_ n9_ n10_ n11_ n12_ n13_ n14_ n15_ n16_ n17_ n18_ n19_
        (try clear hb)
        (try clear hb2)
        (try clear hk)
        (try clear hi)
        refine hK.out _ _ ⟨(blk_cell BK409.out 0).trans rfl, (blk_cell BK409.out 1).trans rfl, (blk_cell BK425.out 0).trans rfl, (blk_cell BK425.out 1).trans rfl, (blk_cell BK431.out 0).trans rfl, (blk_cell BK431.out 1).trans rfl, (blk_cell BK437.out 0).trans rfl, (blk_cell BK437.out 1).trans rfl, (blk_cell BK443.out 0).trans rfl, (blk_cell BK443.out 1).trans rfl, (blk_cell BK451.out 0).trans rfl, (blk_cell BK451.out 1).trans rfl, (blk_cell BK457.out 0).trans rfl, (blk_cell BK457.out 1).trans rfl⟩ (fun hHeld => ?_)
        clear hK K
        refine norm_ (a' := ?_) ?_ ?_
        rotate_left
        ·show Act.put _ (some 74) _ = _
         simp only [Act.put, List.setIfInBounds_toArray, List.set_cons_zero, List.set_cons_succ, i64_w, i32_w]
         rfl
        refine pure_ (i := 14) (N := some 75) (v := ?_) (a' := ?_) #[true, true, true, true, true, true, true, true, true, true, true, true, true, true, true, false, false, false, false, false, false, false, false, false, false, false, false, false, false, false, false, false, false, false, false, false, false, false, false, false, false, false, false, false] rfl rfl (any_of HT_.out (by kernel_rfl)) (fun _ _ _ h => h) (Or.inl ⟨by rfl, ?_⟩) ?_ ?_
        rotate_left
        ·intro w'
         go_simp
         with_reducible rfl
        rotate_left
        ·simp only [Act.put, List.setIfInBounds_toArray, List.set_cons_zero, List.set_cons_succ, i64_w, i32_w]
         rfl
        refine pure_ (i := 15) (N := some 76) (v := ?_) (a' := ?_) #[true, true, true, true, true, true, true, true, true, true, true, true, true, true, true, true, false, false, false, false, false, false, false, false, false, false, false, false, false, false, false, false, false, false, false, false, false, false, false, false, false, false, false, false] rfl rfl (any_of HT_.out (by kernel_rfl)) (fun _ _ _ h => h) (Or.inl ⟨by rfl, ?_⟩) ?_ ?_
        rotate_left
        ·intro w'
         go_simp
         with_reducible rfl
        rotate_left
        ·simp only [Act.put, List.setIfInBounds_toArray, List.set_cons_zero, List.set_cons_succ, i64_w, i32_w]
         rfl
        refine pure_ (i := 16) (N := some 77) (v := ?_) (a' := ?_) #[true, true, true, true, true, true, true, true, true, true, true, true, true, true, true, true, true, false, false, false, false, false, false, false, false, false, false, false, false, false, false, false, false, false, false, false, false, false, false, false, false, false, false, false] rfl rfl (any_of HT_.out (by kernel_rfl)) (fun _ _ _ h => h) (Or.inl ⟨by rfl, ?_⟩) ?_ ?_
        rotate_left
        ·intro w'
         go_simp
         with_reducible rfl
        rotate_left
        ·simp only [Act.put, List.setIfInBounds_toArray, List.set_cons_zero, List.set_cons_succ, i64_w, i32_w]
         rfl
        refine pure_ (i := 17) (N := some 78) (v := ?_) (a' := ?_) #[true, true, true, true, true, true, true, true, true, true, true, true, true, true, true, true, true, true, false, false, false, false, false, false, false, false, false, false, false, false, false, false, false, false, false, false, false, false, false, false, false, false, false, false] rfl rfl (any_of HT_.out (by kernel_rfl)) (fun _ _ _ h => h) (Or.inl ⟨by rfl, ?_⟩) ?_ ?_
        rotate_left
        ·intro w'
         go_simp
         with_reducible rfl
        rotate_left
        ·simp only [Act.put, List.setIfInBounds_toArray, List.set_cons_zero, List.set_cons_succ, i64_w, i32_w]
         rfl
        refine pure_ (i := 18) (N := some 79) (v := ?_) (a' := ?_) #[true, true, true, true, true, true, true, true, true, true, true, true, true, true, true, true, true, true, true, false, false, false, false, false, false, false, false, false, false, false, false, false, false, false, false, false, false, false, false, false, false, false, false, false] rfl rfl (any_of HT_.out (by kernel_rfl)) (fun _ _ _ h => h) (Or.inl ⟨by rfl, ?_⟩) ?_ ?_
        rotate_left
        ·intro w'
         go_simp
         with_reducible rfl
        rotate_left
        ·simp only [Act.put, List.setIfInBounds_toArray, List.set_cons_zero, List.set_cons_succ, i64_w, i32_w]
         rfl
        refine pure_ (i := 19) (N := some 80) (v := ?_) (a' := ?_) #[true, true, true, true, true, true, true, true, true, true, true, true, true, true, true, true, true, true, true, true, false, false, false, false, false, false, false, false, false, false, false, false, false, false, false, false, false, false, false, false, false, false, false, false] rfl rfl (any_of HT_.out (by kernel_rfl)) (fun _ _ _ h => h) (Or.inl ⟨by rfl, ?_⟩) ?_ ?_
        rotate_left
        ·intro w'
         go_simp
         with_reducible rfl
        rotate_left
        ·simp only [Act.put, List.setIfInBounds_toArray, List.set_cons_zero, List.set_cons_succ, i64_w, i32_w]
         rfl
        refine pure_ (i := 20) (N := some 81) (v := ?_) (a' := ?_) #[true, true, true, true, true, true, true, true, true, true, true, true, true, true, true, true, true, true, true, true, true, false, false, false, false, false, false, false, false, false, false, false, false, false, false, false, false, false, false, false, false, false, false, false] rfl rfl (any_of HT_.out (by kernel_rfl)) (fun _ _ _ h => h) (Or.inl ⟨by rfl, ?_⟩) ?_ ?_
        rotate_left
        ·intro w'
         go_simp
         with_reducible rfl
        rotate_left
        ·simp only [Act.put, List.setIfInBounds_toArray, List.set_cons_zero, List.set_cons_succ, i64_w, i32_w]
         rfl
        refine take_ (i := 21) (N := some 82) (v := ?_) (a' := ?_) #[true, true, true, true, true, true, true, true, true, true, true, true, true, true, true, true, true, true, true, true, true, true, false, false, false, false, false, false, false, false, false, false, false, false, false, false, false, false, false, false, false, false, false, false] rfl rfl (take_ofW HT_.out HW_.out (by kernel_rfl)) (fun _ _ _ h => h) (Or.inl ⟨by rfl, ?_⟩) hHeld ?_ ?_
        rotate_left
        ·rintro w' ⟨s0, s1, s2, s3, s4, s5, s6, s7, s8, s9, s10, s11, s12, s13⟩
         go_simp
         with_reducible rfl
        rotate_left
        ·simp only [Act.put, List.setIfInBounds_toArray, List.set_cons_zero, List.set_cons_succ, i64_w, i32_w]
         rfl
        refine take_ (i := 22) (N := some 83) (v := ?_) (a' := ?_) #[true, true, true, true, true, true, true, true, true, true, true, true, true, true, true, true, true, true, true, true, true, true, true, false, false, false, false, false, false, false, false, false, false, false, false, false, false, false, false, false, false, false, false, false] rfl rfl (take_ofW HT_.out HW_.out (by kernel_rfl)) (fun _ _ _ h => h) (Or.inl ⟨by rfl, ?_⟩) hHeld ?_ ?_
        rotate_left
        ·rintro w' ⟨s0, s1, s2, s3, s4, s5, s6, s7, s8, s9, s10, s11, s12, s13⟩
         go_simp
         with_reducible rfl
        rotate_left
        ·simp only [Act.put, List.setIfInBounds_toArray, List.set_cons_zero, List.set_cons_succ, i64_w, i32_w]
         rfl
        refine one_ (i := 23) (N := some 84) #[true, true, true, true, true, true, true, true, true, true, true, true, true, true, true, true, true, true, true, true, true, true, true, true, false, false, false, false, false, false, false, false, false, false, false, false, false, false, false, false, false, false, false, false] rfl rfl (one_of HT_.out (by kernel_rfl)) (by decide) (fun K hK => ?_)
        refine goes_ Try.func19 (by kernel_rfl) rfl #[.agg #[.int .i64 t432, .slice Ao67 t433.length co67], .agg #[.int .i64 t438, .slice Ao79 t439.length co79]] (by rfl) rfl rfl (by (try simp only [List.map_toArray, List.map_cons, List.map_nil]); first | done | rfl) ?_
        with_reducible refine (laws_sameAff.calls k t432 _ _ t433 t438 _ _ t439 true _ ?side1 ?side2 ?side3 ?side4 A19.out).mono ?_
        (case side1 => repeat (first | exact (Kd.R_reads' HO435.out).2.2 | (with_reducible refine cA ?_ _) | (with_reducible refine cN ?_ _) | (with_reducible refine cD ?_)))
        (case side2 => exact (Kd.R_reads' HO435.out).2.1)
        (case side3 => repeat (first | exact (Kd.R_reads' HO441.out).2.2 | (with_reducible refine cA ?_ _) | (with_reducible refine cN ?_ _) | (with_reducible refine cD ?_)))
        (case side4 => exact (Kd.R_reads' HO441.out).2.1)
        rintro e w108 ⟨rfl, hb⟩
        refine ⟨_, rfl, ?_⟩
        have n0_ := mk0 (Kd.R_below (by (with_reducible repeat (first | apply Kd.R_alloc | apply Kd.R_drewN | apply Kd.R_drew)); exact HO408.out) hb)
        have n1_ := mk0 (Kd.R_below (by (with_reducible repeat (first | apply Kd.R_alloc | apply Kd.R_drewN | apply Kd.R_drew)); exact HO413.out) hb)
        have n2_ := mk0 (Kd.R_below (by (with_reducible repeat (first | apply Kd.R_alloc | apply Kd.R_drewN | apply Kd.R_drew)); exact HO417.out) hb)
        have n3_ := mk0 (Kd.R_below (by (with_reducible repeat (first | apply Kd.R_alloc | apply Kd.R_drewN | apply Kd.R_drew)); exact HO423.out) hb)
        have n4_ := mk0 (Kd.R_below (by (with_reducible repeat (first | apply Kd.R_alloc | apply Kd.R_drewN | apply Kd.R_drew)); exact HO429.out) hb)
        have n5_ := mk0 (Kd.R_below (by (with_reducible repeat (first | apply Kd.R_alloc | apply Kd.R_drewN | apply Kd.R_drew)); exact HO435.out) hb)
        have n6_ := mk0 (Kd.R_below (by (with_reducible repeat (first | apply Kd.R_alloc | apply Kd.R_drewN | apply Kd.R_drew)); exact HO441.out) hb)
        have n7_ := mk0 (Kd.R_below (by (with_reducible repeat (first | apply Kd.R_alloc | apply Kd.R_drewN | apply Kd.R_drew)); exact HO447.out) hb)
        have n8_ := mk0 (Kd.R_below (by (with_reducible repeat (first | apply Kd.R_alloc | apply Kd.R_drewN | apply Kd.R_drew)); exact HO450.out) hb)
        have n9_ := mk0 (Kd.R_below (by (with_reducible repeat (first | apply Kd.R_alloc | apply Kd.R_drewN | apply Kd.R_drew)); exact HO455.out) hb)
        have n10_ := mk0 (blk_below (by (with_reducible repeat (first | refine kN ?_ _ | refine kD ?_ | refine kA ?_ _)); exact BK409.out) hb)
        have n11_ := mk0 (blk_below (by (with_reducible repeat (first | refine kN ?_ _ | refine kD ?_ | refine kA ?_ _)); exact BK418.out) hb)
        have n12_ := mk0 (blk_below (by (with_reducible repeat (first | refine kN ?_ _ | refine kD ?_ | refine kA ?_ _)); exact BK419.out) hb)
        have n13_ := mk0 (blk_below (by (with_reducible repeat (first | refine kN ?_ _ | refine kD ?_ | refine kA ?_ _)); exact BK425.out) hb)
        have n14_ := mk0 (blk_below (by (with_reducible repeat (first | refine kN ?_ _ | refine kD ?_ | refine kA ?_ _)); exact BK431.out) hb)
        have n15_ := mk0 (blk_below (by (with_reducible repeat (first | refine kN ?_ _ | refine kD ?_ | refine kA ?_ _)); exact BK437.out) hb)
        have n16_ := mk0 (blk_below (by (with_reducible repeat (first | refine kN ?_ _ | refine kD ?_ | refine kA ?_ _)); exact BK443.out) hb)
        have n17_ := mk0 (blk_below (by (with_reducible repeat (first | refine kN ?_ _ | refine kD ?_ | refine kA ?_ _)); exact BK451.out) hb)
        have n18_ := mk0 (blk_below (by (with_reducible repeat (first | refine kN ?_ _ | refine kD ?_ | refine kA ?_ _)); exact BK457.out) hb)
        have n19_ := mk0 (below_step (by repeat (first | (with_reducible first | exact HB.out | apply bA | apply bN | apply bD | refine bS ?_ GE409.out | refine bS ?_ GE418.out | refine bS ?_ GE419.out | refine bS ?_ GE425.out | refine bS ?_ GE431.out | refine bS ?_ GE437.out | refine bS ?_ GE443.out | refine bS ?_ GE451.out | refine bS ?_ GE457.out) | exact HB.out)) hb)
        clear HO408
        clear HO413
        clear HO417
        clear HO423
        clear HO429
        clear HO435
        clear HO441
        clear HO447
        clear HO450
        clear HO455
        clear BK409
        clear BK418
        clear BK419
        clear BK425
        clear BK431
        clear BK437
        clear BK443
        clear BK451
        clear BK457
        clear HB
        have HO408 := n0_
        have HO413 := n1_
        have HO417 := n2_
        have HO423 := n3_
        have HO429 := n4_
        have HO435 := n5_
        have HO441 := n6_
        have HO447 := n7_
        have HO450 := n8_
        have HO455 := n9_
        have BK409 := n10_
        have BK418 := n11_
        have BK419 := n12_
        have BK425 := n13_
        have BK431 := n14_
        have BK437 := n15_
        have BK443 := n16_
        have BK451 := n17_
        have BK457 := n18_
        have HB := n19_
        clear n0_ n1_ n2_ n3_ n4_ n5_ n6_ n7_ n8_ n9_ n10_ n11_ n12_ n13_ n14_ n15_ n16_ n17_ n18_ n19_
        (try clear hb)
        (try clear hb2)
        (try clear hk)
        (try clear hi)
        obtain ⟨Ao109, co109, eo109⟩ := Kd.R_slice HO450.out
        (first | subst eo109 | (injection eo109 with f1_ f2_ f3_; have f4_ := f1_.symm; have f5_ := f3_.symm; clear f1_ f2_ f3_; subst f4_; subst f5_))
        refine hK.out _ _ ⟨(blk_cell BK409.out 0).trans rfl, (blk_cell BK409.out 1).trans rfl, (blk_cell BK425.out 0).trans rfl, (blk_cell BK425.out 1).trans rfl, (blk_cell BK431.out 0).trans rfl, (blk_cell BK431.out 1).trans rfl, (blk_cell BK437.out 0).trans rfl, (blk_cell BK437.out 1).trans rfl, (blk_cell BK443.out 0).trans rfl, (blk_cell BK443.out 1).trans rfl, (blk_cell BK451.out 0).trans rfl, (blk_cell BK451.out 1).trans rfl, (blk_cell BK457.out 0).trans rfl, (blk_cell BK457.out 1).trans rfl⟩ (fun hHeld => ?_)
        clear hK K
        refine norm_ (a' := ?_) ?_ ?_
        rotate_left
        ·show Act.put _ (some 84) _ = _
         simp only [Act.put, List.setIfInBounds_toArray, List.set_cons_zero, List.set_cons_succ, i64_w, i32_w]
         rfl
        refine pure_ (i := 24) (N := some 85) (v := ?_) (a' := ?_) #[true, true, true, true, true, true, true, true, true, true, true, true, true, true, true, true, true, true, true, true, true, true, true, true, true, false, false, false, false, false, false, false, false, false, false, false, false, false, false, false, false, false, false, false] rfl rfl (any_of HT_.out (by kernel_rfl)) (fun _ _ _ h => h) (Or.inl ⟨by rfl, ?_⟩) ?_ ?_
        rotate_left
        ·intro w'
         go_simp
         with_reducible rfl
        rotate_left
        ·simp only [Act.put, List.setIfInBounds_toArray, List.set_cons_zero, List.set_cons_succ, i64_w, i32_w]
         rfl
        refine pure_ (i := 25) (N := some 86) (v := ?_) (a' := ?_) #[true, true, true, true, true, true, true, true, true, true, true, true, true, true, true, true, true, true, true, true, true, true, true, true, true, true, false, false, false, false, false, false, false, false, false, false, false, false, false, false, false, false, false, false] rfl rfl (any_of HT_.out (by kernel_rfl)) (fun _ _ _ h => h) (Or.inl ⟨by rfl, ?_⟩) ?_ ?_
        rotate_left
        ·intro w'
         go_simp
         with_reducible rfl
        rotate_left
        ·simp only [Act.put, List.setIfInBounds_toArray, List.set_cons_zero, List.set_cons_succ, i64_w, i32_w]
         rfl
        refine pure_ (i := 27) (N := some 88) (v := ?_) (a' := ?_) #[true, true, true, true, true, true, true, true, true, true, true, true, true, true, true, true, true, true, true, true, true, true, true, true, true, true, false, true, false, false, false, false, false, false, false, false, false, false, false, false, false, false, false, false] rfl rfl (any_of HT_.out (by kernel_rfl)) (fun _ _ _ h => h) (Or.inl ⟨by rfl, ?_⟩) ?_ ?_
        rotate_left
        ·intro w'
         go_simp
         with_reducible rfl
        rotate_left
        ·simp only [Act.put, List.setIfInBounds_toArray, List.set_cons_zero, List.set_cons_succ, i64_w, i32_w]
         rfl
        refine pure_ (i := 30) (N := some 91) (v := ?_) (a' := ?_) #[true, true, true, true, true, true, true, true, true, true, true, true, true, true, true, true, true, true, true, true, true, true, true, true, true, true, false, true, false, false, true, false, false, false, false, false, false, false, false, false, false, false, false, false] rfl rfl (any_of HT_.out (by kernel_rfl)) (fun _ _ _ h => h) (Or.inl ⟨by rfl, ?_⟩) ?_ ?_
        rotate_left
        ·intro w'
         go_simp
         with_reducible rfl
        rotate_left
        ·simp only [Act.put, List.setIfInBounds_toArray, List.set_cons_zero, List.set_cons_succ, i64_w, i32_w]
         rfl
        refine take_ (i := 26) (N := some 87) (v := ?_) (a' := ?_) #[true, true, true, true, true, true, true, true, true, true, true, true, true, true, true, true, true, true, true, true, true, true, true, true, true, true, true, true, false, false, true, false, false, false, false, false, false, false, false, false, false, false, false, false] rfl rfl (take_ofW HT_.out HW_.out (by kernel_rfl)) (fun _ _ _ h => h) (Or.inl ⟨by rfl, ?_⟩) hHeld ?_ ?_
        rotate_left
        ·rintro w' ⟨s0, s1, s2, s3, s4, s5, s6, s7, s8, s9, s10, s11, s12, s13⟩
         go_simp
         with_reducible rfl
        rotate_left
        ·simp only [Act.put, List.setIfInBounds_toArray, List.set_cons_zero, List.set_cons_succ, i64_w, i32_w]
         rfl
        refine take_ (i := 29) (N := some 90) (v := ?_) (a' := ?_) #[true, true, true, true, true, true, true, true, true, true, true, true, true, true, true, true, true, true, true, true, true, true, true, true, true, true, true, true, false, true, true, false, false, false, false, false, false, false, false, false, false, false, false, false] rfl rfl (take_ofW HT_.out HW_.out (by kernel_rfl)) (fun _ _ _ h => h) (Or.inl ⟨by rfl, ?_⟩) hHeld ?_ ?_
        rotate_left
        ·rintro w' ⟨s0, s1, s2, s3, s4, s5, s6, s7, s8, s9, s10, s11, s12, s13⟩
         go_simp
         with_reducible rfl
        rotate_left
        ·simp only [Act.put, List.setIfInBounds_toArray, List.set_cons_zero, List.set_cons_succ, i64_w, i32_w]
         rfl
        refine one_ (i := 28) (N := some 89) #[true, true, true, true, true, true, true, true, true, true, true, true, true, true, true, true, true, true, true, true, true, true, true, true, true, true, true, true, true, true, true, false, false, false, false, false, false, false, false, false, false, false, false, false] rfl rfl (one_of HT_.out (by kernel_rfl)) (by decide) (fun K hK => ?_)
        refine goes_ Try.func22 (by kernel_rfl) rfl #[.agg #[.int .i64 t444, .slice Ao90 t445.length co90], .slice Ao109 t448.length co109] (by rfl) rfl rfl (by (try simp only [List.map_toArray, List.map_cons, List.map_nil]); first | done | rfl) ?_
        with_reducible refine (impl_AffAt.calls k t444 _ _ t445 _ _ t448 t462 _ ?side1 ?side2 ?side3 ?side4 A21.out).mono ?_
        (case side1 => repeat (first | exact (Kd.R_reads' HO447.out).2.2 | (with_reducible refine cA ?_ _) | (with_reducible refine cN ?_ _) | (with_reducible refine cD ?_)))
        (case side2 => exact (Kd.R_reads' HO447.out).2.1)
        (case side3 => repeat (first | exact (Kd.R_reads' HO450.out).2.2 | (with_reducible refine cA ?_ _) | (with_reducible refine cN ?_ _) | (with_reducible refine cD ?_)))
        (case side4 => exact (Kd.R_reads' HO450.out).2.1)
        rintro e w110 ⟨rfl, hb⟩
        refine ⟨_, rfl, ?_⟩
        have n0_ := mk0 (Kd.R_below (by (with_reducible repeat (first | apply Kd.R_alloc | apply Kd.R_drewN | apply Kd.R_drew)); exact HO408.out) hb)
        have n1_ := mk0 (Kd.R_below (by (with_reducible repeat (first | apply Kd.R_alloc | apply Kd.R_drewN | apply Kd.R_drew)); exact HO413.out) hb)
        have n2_ := mk0 (Kd.R_below (by (with_reducible repeat (first | apply Kd.R_alloc | apply Kd.R_drewN | apply Kd.R_drew)); exact HO417.out) hb)
        have n3_ := mk0 (Kd.R_below (by (with_reducible repeat (first | apply Kd.R_alloc | apply Kd.R_drewN | apply Kd.R_drew)); exact HO423.out) hb)
        have n4_ := mk0 (Kd.R_below (by (with_reducible repeat (first | apply Kd.R_alloc | apply Kd.R_drewN | apply Kd.R_drew)); exact HO429.out) hb)
        have n5_ := mk0 (Kd.R_below (by (with_reducible repeat (first | apply Kd.R_alloc | apply Kd.R_drewN | apply Kd.R_drew)); exact HO435.out) hb)
        have n6_ := mk0 (Kd.R_below (by (with_reducible repeat (first | apply Kd.R_alloc | apply Kd.R_drewN | apply Kd.R_drew)); exact HO441.out) hb)
        have n7_ := mk0 (Kd.R_below (by (with_reducible repeat (first | apply Kd.R_alloc | apply Kd.R_drewN | apply Kd.R_drew)); exact HO447.out) hb)
        have n8_ := mk0 (Kd.R_below (by (with_reducible repeat (first | apply Kd.R_alloc | apply Kd.R_drewN | apply Kd.R_drew)); exact HO450.out) hb)
        have n9_ := mk0 (Kd.R_below (by (with_reducible repeat (first | apply Kd.R_alloc | apply Kd.R_drewN | apply Kd.R_drew)); exact HO455.out) hb)
        have n10_ := mk0 (blk_below (by (with_reducible repeat (first | refine kN ?_ _ | refine kD ?_ | refine kA ?_ _)); exact BK409.out) hb)
        have n11_ := mk0 (blk_below (by (with_reducible repeat (first | refine kN ?_ _ | refine kD ?_ | refine kA ?_ _)); exact BK418.out) hb)
        have n12_ := mk0 (blk_below (by (with_reducible repeat (first | refine kN ?_ _ | refine kD ?_ | refine kA ?_ _)); exact BK419.out) hb)
        have n13_ := mk0 (blk_below (by (with_reducible repeat (first | refine kN ?_ _ | refine kD ?_ | refine kA ?_ _)); exact BK425.out) hb)
        have n14_ := mk0 (blk_below (by (with_reducible repeat (first | refine kN ?_ _ | refine kD ?_ | refine kA ?_ _)); exact BK431.out) hb)
        have n15_ := mk0 (blk_below (by (with_reducible repeat (first | refine kN ?_ _ | refine kD ?_ | refine kA ?_ _)); exact BK437.out) hb)
        have n16_ := mk0 (blk_below (by (with_reducible repeat (first | refine kN ?_ _ | refine kD ?_ | refine kA ?_ _)); exact BK443.out) hb)
        have n17_ := mk0 (blk_below (by (with_reducible repeat (first | refine kN ?_ _ | refine kD ?_ | refine kA ?_ _)); exact BK451.out) hb)
        have n18_ := mk0 (blk_below (by (with_reducible repeat (first | refine kN ?_ _ | refine kD ?_ | refine kA ?_ _)); exact BK457.out) hb)
        have n19_ := mk0 (below_step (by repeat (first | (with_reducible first | exact HB.out | apply bA | apply bN | apply bD | refine bS ?_ GE409.out | refine bS ?_ GE418.out | refine bS ?_ GE419.out | refine bS ?_ GE425.out | refine bS ?_ GE431.out | refine bS ?_ GE437.out | refine bS ?_ GE443.out | refine bS ?_ GE451.out | refine bS ?_ GE457.out) | exact HB.out)) hb)
        clear HO408
        clear HO413
        clear HO417
        clear HO423
        clear HO429
        clear HO435
        clear HO441
        clear HO447
        clear HO450
        clear HO455
        clear BK409
        clear BK418
        clear BK419
        clear BK425
        clear BK431
        clear BK437
        clear BK443
        clear BK451
        clear BK457
        clear HB
        have HO408 := n0_
        have HO413 := n1_
        have HO417 := n2_
        have HO423 := n3_
        have HO429 := n4_
        have HO435 := n5_
        have HO441 := n6_
        have HO447 := n7_
        have HO450 := n8_
        have HO455 := n9_
        have BK409 := n10_
        have BK418 := n11_
        have BK419 := n12_
        have BK425 := n13_
        have BK431 := n14_
        have BK437 := n15_
        have BK443 := n16_
        have BK451 := n17_
        have BK457 := n18_
        have HB := n19_
        clear n0_ n1_ n2_ n3_ n4_ n5_ n6_ n7_ n8_ n9_ n10_ n11_ n12_ n13_ n14_ n15_ n16_ n17_ n18_ n19_
        (try clear hb)
        (try clear hb2)
        (try clear hk)
        (try clear hi)
        refine hK.out _ _ ⟨(blk_cell BK409.out 0).trans rfl, (blk_cell BK409.out 1).trans rfl, (blk_cell BK425.out 0).trans rfl, (blk_cell BK425.out 1).trans rfl, (blk_cell BK431.out 0).trans rfl, (blk_cell BK431.out 1).trans rfl, (blk_cell BK437.out 0).trans rfl, (blk_cell BK437.out 1).trans rfl, (blk_cell BK443.out 0).trans rfl, (blk_cell BK443.out 1).trans rfl, (blk_cell BK451.out 0).trans rfl, (blk_cell BK451.out 1).trans rfl, (blk_cell BK457.out 0).trans rfl, (blk_cell BK457.out 1).trans rfl⟩ (fun hHeld => ?_)
        clear hK K
        refine norm_ (a' := ?_) ?_ ?_
        rotate_left
        ·show Act.put _ (some 89) _ = _
         simp only [Act.put, List.setIfInBounds_toArray, List.set_cons_zero, List.set_cons_succ, i64_w, i32_w]
         rfl
        refine one_ (i := 31) (N := some 92) #[true, true, true, true, true, true, true, true, true, true, true, true, true, true, true, true, true, true, true, true, true, true, true, true, true, true, true, true, true, true, true, true, false, false, false, false, false, false, false, false, false, false, false, false] rfl rfl (one_of HT_.out (by kernel_rfl)) (by decide) (fun K hK => ?_)
        refine goes_ Try.func28 (by kernel_rfl) rfl #[.agg #[.int .i64 t444, .slice Ao90 t445.length co90], .slice Ao109 t448.length co109] (by rfl) rfl rfl (by (try simp only [List.map_toArray, List.map_cons, List.map_nil]); first | done | rfl) ?_
        with_reducible refine (spec_AffAt.calls k t444 _ _ t445 _ _ t448 t463 _ ?side1 ?side2 ?side3 ?side4 A22.out).mono ?_
        (case side1 => repeat (first | exact (Kd.R_reads' HO447.out).2.2 | (with_reducible refine cA ?_ _) | (with_reducible refine cN ?_ _) | (with_reducible refine cD ?_)))
        (case side2 => exact (Kd.R_reads' HO447.out).2.1)
        (case side3 => repeat (first | exact (Kd.R_reads' HO450.out).2.2 | (with_reducible refine cA ?_ _) | (with_reducible refine cN ?_ _) | (with_reducible refine cD ?_)))
        (case side4 => exact (Kd.R_reads' HO450.out).2.1)
        rintro e w111 ⟨rfl, hb⟩
        refine ⟨_, rfl, ?_⟩
        have n0_ := mk0 (Kd.R_below (by (with_reducible repeat (first | apply Kd.R_alloc | apply Kd.R_drewN | apply Kd.R_drew)); exact HO408.out) hb)
        have n1_ := mk0 (Kd.R_below (by (with_reducible repeat (first | apply Kd.R_alloc | apply Kd.R_drewN | apply Kd.R_drew)); exact HO413.out) hb)
        have n2_ := mk0 (Kd.R_below (by (with_reducible repeat (first | apply Kd.R_alloc | apply Kd.R_drewN | apply Kd.R_drew)); exact HO417.out) hb)
        have n3_ := mk0 (Kd.R_below (by (with_reducible repeat (first | apply Kd.R_alloc | apply Kd.R_drewN | apply Kd.R_drew)); exact HO423.out) hb)
        have n4_ := mk0 (Kd.R_below (by (with_reducible repeat (first | apply Kd.R_alloc | apply Kd.R_drewN | apply Kd.R_drew)); exact HO429.out) hb)
        have n5_ := mk0 (Kd.R_below (by (with_reducible repeat (first | apply Kd.R_alloc | apply Kd.R_drewN | apply Kd.R_drew)); exact HO435.out) hb)
        have n6_ := mk0 (Kd.R_below (by (with_reducible repeat (first | apply Kd.R_alloc | apply Kd.R_drewN | apply Kd.R_drew)); exact HO441.out) hb)
        have n7_ := mk0 (Kd.R_below (by (with_reducible repeat (first | apply Kd.R_alloc | apply Kd.R_drewN | apply Kd.R_drew)); exact HO447.out) hb)
        have n8_ := mk0 (Kd.R_below (by (with_reducible repeat (first | apply Kd.R_alloc | apply Kd.R_drewN | apply Kd.R_drew)); exact HO450.out) hb)
        have n9_ := mk0 (Kd.R_below (by (with_reducible repeat (first | apply Kd.R_alloc | apply Kd.R_drewN | apply Kd.R_drew)); exact HO455.out) hb)
        have n10_ := mk0 (blk_below (by (with_reducible repeat (first | refine kN ?_ _ | refine kD ?_ | refine kA ?_ _)); exact BK409.out) hb)
        have n11_ := mk0 (blk_below (by (with_reducible repeat (first | refine kN ?_ _ | refine kD ?_ | refine kA ?_ _)); exact BK418.out) hb)
        have n12_ := mk0 (blk_below (by (with_reducible repeat (first | refine kN ?_ _ | refine kD ?_ | refine kA ?_ _)); exact BK419.out) hb)
        have n13_ := mk0 (blk_below (by (with_reducible repeat (first | refine kN ?_ _ | refine kD ?_ | refine kA ?_ _)); exact BK425.out) hb)
        have n14_ := mk0 (blk_below (by (with_reducible repeat (first | refine kN ?_ _ | refine kD ?_ | refine kA ?_ _)); exact BK431.out) hb)
        have n15_ := mk0 (blk_below (by (with_reducible repeat (first | refine kN ?_ _ | refine kD ?_ | refine kA ?_ _)); exact BK437.out) hb)
        have n16_ := mk0 (blk_below (by (with_reducible repeat (first | refine kN ?_ _ | refine kD ?_ | refine kA ?_ _)); exact BK443.out) hb)
        have n17_ := mk0 (blk_below (by (with_reducible repeat (first | refine kN ?_ _ | refine kD ?_ | refine kA ?_ _)); exact BK451.out) hb)
        have n18_ := mk0 (blk_below (by (with_reducible repeat (first | refine kN ?_ _ | refine kD ?_ | refine kA ?_ _)); exact BK457.out) hb)
        have n19_ := mk0 (below_step (by repeat (first | (with_reducible first | exact HB.out | apply bA | apply bN | apply bD | refine bS ?_ GE409.out | refine bS ?_ GE418.out | refine bS ?_ GE419.out | refine bS ?_ GE425.out | refine bS ?_ GE431.out | refine bS ?_ GE437.out | refine bS ?_ GE443.out | refine bS ?_ GE451.out | refine bS ?_ GE457.out) | exact HB.out)) hb)
        clear HO408
        clear HO413
        clear HO417
        clear HO423
        clear HO429
        clear HO435
        clear HO441
        clear HO447
        clear HO450
        clear HO455
        clear BK409
        clear BK418
        clear BK419
        clear BK425
        clear BK431
        clear BK437
        clear BK443
        clear BK451
        clear BK457
        clear HB
        have HO408 := n0_
        have HO413 := n1_
        have HO417 := n2_
        have HO423 := n3_
        have HO429 := n4_
        have HO435 := n5_
        have HO441 := n6_
        have HO447 := n7_
        have HO450 := n8_
        have HO455 := n9_
        have BK409 := n10_
        have BK418 := n11_
        have BK419 := n12_
        have BK425 := n13_
        have BK431 := n14_
        have BK437 := n15_
        have BK443 := n16_
        have BK451 := n17_
        have BK457 := n18_
        have HB := n19_
        clear n0_ n1_ n2_ n3_ n4_ n5_ n6_ n7_ n8_ n9_ n10_ n11_ n12_ n13_ n14_ n15_ n16_ n17_ n18_ n19_
        (try clear hb)
        (try clear hb2)
        (try clear hk)
        (try clear hi)
        refine hK.out _ _ ⟨(blk_cell BK409.out 0).trans rfl, (blk_cell BK409.out 1).trans rfl, (blk_cell BK425.out 0).trans rfl, (blk_cell BK425.out 1).trans rfl, (blk_cell BK431.out 0).trans rfl, (blk_cell BK431.out 1).trans rfl, (blk_cell BK437.out 0).trans rfl, (blk_cell BK437.out 1).trans rfl, (blk_cell BK443.out 0).trans rfl, (blk_cell BK443.out 1).trans rfl, (blk_cell BK451.out 0).trans rfl, (blk_cell BK451.out 1).trans rfl, (blk_cell BK457.out 0).trans rfl, (blk_cell BK457.out 1).trans rfl⟩ (fun hHeld => ?_)
        clear hK K
        refine norm_ (a' := ?_) ?_ ?_
        rotate_left
        ·show Act.put _ (some 92) _ = _
         simp only [Act.put, List.setIfInBounds_toArray, List.set_cons_zero, List.set_cons_succ, i64_w, i32_w]
         rfl
        refine pure_ (i := 32) (N := some 93) (v := ?_) (a' := ?_) #[true, true, true, true, true, true, true, true, true, true, true, true, true, true, true, true, true, true, true, true, true, true, true, true, true, true, true, true, true, true, true, true, true, false, false, false, false, false, false, false, false, false, false, false] rfl rfl (any_of HT_.out (by kernel_rfl)) (fun _ _ _ h => h) (Or.inl ⟨by rfl, ?_⟩) ?_ ?_
        rotate_left
        ·intro w'
         go_simp
         with_reducible rfl
        rotate_left
        ·simp only [Act.put, List.setIfInBounds_toArray, List.set_cons_zero, List.set_cons_succ, i64_w, i32_w]
         rfl
        refine pure_ (i := 33) (N := some 94) (v := ?_) (a' := ?_) #[true, true, true, true, true, true, true, true, true, true, true, true, true, true, true, true, true, true, true, true, true, true, true, true, true, true, true, true, true, true, true, true, true, true, false, false, false, false, false, false, false, false, false, false] rfl rfl (any_of HT_.out (by kernel_rfl)) (fun _ _ _ h => h) (Or.inl ⟨by rfl, ?_⟩) ?_ ?_
        rotate_left
        ·intro w'
         go_simp
         with_reducible rfl
        rotate_left
        ·simp only [Act.put, List.setIfInBounds_toArray, List.set_cons_zero, List.set_cons_succ, i64_w, i32_w]
         rfl
        refine pure_ (i := 34) (N := some 95) (v := ?_) (a' := ?_) #[true, true, true, true, true, true, true, true, true, true, true, true, true, true, true, true, true, true, true, true, true, true, true, true, true, true, true, true, true, true, true, true, true, true, true, false, false, false, false, false, false, false, false, false] rfl rfl (any_of HT_.out (by kernel_rfl)) (fun _ _ _ h => h) (Or.inl ⟨by rfl, ?_⟩) ?_ ?_
        rotate_left
        ·intro w'
         go_simp
         with_reducible rfl
        rotate_left
        ·simp only [Act.put, List.setIfInBounds_toArray, List.set_cons_zero, List.set_cons_succ, i64_w, i32_w]
         rfl
        refine pure_ (i := 36) (N := some 97) (v := ?_) (a' := ?_) #[true, true, true, true, true, true, true, true, true, true, true, true, true, true, true, true, true, true, true, true, true, true, true, true, true, true, true, true, true, true, true, true, true, true, true, false, true, false, false, false, false, false, false, false] rfl rfl (any_of HT_.out (by kernel_rfl)) (fun _ _ _ h => h) (Or.inl ⟨by rfl, ?_⟩) ?_ ?_
        rotate_left
        ·intro w'
         go_simp
         with_reducible rfl
        rotate_left
        ·simp only [Act.put, List.setIfInBounds_toArray, List.set_cons_zero, List.set_cons_succ, i64_w, i32_w]
         rfl
        refine pure_ (i := 39) (N := some 100) (v := ?_) (a' := ?_) #[true, true, true, true, true, true, true, true, true, true, true, true, true, true, true, true, true, true, true, true, true, true, true, true, true, true, true, true, true, true, true, true, true, true, true, false, true, false, false, true, false, false, false, false] rfl rfl (any_of HT_.out (by kernel_rfl)) (fun _ _ _ h => h) (Or.inl ⟨by rfl, ?_⟩) ?_ ?_
        rotate_left
        ·intro w'
         go_simp
         with_reducible rfl
        rotate_left
        ·simp only [Act.put, List.setIfInBounds_toArray, List.set_cons_zero, List.set_cons_succ, i64_w, i32_w]
         rfl
        refine take_ (i := 35) (N := some 96) (v := ?_) (a' := ?_) #[true, true, true, true, true, true, true, true, true, true, true, true, true, true, true, true, true, true, true, true, true, true, true, true, true, true, true, true, true, true, true, true, true, true, true, true, true, false, false, true, false, false, false, false] rfl rfl (take_ofW HT_.out HW_.out (by kernel_rfl)) (fun _ _ _ h => h) (Or.inl ⟨by rfl, ?_⟩) hHeld ?_ ?_
        rotate_left
        ·rintro w' ⟨s0, s1, s2, s3, s4, s5, s6, s7, s8, s9, s10, s11, s12, s13⟩
         go_simp
         with_reducible rfl
        rotate_left
        ·simp only [Act.put, List.setIfInBounds_toArray, List.set_cons_zero, List.set_cons_succ, i64_w, i32_w]
         rfl
        refine take_ (i := 38) (N := some 99) (v := ?_) (a' := ?_) #[true, true, true, true, true, true, true, true, true, true, true, true, true, true, true, true, true, true, true, true, true, true, true, true, true, true, true, true, true, true, true, true, true, true, true, true, true, false, true, true, false, false, false, false] rfl rfl (take_ofW HT_.out HW_.out (by kernel_rfl)) (fun _ _ _ h => h) (Or.inl ⟨by rfl, ?_⟩) hHeld ?_ ?_
        rotate_left
        ·rintro w' ⟨s0, s1, s2, s3, s4, s5, s6, s7, s8, s9, s10, s11, s12, s13⟩
         go_simp
         with_reducible rfl
        rotate_left
        ·simp only [Act.put, List.setIfInBounds_toArray, List.set_cons_zero, List.set_cons_succ, i64_w, i32_w]
         rfl
        refine one_ (i := 37) (N := some 98) #[true, true, true, true, true, true, true, true, true, true, true, true, true, true, true, true, true, true, true, true, true, true, true, true, true, true, true, true, true, true, true, true, true, true, true, true, true, true, true, true, false, false, false, false] rfl rfl (one_of HT_.out (by kernel_rfl)) (by decide) (fun K hK => ?_)
        refine goes_ Try.func21 (by kernel_rfl) rfl #[.agg #[.int .i64 t452, .slice Ao102 t453.length co102], .string t456] (by rfl) rfl rfl (by (try simp only [List.map_toArray, List.map_cons, List.map_nil]); first | done | rfl) ?_
        with_reducible refine (impl_CoefOf.calls k t452 _ _ t453 t456 t464 _ ?side1 ?side2 A24.out).mono ?_
        (case side1 => repeat (first | exact (Kd.R_reads' HO455.out).2.2 | (with_reducible refine cA ?_ _) | (with_reducible refine cN ?_ _) | (with_reducible refine cD ?_)))
        (case side2 => exact (Kd.R_reads' HO455.out).2.1)
        rintro e w112 ⟨rfl, hb⟩
        refine ⟨_, rfl, ?_⟩
        have n0_ := mk0 (Kd.R_below (by (with_reducible repeat (first | apply Kd.R_alloc | apply Kd.R_drewN | apply Kd.R_drew)); exact HO408.out) hb)
        have n1_ := mk0 (Kd.R_below (by (with_reducible repeat (first | apply Kd.R_alloc | apply Kd.R_drewN | apply Kd.R_drew)); exact HO413.out) hb)
        have n2_ := mk0 (Kd.R_below (by (with_reducible repeat (first | apply Kd.R_alloc | apply Kd.R_drewN | apply Kd.R_drew)); exact HO417.out) hb)
        have n3_ := mk0 (Kd.R_below (by (with_reducible repeat (first | apply Kd.R_alloc | apply Kd.R_drewN | apply Kd.R_drew)); exact HO423.out) hb)
        have n4_ := mk0 (Kd.R_below (by (with_reducible repeat (first | apply Kd.R_alloc | apply Kd.R_drewN | apply Kd.R_drew)); exact HO429.out) hb)
        have n5_ := mk0 (Kd.R_below (by (with_reducible repeat (first | apply Kd.R_alloc | apply Kd.R_drewN | apply Kd.R_drew)); exact HO435.out) hb)
        have n6_ := mk0 (Kd.R_below (by (with_reducible repeat (first | apply Kd.R_alloc | apply Kd.R_drewN | apply Kd.R_drew)); exact HO441.out) hb)
        have n7_ := mk0 (Kd.R_below (by (with_reducible repeat (first | apply Kd.R_alloc | apply Kd.R_drewN | apply Kd.R_drew)); exact HO447.out) hb)
        have n8_ := mk0 (Kd.R_below (by (with_reducible repeat (first | apply Kd.R_alloc | apply Kd.R_drewN | apply Kd.R_drew)); exact HO450.out) hb)
        have n9_ := mk0 (Kd.R_below (by (with_reducible repeat (first | apply Kd.R_alloc | apply Kd.R_drewN | apply Kd.R_drew)); exact HO455.out) hb)
        have n10_ := mk0 (blk_below (by (with_reducible repeat (first | refine kN ?_ _ | refine kD ?_ | refine kA ?_ _)); exact BK409.out) hb)
        have n11_ := mk0 (blk_below (by (with_reducible repeat (first | refine kN ?_ _ | refine kD ?_ | refine kA ?_ _)); exact BK418.out) hb)
        have n12_ := mk0 (blk_below (by (with_reducible repeat (first | refine kN ?_ _ | refine kD ?_ | refine kA ?_ _)); exact BK419.out) hb)
        have n13_ := mk0 (blk_below (by (with_reducible repeat (first | refine kN ?_ _ | refine kD ?_ | refine kA ?_ _)); exact BK425.out) hb)
        have n14_ := mk0 (blk_below (by (with_reducible repeat (first | refine kN ?_ _ | refine kD ?_ | refine kA ?_ _)); exact BK431.out) hb)
        have n15_ := mk0 (blk_below (by (with_reducible repeat (first | refine kN ?_ _ | refine kD ?_ | refine kA ?_ _)); exact BK437.out) hb)
        have n16_ := mk0 (blk_below (by (with_reducible repeat (first | refine kN ?_ _ | refine kD ?_ | refine kA ?_ _)); exact BK443.out) hb)
        have n17_ := mk0 (blk_below (by (with_reducible repeat (first | refine kN ?_ _ | refine kD ?_ | refine kA ?_ _)); exact BK451.out) hb)
        have n18_ := mk0 (blk_below (by (with_reducible repeat (first | refine kN ?_ _ | refine kD ?_ | refine kA ?_ _)); exact BK457.out) hb)
        have n19_ := mk0 (below_step (by repeat (first | (with_reducible first | exact HB.out | apply bA | apply bN | apply bD | refine bS ?_ GE409.out | refine bS ?_ GE418.out | refine bS ?_ GE419.out | refine bS ?_ GE425.out | refine bS ?_ GE431.out | refine bS ?_ GE437.out | refine bS ?_ GE443.out | refine bS ?_ GE451.out | refine bS ?_ GE457.out) | exact HB.out)) hb)
        clear HO408
        clear HO413
        clear HO417
        clear HO423
        clear HO429
        clear HO435
        clear HO441
        clear HO447
        clear HO450
        clear HO455
        clear BK409
        clear BK418
        clear BK419
        clear BK425
        clear BK431
        clear BK437
        clear BK443
        clear BK451
        clear BK457
        clear HB
        have HO408 := n0_
        have HO413 := n1_
        have HO417 := n2_
        have HO423 := n3_
        have HO429 := n4_
        have HO435 := n5_
        have HO441 := n6_
        have HO447 := n7_
        have HO450 := n8_
        have HO455 := n9_
        have BK409 := n10_
        have BK418 := n11_
        have BK419 := n12_
        have BK425 := n13_
        have BK431 := n14_
        have BK437 := n15_
        have BK443 := n16_
        have BK451 := n17_
        have BK457 := n18_
        have HB := n19_
        clear n0_ n1_ n2_ n3_ n4_ n5_ n6_ n7_ n8_ n9_ n10_ n11_ n12_ n13_ n14_ n15_ n16_ n17_ n18_ n19_
        (try clear hb)
        (try clear hb2)
        (try clear hk)
        (try clear hi)
        refine hK.out _ _ ⟨(blk_cell BK409.out 0).trans rfl, (blk_cell BK409.out 1).trans rfl, (blk_cell BK425.out 0).trans rfl, (blk_cell BK425.out 1).trans rfl, (blk_cell BK431.out 0).trans rfl, (blk_cell BK431.out 1).trans rfl, (blk_cell BK437.out 0).trans rfl, (blk_cell BK437.out 1).trans rfl, (blk_cell BK443.out 0).trans rfl, (blk_cell BK443.out 1).trans rfl, (blk_cell BK451.out 0).trans rfl, (blk_cell BK451.out 1).trans rfl, (blk_cell BK457.out 0).trans rfl, (blk_cell BK457.out 1).trans rfl⟩ (fun hHeld => ?_)
        clear hK K
        refine norm_ (a' := ?_) ?_ ?_
        rotate_left
        ·show Act.put _ (some 98) _ = _
         simp only [Act.put, List.setIfInBounds_toArray, List.set_cons_zero, List.set_cons_succ, i64_w, i32_w]
         rfl
        refine one_ (i := 40) (N := some 101) #[true, true, true, true, true, true, true, true, true, true, true, true, true, true, true, true, true, true, true, true, true, true, true, true, true, true, true, true, true, true, true, true, true, true, true, true, true, true, true, true, true, false, false, false] rfl rfl (one_of HT_.out (by kernel_rfl)) (by decide) (fun K hK => ?_)
        refine goes_ Try.func29 (by kernel_rfl) rfl #[.agg #[.int .i64 t452, .slice Ao102 t453.length co102], .string t456] (by rfl) rfl rfl (by (try simp only [List.map_toArray, List.map_cons, List.map_nil]); first | done | rfl) ?_
        with_reducible refine (spec_CoefOf.calls k t452 _ _ t453 t456 t465 _ ?side1 ?side2 A25.out).mono ?_
        (case side1 => repeat (first | exact (Kd.R_reads' HO455.out).2.2 | (with_reducible refine cA ?_ _) | (with_reducible refine cN ?_ _) | (with_reducible refine cD ?_)))
        (case side2 => exact (Kd.R_reads' HO455.out).2.1)
        rintro e w113 ⟨rfl, hb⟩
        refine ⟨_, rfl, ?_⟩
        have n0_ := mk0 (Kd.R_below (by (with_reducible repeat (first | apply Kd.R_alloc | apply Kd.R_drewN | apply Kd.R_drew)); exact HO408.out) hb)
        have n1_ := mk0 (Kd.R_below (by (with_reducible repeat (first | apply Kd.R_alloc | apply Kd.R_drewN | apply Kd.R_drew)); exact HO413.out) hb)
        have n2_ := mk0 (Kd.R_below (by (with_reducible repeat (first | apply Kd.R_alloc | apply Kd.R_drewN | apply Kd.R_drew)); exact HO417.out) hb)
        have n3_ := mk0 (Kd.R_below (by (with_reducible repeat (first | apply Kd.R_alloc | apply Kd.R_drewN | apply Kd.R_drew)); exact HO423.out) hb)
        have n4_ := mk0 (Kd.R_below (by (with_reducible repeat (first | apply Kd.R_alloc | apply Kd.R_drewN | apply Kd.R_drew)); exact HO429.out) hb)
        have n5_ := mk0 (Kd.R_below (by (with_reducible repeat (first | apply Kd.R_alloc | apply Kd.R_drewN | apply Kd.R_drew)); exact HO435.out) hb)
        have n6_ := mk0 (Kd.R_below (by (with_reducible repeat (first | apply Kd.R_alloc | apply Kd.R_drewN | apply Kd.R_drew)); exact HO441.out) hb)
        have n7_ := mk0 (Kd.R_below (by (with_reducible repeat (first | apply Kd.R_alloc | apply Kd.R_drewN | apply Kd.R_drew)); exact HO447.out) hb)
        have n8_ := mk0 (Kd.R_below (by (with_reducible repeat (first | apply Kd.R_alloc | apply Kd.R_drewN | apply Kd.R_drew)); exact HO450.out) hb)
        have n9_ := mk0 (Kd.R_below (by (with_reducible repeat (first | apply Kd.R_alloc | apply Kd.R_drewN | apply Kd.R_drew)); exact HO455.out) hb)
        have n10_ := mk0 (blk_below (by (with_reducible repeat (first | refine kN ?_ _ | refine kD ?_ | refine kA ?_ _)); exact BK409.out) hb)
        have n11_ := mk0 (blk_below (by (with_reducible repeat (first | refine kN ?_ _ | refine kD ?_ | refine kA ?_ _)); exact BK418.out) hb)
        have n12_ := mk0 (blk_below (by (with_reducible repeat (first | refine kN ?_ _ | refine kD ?_ | refine kA ?_ _)); exact BK419.out) hb)
        have n13_ := mk0 (blk_below (by (with_reducible repeat (first | refine kN ?_ _ | refine kD ?_ | refine kA ?_ _)); exact BK425.out) hb)
        have n14_ := mk0 (blk_below (by (with_reducible repeat (first | refine kN ?_ _ | refine kD ?_ | refine kA ?_ _)); exact BK431.out) hb)
        have n15_ := mk0 (blk_below (by (with_reducible repeat (first | refine kN ?_ _ | refine kD ?_ | refine kA ?_ _)); exact BK437.out) hb)
        have n16_ := mk0 (blk_below (by (with_reducible repeat (first | refine kN ?_ _ | refine kD ?_ | refine kA ?_ _)); exact BK443.out) hb)
        have n17_ := mk0 (blk_below (by (with_reducible repeat (first | refine kN ?_ _ | refine kD ?_ | refine kA ?_ _)); exact BK451.out) hb)
        have n18_ := mk0 (blk_below (by (with_reducible repeat (first | refine kN ?_ _ | refine kD ?_ | refine kA ?_ _)); exact BK457.out) hb)
        have n19_ := mk0 (below_step (by repeat (first | (with_reducible first | exact HB.out | apply bA | apply bN | apply bD | refine bS ?_ GE409.out | refine bS ?_ GE418.out | refine bS ?_ GE419.out | refine bS ?_ GE425.out | refine bS ?_ GE431.out | refine bS ?_ GE437.out | refine bS ?_ GE443.out | refine bS ?_ GE451.out | refine bS ?_ GE457.out) | exact HB.out)) hb)
        clear HO408
        clear HO413
        clear HO417
        clear HO423
        clear HO429
        clear HO435
        clear HO441
        clear HO447
        clear HO450
        clear HO455
        clear BK409
        clear BK418
        clear BK419
        clear BK425
        clear BK431
        clear BK437
        clear BK443
        clear BK451
        clear BK457
        clear HB
        have HO408 := n0_
        have HO413 := n1_
        have HO417 := n2_
        have HO423 := n3_
        have HO429 := n4_
        have HO435 := n5_
        have HO441 := n6_
        have HO447 := n7_
        have HO450 := n8_
        have HO455 := n9_
        have BK409 := n10_
        have BK418 := n11_
        have BK419 := n12_
        have BK425 := n13_
        have BK431 := n14_
        have BK437 := n15_
        have BK443 := n16_
        have BK451 := n17_
        have BK457 := n18_
        have HB := n19_
        clear n0_ n1_ n2_ n3_ n4_ n5_ n6_ n7_ n8_ n9_ n10_ n11_ n12_ n13_ n14_ n15_ n16_ n17_ n18_ n19_
        (try clear hb)
        (try clear hb2)
        (try clear hk)
        (try clear hi)
        refine hK.out _ _ ⟨(blk_cell BK409.out 0).trans rfl, (blk_cell BK409.out 1).trans rfl, (blk_cell BK425.out 0).trans rfl, (blk_cell BK425.out 1).trans rfl, (blk_cell BK431.out 0).trans rfl, (blk_cell BK431.out 1).trans rfl, (blk_cell BK437.out 0).trans rfl, (blk_cell BK437.out 1).trans rfl, (blk_cell BK443.out 0).trans rfl, (blk_cell BK443.out 1).trans rfl, (blk_cell BK451.out 0).trans rfl, (blk_cell BK451.out 1).trans rfl, (blk_cell BK457.out 0).trans rfl, (blk_cell BK457.out 1).trans rfl⟩ (fun hHeld => ?_)
        clear hK K
        refine norm_ (a' := ?_) ?_ ?_
        rotate_left
        ·show Act.put _ (some 101) _ = _
         simp only [Act.put, List.setIfInBounds_toArray, List.set_cons_zero, List.set_cons_succ, i64_w, i32_w]
         rfl
        refine pure_ (i := 41) (N := some 102) (v := ?_) (a' := ?_) #[true, true, true, true, true, true, true, true, true, true, true, true, true, true, true, true, true, true, true, true, true, true, true, true, true, true, true, true, true, true, true, true, true, true, true, true, true, true, true, true, true, true, false, false] rfl rfl (any_of HT_.out (by kernel_rfl)) (fun _ _ _ h => h) (Or.inl ⟨by rfl, ?_⟩) ?_ ?_
        rotate_left
        ·intro w'
         go_simp
         with_reducible rfl
        rotate_left
        ·simp only [Act.put, List.setIfInBounds_toArray, List.set_cons_zero, List.set_cons_succ, i64_w, i32_w]
         rfl
        refine pure_ (i := 42) (N := some 103) (v := ?_) (a' := ?_) #[true, true, true, true, true, true, true, true, true, true, true, true, true, true, true, true, true, true, true, true, true, true, true, true, true, true, true, true, true, true, true, true, true, true, true, true, true, true, true, true, true, true, true, false] rfl rfl (any_of HT_.out (by kernel_rfl)) (fun _ _ _ h => h) (Or.inl ⟨by rfl, ?_⟩) ?_ ?_
        rotate_left
        ·intro w'
         go_simp
         with_reducible rfl
        rotate_left
        ·simp only [Act.put, List.setIfInBounds_toArray, List.set_cons_zero, List.set_cons_succ, i64_w, i32_w]
         rfl
        refine pure_ (i := 43) (N := some 2) (v := ?_) (a' := ?_) #[true, true, true, true, true, true, true, true, true, true, true, true, true, true, true, true, true, true, true, true, true, true, true, true, true, true, true, true, true, true, true, true, true, true, true, true, true, true, true, true, true, true, true, true] rfl rfl (any_of HT_.out (by kernel_rfl)) (fun _ _ _ h => h) (Or.inl ⟨by rfl, ?_⟩) ?_ ?_
        rotate_left
        ·intro w'
         go_simp
         with_reducible rfl
        rotate_left
        ·simp only [Act.put, List.setIfInBounds_toArray, List.set_cons_zero, List.set_cons_succ, i64_w, i32_w]
         rfl
        refine done_ (done_of HT_.out (by kernel_rfl)) ?_
        try go_wp2
        go_ret
        exact ⟨by first | rfl | (simp [errW_none, errW_some] <;> rfl) | (simp [*, errW_none, errW_some] <;> rfl), by repeat (first | (with_reducible first | exact HB.out | apply bA | apply bN | apply bD | refine bS ?_ GE409.out | refine bS ?_ GE418.out | refine bS ?_ GE419.out | refine bS ?_ GE425.out | refine bS ?_ GE431.out | refine bS ?_ GE437.out | refine bS ?_ GE443.out | refine bS ?_ GE451.out | refine bS ?_ GE457.out) | exact HB.out)⟩
       ·rw [if_neg c23] at H
        have c23b0 : (t462 == t463) = false := beq_eq_false_iff_ne.mpr c23
        have c23b1 : (t462 != t463) = true := bne_iff_ne.mpr c23
        exact absurd H (by simp)
      ·replace c20 := Bool.eq_false_iff.mpr c20
       subst c20
       rw [if_neg (show ¬ (false = true) by decide)] at H
       exact absurd H (by simp)
     ·rw [if_neg c18] at H
      have c18b0 : (t436 == t442) = false := by simpa using c18
      (try (have c18b1 : decide (t436 = t442) = false := by simpa using c18))
      (try (have c18b2 : (t436 == t442) = false := by simpa using c18))
      (try (have c18b3 : ¬ (t436 = t442) := by simpa using c18))
      clear c18
      exact absurd H (by simp)
    ·replace c17 := Bool.eq_false_iff.mpr c17
     subst c17
     rw [if_neg (show ¬ (false = true) by decide)] at H
     exact absurd H (by simp)
   ·rw [if_neg c15] at H
    have c15b0 : (t424 == t430) = false := by simpa using c15
    (try (have c15b1 : decide (t424 = t430) = false := by simpa using c15))
    (try (have c15b2 : (t424 == t430) = false := by simpa using c15))
    (try (have c15b3 : ¬ (t424 = t430) := by simpa using c15))
    clear c15
    exact absurd H (by simp)
  ·rw [if_neg c14] at H
   have c14b0 : (t458 == t459) = false := by simpa using c14
   (try (have c14b1 : decide (t458 = t459) = false := by simpa using c14))
   (try (have c14b2 : (t458 == t459) = false := by simpa using c14))
   (try (have c14b3 : ¬ (t458 = t459) := by simpa using c14))
   clear c14
   exact absurd H (by simp)

/-- THE ONE PURE STATEMENT of laws_FnAffsBent: yours. -/
def laws_FnAffsBent.Pure : Prop := ∀ (l0 : List Int), l0.length ≤ maxLen → l0.length * 1 ≤ 140737488351232 → (∀ x ∈ l0, (Lit.int .u8 x).wf = true) → ∃ k, laws_FnAffsBent.f k l0 = some true
theorem laws_FnAffsBent.walk (P : laws_FnAffsBent.Pure) (a0 : Option Addr) (len0 cap0 : Nat) (z0 : List Int) (w : World) (w0 : (a0 = none ∧ len0 = 0 ∧ cap0 = 0 ∧ z0 = []) ∨ ∃ x, a0 = some x ∧ len0 ≤ cap0 ∧ cap0 ≤ maxLen ∧ z0.length = cap0 ∧ (∀ i, i < z0.length → w.cell? (x.add i) = some (.int .u8 (z0.getD i 0))) ∧ ∀ n ∈ z0, (Lit.int .u8 n).wf = true) (y0 : len0 * 1 ≤ 140737488351232) :
  Calls Try.prog 6 #[.slice a0 len0 cap0] w fun e w' => e = .returned (.bool true) ∧ Below w.heap.size w w' := by
 obtain ⟨l0, rfl, hr0, hm0, hw0, hc0⟩ := ReadsInt.ofRowC w0
 obtain ⟨k, h⟩ := P l0 hm0 y0 hw0
 refine (laws_FnAffsBent.calls k _ _ l0 true w (Kd.C_of_reads (d := (0 : Int)) (h1 := fun _ => rfl) hr0) hc0 h).mono ?_
 rintro e w' ⟨rfl, hd⟩
 exact ⟨rfl, hd⟩

end Go.Proofs.Ytmomablfmhkppaa.PFnAffsBent
