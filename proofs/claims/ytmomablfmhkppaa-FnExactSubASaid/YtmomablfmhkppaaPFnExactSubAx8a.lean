-- The functions of a law as plain Lean functions, each with its contract: written by a program of this session.
import Derived.Test.YtmomablfmhkppaaPFnExactSubAx0
import Derived.Test.YtmomablfmhkppaaPFnExactSubAx1
import Derived.Test.YtmomablfmhkppaaPFnExactSubAx2
import Derived.Test.YtmomablfmhkppaaPFnExactSubAx6
import Derived.Test.YtmomablfmhkppaaPFnExactSubAx7
namespace Go.Proofs.Ytmomablfmhkppaa.PFnExactSubA
open Go.RowKit Go.Proofs.YtmomablfmhkppaaW.PrintWords Go.Proofs.YtmomablfmhkppaaW.PrintLast Go.Proofs.YtmomablfmhkppaaW.PrintMore
attribute [local go_sem] max2_int min2_int max_two min_two max_three min_three max_four min_four   -- for this text's walks alone
set_option linter.unusedVariables false
set_option linter.unusedSimpArgs false

/-! ### laws_FnExactSubA: function 4 -/
mutual
def laws_FnExactSubA.j0 : Nat → Bool → Bool → Bool → Int → List (S92) → Int → List (S92) → Int → List (S70) → Int → List (S70) → Int → List (S70) → Int → List (S70) → Option (Bool)
 | 0, _, _, _, _, _, _, _, _, _, _, _, _, _, _, _ => none
 | k + 1, x7, x11, x53, x252000, x252001, x253000, x253001, x269000, x269001, x274000, x274001, x279000, x279001, x285000, x285001 => if x53 = true then (none) else ((laws_toAff.f k x252000 x252001).bind fun bt286 => ((laws_eqAff.f k x274000 x274001 bt286.1 bt286.2).bind fun t290 => (if t290 = true then ((laws_toAff.f k x253000 x253001).bind fun bt291 => ((laws_eqAff.f k x279000 x279001 bt291.1 bt291.2).bind fun t295 => (if t295 = true then ((laws_markAff.f k x274000 x274001 1).bind fun bt296 => ((laws_markAff.f k x279000 x279001 bt296.1).bind fun bt298 => (if bt298.1 < 0 then (laws_FnExactSubA.j1 k x7 true x252000 x252001 x253000 x253001 x269000 x269001 x285000 x285001) else ((laws_eqAff.f k x285000 x285001 x269000 x269001).bind fun t300 => (if t300 = true then (laws_FnExactSubA.j1 k x7 (x11 != x7) x252000 x252001 x253000 x253001 x269000 x269001 x285000 x285001) else (laws_FnExactSubA.j1 k x7 true x252000 x252001 x253000 x253001 x269000 x269001 x285000 x285001)))))) else (none)))) else (none))))
def laws_FnExactSubA.j1 : Nat → Bool → Bool → Int → List (S92) → Int → List (S92) → Int → List (S70) → Int → List (S70) → Option (Bool)
 | 0, _, _, _, _, _, _, _, _, _, _ => none
 | k + 1, x7, x82, x252000, x252001, x253000, x253001, x269000, x269001, x285000, x285001 => if x82 = true then (none) else ((laws_markAff.f k x285000 x285001 1).bind fun bt301 => ((laws_heldAff.f k x285000 bt301.2 1).bind fun t303 => (if t303 < 0 then (none) else (if t303 = bt301.1 then ((laws_toAff.f k x252000 x252001).bind fun bt304 => ((laws_toAff.f k x253000 x253001).bind fun bt308 => ((impl_SubA.f k bt304.1 bt304.2 bt308.1 bt308.2).bind fun bt312 => ((laws_eqAff.f k bt312.1 bt312.2.1 x269000 x269001).bind fun t318 => (if t318 = true then (laws_FnExactSubA.j2 k bt301.1 (bt312.2.2 != x7) x285000 bt301.2) else (laws_FnExactSubA.j2 k bt301.1 true x285000 bt301.2)))))) else (none)))))
def laws_FnExactSubA.j2 : Nat → Int → Bool → Int → List (S70) → Option (Bool)
 | 0, _, _, _, _ => none
 | k + 1, x13, x110, x285000, x285001 => if x110 = true then (none) else ((laws_heldAff.f k x285000 x285001 1).bind fun t319 => (if t319 < 0 then (none) else (if t319 = x13 then (some true) else (none))))
end
def laws_FnExactSubA.f (k : Nat) (a0_0 : Int) (l0_1 : List (S92)) (a1_0 : Int) (l1_1 : List (S92)) : Option (Bool) := (laws_szAff.f k a0_0 l0_1 1048576).bind fun t253 => (if t253 < 0 then (some true) else ((laws_szAff.f k a1_0 l1_1 t253).bind fun t254 => (if t254 < 0 then (some true) else ((laws_toAff.f k a0_0 l0_1).bind fun bt255 => ((laws_toAff.f k a1_0 l1_1).bind fun bt259 => ((spec_SubA.f k bt255.1 bt255.2 bt259.1 bt259.2).bind fun bt263 => ((laws_toAff.f k a0_0 l0_1).bind fun bt269 => ((laws_toAff.f k a1_0 l1_1).bind fun bt274 => ((impl_SubA.f k bt269.1 bt269.2 bt274.1 bt274.2).bind fun bt279 => ((laws_eqAff.f k bt279.1 bt279.2.1 bt263.1 bt263.2.1).bind fun t285 => (if t285 = true then (laws_FnExactSubA.j0 k bt263.2.2 bt279.2.2 (bt279.2.2 != bt263.2.2) a0_0 l0_1 a1_0 l1_1 bt263.1 bt263.2.1 bt269.1 bt269.2 bt274.1 bt274.2 bt279.1 bt279.2.1) else (laws_FnExactSubA.j0 k bt263.2.2 bt279.2.2 true a0_0 l0_1 a1_0 l1_1 bt263.1 bt263.2.1 bt269.1 bt269.2 bt274.1 bt274.2 bt279.1 bt279.2.1))))))))))))
theorem laws_FnExactSubA.mono_l : ∀ k, (∀ y0 y1 y2 y3 y4 y5 y6 y7 y8 y9 y10 y11 y12 y13 y14, LeO (laws_FnExactSubA.j0 k y0 y1 y2 y3 y4 y5 y6 y7 y8 y9 y10 y11 y12 y13 y14) (laws_FnExactSubA.j0 (k + 1) y0 y1 y2 y3 y4 y5 y6 y7 y8 y9 y10 y11 y12 y13 y14)) ∧ (∀ y0 y1 y2 y3 y4 y5 y6 y7 y8 y9, LeO (laws_FnExactSubA.j1 k y0 y1 y2 y3 y4 y5 y6 y7 y8 y9) (laws_FnExactSubA.j1 (k + 1) y0 y1 y2 y3 y4 y5 y6 y7 y8 y9)) ∧ (∀ y0 y1 y2 y3, LeO (laws_FnExactSubA.j2 k y0 y1 y2 y3) (laws_FnExactSubA.j2 (k + 1) y0 y1 y2 y3))
 | 0 => ⟨fun _ _ _ _ _ _ _ _ _ _ _ _ _ _ _ r h => by simp [laws_FnExactSubA.j0] at h, fun _ _ _ _ _ _ _ _ _ _ r h => by simp [laws_FnExactSubA.j1] at h, fun _ _ _ _ r h => by simp [laws_FnExactSubA.j2] at h⟩
 | k + 1 => by
  obtain ⟨ih0, ih1, ih2⟩ := laws_FnExactSubA.mono_l k
  refine ⟨?_, ?_, ?_⟩
  ·intro y0 y1 y2 y3 y4 y5 y6 y7 y8 y9 y10 y11 y12 y13 y14
   unfold laws_FnExactSubA.j0
   repeat' first
   | (with_reducible exact ih0 _ _ _ _ _ _ _ _ _ _ _ _ _ _ _)
   | (with_reducible exact ih1 _ _ _ _ _ _ _ _ _ _)
   | (with_reducible exact ih2 _ _ _ _)
   | (with_reducible exact impl_SubA.mono _ _ _ _ _)
   | (with_reducible exact laws_eqAff.mono _ _ _ _ _)
   | (with_reducible exact laws_heldAff.mono _ _ _ _)
   | (with_reducible exact laws_markAff.mono _ _ _ _)
   | (with_reducible exact laws_szAff.mono _ _ _ _)
   | (with_reducible exact laws_toAff.mono _ _ _)
   | (with_reducible exact spec_SubA.mono _ _ _ _ _)
   | (with_reducible exact LeO.refl _)
   | (with_reducible exact LeO.none _)
   | (with_reducible refine LeO.ite ?_ ?_)
   | (with_reducible refine LeO.bind ?_ (fun _ => ?_))
   | exact ih0 _ _ _ _ _ _ _ _ _ _ _ _ _ _ _
   | exact ih1 _ _ _ _ _ _ _ _ _ _
   | exact ih2 _ _ _ _
   | exact impl_SubA.mono _ _ _ _ _
   | exact laws_eqAff.mono _ _ _ _ _
   | exact laws_heldAff.mono _ _ _ _
   | exact laws_markAff.mono _ _ _ _
   | exact laws_szAff.mono _ _ _ _
   | exact laws_toAff.mono _ _ _
   | exact spec_SubA.mono _ _ _ _ _
   | exact LeO.none _
   | refine LeO.ite ?_ ?_
   | refine LeO.bind ?_ (fun _ => ?_)
  ·intro y0 y1 y2 y3 y4 y5 y6 y7 y8 y9
   unfold laws_FnExactSubA.j1
   repeat' first
   | (with_reducible exact ih0 _ _ _ _ _ _ _ _ _ _ _ _ _ _ _)
   | (with_reducible exact ih1 _ _ _ _ _ _ _ _ _ _)
   | (with_reducible exact ih2 _ _ _ _)
   | (with_reducible exact impl_SubA.mono _ _ _ _ _)
   | (with_reducible exact laws_eqAff.mono _ _ _ _ _)
   | (with_reducible exact laws_heldAff.mono _ _ _ _)
   | (with_reducible exact laws_markAff.mono _ _ _ _)
   | (with_reducible exact laws_szAff.mono _ _ _ _)
   | (with_reducible exact laws_toAff.mono _ _ _)
   | (with_reducible exact spec_SubA.mono _ _ _ _ _)
   | (with_reducible exact LeO.refl _)
   | (with_reducible exact LeO.none _)
   | (with_reducible refine LeO.ite ?_ ?_)
   | (with_reducible refine LeO.bind ?_ (fun _ => ?_))
   | exact ih0 _ _ _ _ _ _ _ _ _ _ _ _ _ _ _
   | exact ih1 _ _ _ _ _ _ _ _ _ _
   | exact ih2 _ _ _ _
   | exact impl_SubA.mono _ _ _ _ _
   | exact laws_eqAff.mono _ _ _ _ _
   | exact laws_heldAff.mono _ _ _ _
   | exact laws_markAff.mono _ _ _ _
   | exact laws_szAff.mono _ _ _ _
   | exact laws_toAff.mono _ _ _
   | exact spec_SubA.mono _ _ _ _ _
   | exact LeO.none _
   | refine LeO.ite ?_ ?_
   | refine LeO.bind ?_ (fun _ => ?_)
  ·intro y0 y1 y2 y3
   unfold laws_FnExactSubA.j2
   repeat' first
   | (with_reducible exact ih0 _ _ _ _ _ _ _ _ _ _ _ _ _ _ _)
   | (with_reducible exact ih1 _ _ _ _ _ _ _ _ _ _)
   | (with_reducible exact ih2 _ _ _ _)
   | (with_reducible exact impl_SubA.mono _ _ _ _ _)
   | (with_reducible exact laws_eqAff.mono _ _ _ _ _)
   | (with_reducible exact laws_heldAff.mono _ _ _ _)
   | (with_reducible exact laws_markAff.mono _ _ _ _)
   | (with_reducible exact laws_szAff.mono _ _ _ _)
   | (with_reducible exact laws_toAff.mono _ _ _)
   | (with_reducible exact spec_SubA.mono _ _ _ _ _)
   | (with_reducible exact LeO.refl _)
   | (with_reducible exact LeO.none _)
   | (with_reducible refine LeO.ite ?_ ?_)
   | (with_reducible refine LeO.bind ?_ (fun _ => ?_))
   | exact ih0 _ _ _ _ _ _ _ _ _ _ _ _ _ _ _
   | exact ih1 _ _ _ _ _ _ _ _ _ _
   | exact ih2 _ _ _ _
   | exact impl_SubA.mono _ _ _ _ _
   | exact laws_eqAff.mono _ _ _ _ _
   | exact laws_heldAff.mono _ _ _ _
   | exact laws_markAff.mono _ _ _ _
   | exact laws_szAff.mono _ _ _ _
   | exact laws_toAff.mono _ _ _
   | exact spec_SubA.mono _ _ _ _ _
   | exact LeO.none _
   | refine LeO.ite ?_ ?_
   | refine LeO.bind ?_ (fun _ => ?_)
theorem laws_FnExactSubA.mono : ∀ a0 a1 a2 a3 k, LeO (laws_FnExactSubA.f k a0 a1 a2 a3) (laws_FnExactSubA.f (k + 1) a0 a1 a2 a3) := by
 intro a0 a1 a2 a3 k
 obtain ⟨ih0, ih1, ih2⟩ := laws_FnExactSubA.mono_l k
 unfold laws_FnExactSubA.f
 repeat' first
   | (with_reducible exact ih0 _ _ _ _ _ _ _ _ _ _ _ _ _ _ _)
   | (with_reducible exact ih1 _ _ _ _ _ _ _ _ _ _)
   | (with_reducible exact ih2 _ _ _ _)
   | (with_reducible exact impl_SubA.mono _ _ _ _ _)
   | (with_reducible exact laws_eqAff.mono _ _ _ _ _)
   | (with_reducible exact laws_heldAff.mono _ _ _ _)
   | (with_reducible exact laws_markAff.mono _ _ _ _)
   | (with_reducible exact laws_szAff.mono _ _ _ _)
   | (with_reducible exact laws_toAff.mono _ _ _)
   | (with_reducible exact spec_SubA.mono _ _ _ _ _)
   | (with_reducible exact LeO.refl _)
   | (with_reducible exact LeO.none _)
   | (with_reducible refine LeO.ite ?_ ?_)
   | (with_reducible refine LeO.bind ?_ (fun _ => ?_))
   | exact ih0 _ _ _ _ _ _ _ _ _ _ _ _ _ _ _
   | exact ih1 _ _ _ _ _ _ _ _ _ _
   | exact ih2 _ _ _ _
   | exact impl_SubA.mono _ _ _ _ _
   | exact laws_eqAff.mono _ _ _ _ _
   | exact laws_heldAff.mono _ _ _ _
   | exact laws_markAff.mono _ _ _ _
   | exact laws_szAff.mono _ _ _ _
   | exact laws_toAff.mono _ _ _
   | exact spec_SubA.mono _ _ _ _ _
   | exact LeO.none _
   | refine LeO.ite ?_ ?_
   | refine LeO.bind ?_ (fun _ => ?_)
def laws_FnExactSubA.T8 : Bool × List (List Nat × List Nat) := (true, [([], []), ([0], [0]), ([], []), ([2, 1], [2]), ([1, 3, 3], [1, 3]), ([4], [4]), ([5], [5]), ([5], [5]), ([], []), ([8, 6, 4, 0, 1, 2, 3, 4, 5, 6, 8], [6, 8]), ([7, 9, 0, 1, 2, 3, 4, 5, 6, 7, 8, 9], [7])])
def laws_FnExactSubA.B8 : List Nat := [0, 1, 0, 7, 15, 31, 63, 63, 0, 383, 1023]
theorem laws_FnExactSubA.tab8 : rtab .any (opsOf Try.f4 8) = laws_FnExactSubA.T8 := by kernel_rfl
theorem laws_FnExactSubA.bits8 : waitsOk laws_FnExactSubA.T8.2 laws_FnExactSubA.B8 = true := by kernel_rfl
def laws_FnExactSubA.T31 : Bool × List (List Nat × List Nat) := (true, [([], []), ([0], [0]), ([], []), ([2, 1], [2]), ([1, 3, 3], [1, 3]), ([4], [4]), ([5], [5]), ([5], [5]), ([], []), ([8, 6, 4, 0, 1, 2, 3, 4, 5, 6, 8], [6, 8]), ([7, 9, 0, 1, 2, 3, 4, 5, 6, 7, 8, 9], [7])])
def laws_FnExactSubA.B31 : List Nat := [0, 1, 0, 7, 15, 31, 63, 63, 0, 383, 1023]
theorem laws_FnExactSubA.tab31 : rtab .any (opsOf Try.f4 31) = laws_FnExactSubA.T31 := by kernel_rfl
theorem laws_FnExactSubA.bits31 : waitsOk laws_FnExactSubA.T31.2 laws_FnExactSubA.B31 = true := by kernel_rfl
end Go.Proofs.Ytmomablfmhkppaa.PFnExactSubA
