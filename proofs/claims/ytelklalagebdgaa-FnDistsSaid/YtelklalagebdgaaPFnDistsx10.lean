-- The functions of a law as plain Lean functions, each with its contract: written by a program of this session.
import Derived.Test.YtelklalagebdgaaPFnDistsx0
import Derived.Test.YtelklalagebdgaaPFnDistsx1
import Derived.Test.YtelklalagebdgaaPFnDistsx3
import Derived.Test.YtelklalagebdgaaPFnDistsx4
import Derived.Test.YtelklalagebdgaaPFnDistsx6
import Derived.Test.YtelklalagebdgaaPFnDistsx9
namespace Go.Proofs.Ytelklalagebdgaa.PFnDists
open Go.RowKit Go.Proofs.YtelklalagebdgaaW.PrintWords Go.Proofs.YtelklalagebdgaaW.PrintLast Go.Proofs.YtelklalagebdgaaW.PrintMore
attribute [local go_sem] max2_int min2_int max_two min_two max_three min_three max_four min_four   -- for this text's walks alone
set_option linter.unusedVariables false
set_option linter.unusedSimpArgs false

/-! ### laws_FnDists: function 4 -/
mutual
def laws_FnDists.j0 : Nat → List (S33) → Int → Bool → Bool → Int → List (S73) → Int → List (S73) → Option (Bool)
  | 0, _, _, _, _, _, _, _, _ => none
  | k + 1, x5, x6, x7, x35, x333000, x333001, x334000, x334001 => if x35 = true then (none) else (if 0 < (x5.length : Int) then (laws_FnDists.l0 k x5 x6 x7 ((rd_T33 x5 0).f1) x333000 x333001 x334000 x334001) else (none))
def laws_FnDists.l0 : Nat → List (S33) → Int → Bool → Int → Int → List (S73) → Int → List (S73) → Option (Bool)
  | 0, _, _, _, _, _, _, _, _ => none
  | k + 1, x5, x6, x7, x8, x333000, x333001, x334000, x334001 => if 0 < (x5.length : Int) then (if x8 ≤ ((rd_T33 x5 0).f2) then (laws_FnDists.j2 k x5 x6 x7 x8 x7 x333000 x333001 x334000 x334001) else (laws_FnDists.j2 k x5 x6 x7 x8 false x333000 x333001 x334000 x334001)) else (none)
def laws_FnDists.j2 : Nat → List (S33) → Int → Bool → Int → Bool → Int → List (S73) → Int → List (S73) → Option (Bool)
  | 0, _, _, _, _, _, _, _, _, _ => none
  | k + 1, x5, x6, x7, x8, x48, x333000, x333001, x334000, x334001 => if x48 = true then (if 0 < (x5.length : Int) then (laws_FnDists.l1 k x5 x6 x7 x8 ((rd_T33 x5 0).f1) x333000 x333001 x334000 x334001) else (none)) else (if x7 = true then (some true) else (some (x6 == 0)))
def laws_FnDists.l1 : Nat → List (S33) → Int → Bool → Int → Int → Int → List (S73) → Int → List (S73) → Option (Bool)
  | 0, _, _, _, _, _, _, _, _, _ => none
  | k + 1, x5, x6, x7, x8, x9, x333000, x333001, x334000, x334001 => if 0 < (x5.length : Int) then (if x9 ≤ ((rd_T33 x5 0).f2) then ((impl_MeetAt.f k x333000 x333001 x334000 x334001 (⟨#[105]⟩ : ByteArray) x8 x9 x5).bind fun t342 => (if (t342 != ((wrap64 (x9 - x8)) == x6)) = true then (none) else (laws_FnDists.l1 k x5 x6 x7 x8 (wrap64 (x9 + 1)) x333000 x333001 x334000 x334001))) else (laws_FnDists.l0 k x5 x6 x7 (wrap64 (x8 + 1)) x333000 x333001 x334000 x334001)) else (none)
end
def laws_FnDists.f (k : Nat) (l0 : List Int) : Option (Bool) := (laws_big.f l0).bind fun t320 => (if t320 = true then (some true) else ((spec_DrawMeets.f k l0).bind fun bt321 => ((impl_DistOf.f k bt321.1 bt321.2.1 bt321.2.2.1 bt321.2.2.2.1 (⟨#[105]⟩ : ByteArray)).bind fun bt334 => ((laws_distOf.f k bt321.1 bt321.2.1 bt321.2.2.1 bt321.2.2.2.1).bind fun t336 => (if bt334.1 = t336 then ((laws_hasDist.f k bt321.1 bt321.2.1 bt321.2.2.1 bt321.2.2.2.1).bind fun t337 => (laws_FnDists.j0 k bt321.2.2.2.2 bt334.1 bt334.2 (bt334.2 != t337) bt321.1 bt321.2.1 bt321.2.2.1 bt321.2.2.2.1)) else (laws_FnDists.j0 k bt321.2.2.2.2 bt334.1 bt334.2 true bt321.1 bt321.2.1 bt321.2.2.1 bt321.2.2.2.1))))))
theorem laws_FnDists.mono_l : ∀ k, (∀ y0 y1 y2 y3 y4 y5 y6 y7, LeO (laws_FnDists.j0 k y0 y1 y2 y3 y4 y5 y6 y7) (laws_FnDists.j0 (k + 1) y0 y1 y2 y3 y4 y5 y6 y7)) ∧ (∀ y0 y1 y2 y3 y4 y5 y6 y7, LeO (laws_FnDists.l0 k y0 y1 y2 y3 y4 y5 y6 y7) (laws_FnDists.l0 (k + 1) y0 y1 y2 y3 y4 y5 y6 y7)) ∧ (∀ y0 y1 y2 y3 y4 y5 y6 y7 y8, LeO (laws_FnDists.j2 k y0 y1 y2 y3 y4 y5 y6 y7 y8) (laws_FnDists.j2 (k + 1) y0 y1 y2 y3 y4 y5 y6 y7 y8)) ∧ (∀ y0 y1 y2 y3 y4 y5 y6 y7 y8, LeO (laws_FnDists.l1 k y0 y1 y2 y3 y4 y5 y6 y7 y8) (laws_FnDists.l1 (k + 1) y0 y1 y2 y3 y4 y5 y6 y7 y8))
  | 0 => ⟨fun _ _ _ _ _ _ _ _ r h => by simp [laws_FnDists.j0] at h, fun _ _ _ _ _ _ _ _ r h => by simp [laws_FnDists.l0] at h, fun _ _ _ _ _ _ _ _ _ r h => by simp [laws_FnDists.j2] at h, fun _ _ _ _ _ _ _ _ _ r h => by simp [laws_FnDists.l1] at h⟩
  | k + 1 => by
    obtain ⟨ih0, ih1, ih2, ih3⟩ := laws_FnDists.mono_l k
    refine ⟨?_, ?_, ?_, ?_⟩
    · intro y0 y1 y2 y3 y4 y5 y6 y7
      unfold laws_FnDists.j0
      repeat' first
      | (with_reducible exact ih0 _ _ _ _ _ _ _ _)
      | (with_reducible exact ih1 _ _ _ _ _ _ _ _)
      | (with_reducible exact ih2 _ _ _ _ _ _ _ _ _)
      | (with_reducible exact ih3 _ _ _ _ _ _ _ _ _)
      | (with_reducible exact impl_DistOf.mono _ _ _ _ _ _)
      | (with_reducible exact impl_MeetAt.mono _ _ _ _ _ _ _ _ _)
      | (with_reducible exact laws_distOf.mono _ _ _ _ _)
      | (with_reducible exact laws_hasDist.mono _ _ _ _ _)
      | (with_reducible exact spec_DrawMeets.mono _ _)
      | (with_reducible exact LeO.refl _)
      | (with_reducible exact LeO.none _)
      | (with_reducible refine LeO.ite ?_ ?_)
      | (with_reducible refine LeO.bind ?_ (fun _ => ?_))
      | exact ih0 _ _ _ _ _ _ _ _
      | exact ih1 _ _ _ _ _ _ _ _
      | exact ih2 _ _ _ _ _ _ _ _ _
      | exact ih3 _ _ _ _ _ _ _ _ _
      | exact impl_DistOf.mono _ _ _ _ _ _
      | exact impl_MeetAt.mono _ _ _ _ _ _ _ _ _
      | exact laws_distOf.mono _ _ _ _ _
      | exact laws_hasDist.mono _ _ _ _ _
      | exact spec_DrawMeets.mono _ _
      | exact LeO.none _
      | refine LeO.ite ?_ ?_
      | refine LeO.bind ?_ (fun _ => ?_)
    · intro y0 y1 y2 y3 y4 y5 y6 y7
      unfold laws_FnDists.l0
      repeat' first
      | (with_reducible exact ih0 _ _ _ _ _ _ _ _)
      | (with_reducible exact ih1 _ _ _ _ _ _ _ _)
      | (with_reducible exact ih2 _ _ _ _ _ _ _ _ _)
      | (with_reducible exact ih3 _ _ _ _ _ _ _ _ _)
      | (with_reducible exact impl_DistOf.mono _ _ _ _ _ _)
      | (with_reducible exact impl_MeetAt.mono _ _ _ _ _ _ _ _ _)
      | (with_reducible exact laws_distOf.mono _ _ _ _ _)
      | (with_reducible exact laws_hasDist.mono _ _ _ _ _)
      | (with_reducible exact spec_DrawMeets.mono _ _)
      | (with_reducible exact LeO.refl _)
      | (with_reducible exact LeO.none _)
      | (with_reducible refine LeO.ite ?_ ?_)
      | (with_reducible refine LeO.bind ?_ (fun _ => ?_))
      | exact ih0 _ _ _ _ _ _ _ _
      | exact ih1 _ _ _ _ _ _ _ _
      | exact ih2 _ _ _ _ _ _ _ _ _
      | exact ih3 _ _ _ _ _ _ _ _ _
      | exact impl_DistOf.mono _ _ _ _ _ _
      | exact impl_MeetAt.mono _ _ _ _ _ _ _ _ _
      | exact laws_distOf.mono _ _ _ _ _
      | exact laws_hasDist.mono _ _ _ _ _
      | exact spec_DrawMeets.mono _ _
      | exact LeO.none _
      | refine LeO.ite ?_ ?_
      | refine LeO.bind ?_ (fun _ => ?_)
    · intro y0 y1 y2 y3 y4 y5 y6 y7 y8
      unfold laws_FnDists.j2
      repeat' first
      | (with_reducible exact ih0 _ _ _ _ _ _ _ _)
      | (with_reducible exact ih1 _ _ _ _ _ _ _ _)
      | (with_reducible exact ih2 _ _ _ _ _ _ _ _ _)
      | (with_reducible exact ih3 _ _ _ _ _ _ _ _ _)
      | (with_reducible exact impl_DistOf.mono _ _ _ _ _ _)
      | (with_reducible exact impl_MeetAt.mono _ _ _ _ _ _ _ _ _)
      | (with_reducible exact laws_distOf.mono _ _ _ _ _)
      | (with_reducible exact laws_hasDist.mono _ _ _ _ _)
      | (with_reducible exact spec_DrawMeets.mono _ _)
      | (with_reducible exact LeO.refl _)
      | (with_reducible exact LeO.none _)
      | (with_reducible refine LeO.ite ?_ ?_)
      | (with_reducible refine LeO.bind ?_ (fun _ => ?_))
      | exact ih0 _ _ _ _ _ _ _ _
      | exact ih1 _ _ _ _ _ _ _ _
      | exact ih2 _ _ _ _ _ _ _ _ _
      | exact ih3 _ _ _ _ _ _ _ _ _
      | exact impl_DistOf.mono _ _ _ _ _ _
      | exact impl_MeetAt.mono _ _ _ _ _ _ _ _ _
      | exact laws_distOf.mono _ _ _ _ _
      | exact laws_hasDist.mono _ _ _ _ _
      | exact spec_DrawMeets.mono _ _
      | exact LeO.none _
      | refine LeO.ite ?_ ?_
      | refine LeO.bind ?_ (fun _ => ?_)
    · intro y0 y1 y2 y3 y4 y5 y6 y7 y8
      unfold laws_FnDists.l1
      repeat' first
      | (with_reducible exact ih0 _ _ _ _ _ _ _ _)
      | (with_reducible exact ih1 _ _ _ _ _ _ _ _)
      | (with_reducible exact ih2 _ _ _ _ _ _ _ _ _)
      | (with_reducible exact ih3 _ _ _ _ _ _ _ _ _)
      | (with_reducible exact impl_DistOf.mono _ _ _ _ _ _)
      | (with_reducible exact impl_MeetAt.mono _ _ _ _ _ _ _ _ _)
      | (with_reducible exact laws_distOf.mono _ _ _ _ _)
      | (with_reducible exact laws_hasDist.mono _ _ _ _ _)
      | (with_reducible exact spec_DrawMeets.mono _ _)
      | (with_reducible exact LeO.refl _)
      | (with_reducible exact LeO.none _)
      | (with_reducible refine LeO.ite ?_ ?_)
      | (with_reducible refine LeO.bind ?_ (fun _ => ?_))
      | exact ih0 _ _ _ _ _ _ _ _
      | exact ih1 _ _ _ _ _ _ _ _
      | exact ih2 _ _ _ _ _ _ _ _ _
      | exact ih3 _ _ _ _ _ _ _ _ _
      | exact impl_DistOf.mono _ _ _ _ _ _
      | exact impl_MeetAt.mono _ _ _ _ _ _ _ _ _
      | exact laws_distOf.mono _ _ _ _ _
      | exact laws_hasDist.mono _ _ _ _ _
      | exact spec_DrawMeets.mono _ _
      | exact LeO.none _
      | refine LeO.ite ?_ ?_
      | refine LeO.bind ?_ (fun _ => ?_)
theorem laws_FnDists.mono : ∀ a0 k, LeO (laws_FnDists.f k a0) (laws_FnDists.f (k + 1) a0) := by
  intro a0 k
  obtain ⟨ih0, ih1, ih2, ih3⟩ := laws_FnDists.mono_l k
  unfold laws_FnDists.f
  repeat' first
      | (with_reducible exact ih0 _ _ _ _ _ _ _ _)
      | (with_reducible exact ih1 _ _ _ _ _ _ _ _)
      | (with_reducible exact ih2 _ _ _ _ _ _ _ _ _)
      | (with_reducible exact ih3 _ _ _ _ _ _ _ _ _)
      | (with_reducible exact impl_DistOf.mono _ _ _ _ _ _)
      | (with_reducible exact impl_MeetAt.mono _ _ _ _ _ _ _ _ _)
      | (with_reducible exact laws_distOf.mono _ _ _ _ _)
      | (with_reducible exact laws_hasDist.mono _ _ _ _ _)
      | (with_reducible exact spec_DrawMeets.mono _ _)
      | (with_reducible exact LeO.refl _)
      | (with_reducible exact LeO.none _)
      | (with_reducible refine LeO.ite ?_ ?_)
      | (with_reducible refine LeO.bind ?_ (fun _ => ?_))
      | exact ih0 _ _ _ _ _ _ _ _
      | exact ih1 _ _ _ _ _ _ _ _
      | exact ih2 _ _ _ _ _ _ _ _ _
      | exact ih3 _ _ _ _ _ _ _ _ _
      | exact impl_DistOf.mono _ _ _ _ _ _
      | exact impl_MeetAt.mono _ _ _ _ _ _ _ _ _
      | exact laws_distOf.mono _ _ _ _ _
      | exact laws_hasDist.mono _ _ _ _ _
      | exact spec_DrawMeets.mono _ _
      | exact LeO.none _
      | refine LeO.ite ?_ ?_
      | refine LeO.bind ?_ (fun _ => ?_)
set_option maxHeartbeats 8000000 in
set_option maxRecDepth 100000 in
theorem laws_FnDists.calls (k : Nat) (A0 : Option Addr) (c0 : Nat) (l0 : List Int) (r : Bool) (w : World) (hr0 : Kd.C (Kd.int .u8) w A0 l0.length l0) (hc0 : l0.length ≤ c0) (h : laws_FnDists.f k l0 = some r) :
    Calls Try.prog 4 #[.slice A0 l0.length c0] w fun e w' => e = .returned (.bool r) ∧ Below w.heap.size w w' := by
  have hu26 := Try.underlying26
  have HR0 := Aside0.mk hr0
  have HC0 := Aside0.mk hc0
  clear hr0 hc0
  have HB := Aside0.mk (Below.refl w.heap.size w)
  have H : ((laws_big.f l0).bind fun t320 => (if t320 = true then (some true) else ((spec_DrawMeets.f k l0).bind fun bt321 => ((impl_DistOf.f k bt321.1 bt321.2.1 bt321.2.2.1 bt321.2.2.2.1 (⟨#[105]⟩ : ByteArray)).bind fun bt334 => ((laws_distOf.f k bt321.1 bt321.2.1 bt321.2.2.1 bt321.2.2.2.1).bind fun t336 => (if bt334.1 = t336 then ((laws_hasDist.f k bt321.1 bt321.2.1 bt321.2.2.1 bt321.2.2.2.1).bind fun t337 => (laws_FnDists.j0 k bt321.2.2.2.2 bt334.1 bt334.2 (bt334.2 != t337) bt321.1 bt321.2.1 bt321.2.2.1 bt321.2.2.2.1)) else (laws_FnDists.j0 k bt321.2.2.2.2 bt334.1 bt334.2 true bt321.1 bt321.2.1 bt321.2.2.1 bt321.2.2.2.1))))))) = some r := h
  clear h
  replace H := Option.bind_eq_some_iff.mp H
  obtain ⟨t320, A20, H⟩ := H
  replace H : (if t320 = true then (some true) else ((spec_DrawMeets.f k l0).bind fun bt321 => ((impl_DistOf.f k bt321.1 bt321.2.1 bt321.2.2.1 bt321.2.2.2.1 (⟨#[105]⟩ : ByteArray)).bind fun bt334 => ((laws_distOf.f k bt321.1 bt321.2.1 bt321.2.2.1 bt321.2.2.2.1).bind fun t336 => (if bt334.1 = t336 then ((laws_hasDist.f k bt321.1 bt321.2.1 bt321.2.2.1 bt321.2.2.2.1).bind fun t337 => (laws_FnDists.j0 k bt321.2.2.2.2 bt334.1 bt334.2 (bt334.2 != t337) bt321.1 bt321.2.1 bt321.2.2.1 bt321.2.2.2.1)) else (laws_FnDists.j0 k bt321.2.2.2.2 bt334.1 bt334.2 true bt321.1 bt321.2.1 bt321.2.2.1 bt321.2.2.2.1)))))) = some r := H
  have A2 := Aside0.mk A20
  clear A20
  by_cases c3 : t320 = true
  · subst c3
    have H1 : (some true) = some r := by rw [if_pos rfl] at H; exact H
    clear H
    have H := H1
    clear H1
    obtain rfl := Option.some.inj H
    go_enter Try.func4, Try.ntmps4
    go_wp2_with (first | ((with_reducible refine gate_callee (f := 9) rfl ?_); refine goesL_ (some 11) rfl rfl Try.func9 (by kernel_rfl) rfl #[.slice A0 l0.length c0] rfl (by (try simp only [List.map_toArray, List.map_cons, List.map_nil]); first | done | rfl | (simp only [List.length_drop, List.length_take]; rfl)) ?_; (with_reducible refine (laws_big.calls _ _ l0 true _ ?side1 ?side2 A2.out).mono ?_); (case side1 => repeat (first | exact HR0.out | (with_reducible refine Kd.C_alloc ?_ _) | (with_reducible refine Kd.C_drewN ?_ _) | (with_reducible refine Kd.C_drew ?_))); (case side2 => exact HC0.out); rintro e w' ⟨rfl, ⟨nd, rfl⟩⟩; refine ⟨_, rfl, ?_⟩))
    go_ret
    exact ⟨by first | rfl | (simp [errW_none, errW_some] <;> rfl) | (simp [*, errW_none, errW_some] <;> rfl), by repeat (first | (with_reducible first | exact HB.out | apply below_alloc | apply pw_below_drewN | apply below_drew1) | exact HB.out)⟩
  · replace c3 := Bool.eq_false_iff.mpr c3
    subst c3
    have H1 : ((spec_DrawMeets.f k l0).bind fun bt321 => ((impl_DistOf.f k bt321.1 bt321.2.1 bt321.2.2.1 bt321.2.2.2.1 (⟨#[105]⟩ : ByteArray)).bind fun bt334 => ((laws_distOf.f k bt321.1 bt321.2.1 bt321.2.2.1 bt321.2.2.2.1).bind fun t336 => (if bt334.1 = t336 then ((laws_hasDist.f k bt321.1 bt321.2.1 bt321.2.2.1 bt321.2.2.2.1).bind fun t337 => (laws_FnDists.j0 k bt321.2.2.2.2 bt334.1 bt334.2 (bt334.2 != t337) bt321.1 bt321.2.1 bt321.2.2.1 bt321.2.2.2.1)) else (laws_FnDists.j0 k bt321.2.2.2.2 bt334.1 bt334.2 true bt321.1 bt321.2.1 bt321.2.2.1 bt321.2.2.2.1))))) = some r := by rw [if_neg (show ¬ (false = true) by decide)] at H; exact H
    clear H
    have H := H1
    clear H1
    replace H := Option.bind_eq_some_iff.mp H
    obtain ⟨⟨t321, t322, t325, t326, t329⟩, A40, H⟩ := H
    replace H : ((impl_DistOf.f k t321 t322 t325 t326 (⟨#[105]⟩ : ByteArray)).bind fun bt334 => ((laws_distOf.f k t321 t322 t325 t326).bind fun t336 => (if bt334.1 = t336 then ((laws_hasDist.f k t321 t322 t325 t326).bind fun t337 => (laws_FnDists.j0 k t329 bt334.1 bt334.2 (bt334.2 != t337) t321 t322 t325 t326)) else (laws_FnDists.j0 k t329 bt334.1 bt334.2 true t321 t322 t325 t326)))) = some r := H
    have A4 := Aside0.mk A40
    clear A40
    replace H := Option.bind_eq_some_iff.mp H
    obtain ⟨⟨t334, t335⟩, A50, H⟩ := H
    replace H : ((laws_distOf.f k t321 t322 t325 t326).bind fun t336 => (if t334 = t336 then ((laws_hasDist.f k t321 t322 t325 t326).bind fun t337 => (laws_FnDists.j0 k t329 t334 t335 (t335 != t337) t321 t322 t325 t326)) else (laws_FnDists.j0 k t329 t334 t335 true t321 t322 t325 t326))) = some r := H
    have A5 := Aside0.mk A50
    clear A50
    have HC6 := Aside0.mk H
    clear H
    go_enter Try.func4, Try.ntmps4
    go_upto_region 5 with (first | ((with_reducible refine gate_callee (f := 9) rfl ?_); refine goesL_ (some 11) rfl rfl Try.func9 (by kernel_rfl) rfl #[.slice A0 l0.length c0] rfl (by (try simp only [List.map_toArray, List.map_cons, List.map_nil]); first | done | rfl | (simp only [List.length_drop, List.length_take]; rfl)) ?_; (with_reducible refine (laws_big.calls _ _ l0 false _ ?side1 ?side2 A2.out).mono ?_); (case side1 => repeat (first | exact HR0.out | (with_reducible refine Kd.C_alloc ?_ _) | (with_reducible refine Kd.C_drewN ?_ _) | (with_reducible refine Kd.C_drew ?_))); (case side2 => exact HC0.out); rintro e w' ⟨rfl, ⟨nd, rfl⟩⟩; refine ⟨_, rfl, ?_⟩) | ((with_reducible refine gate_callee (f := 18) rfl ?_); refine goesL_ (some 14) rfl rfl Try.func18 (by kernel_rfl) rfl #[.slice A0 l0.length c0] rfl (by (try simp only [List.map_toArray, List.map_cons, List.map_nil]); first | done | rfl | (simp only [List.length_drop, List.length_take]; rfl)) ?_; (with_reducible refine (spec_DrawMeets.calls k _ _ l0 t321 t322 t325 t326 t329 _ ?side1 ?side2 A4.out).mono ?_); (case side1 => repeat (first | exact HR0.out | (with_reducible refine Kd.C_alloc ?_ _) | (with_reducible refine Kd.C_drewN ?_ _) | (with_reducible refine Kd.C_drew ?_))); (case side2 => exact HC0.out); rintro e w7 ⟨v323, v327, v330, rfl, ho0, ho1, ho2, hb⟩; refine ⟨_, rfl, ?_⟩; have n0_ := Aside0.mk (Kd.R_lower ho0 (below_size (by repeat (first | (with_reducible first | exact HB.out | apply below_alloc | apply pw_below_drewN | apply below_drew1) | exact HB.out)))); have n1_ := Aside0.mk (Kd.R_lower ho1 (below_size (by repeat (first | (with_reducible first | exact HB.out | apply below_alloc | apply pw_below_drewN | apply below_drew1) | exact HB.out)))); have n2_ := Aside0.mk (Kd.R_lower ho2 (below_size (by repeat (first | (with_reducible first | exact HB.out | apply below_alloc | apply pw_below_drewN | apply below_drew1) | exact HB.out)))); have n3_ := Aside0.mk (below_step (by repeat (first | (with_reducible first | exact HB.out | apply below_alloc | apply pw_below_drewN | apply below_drew1) | exact HB.out)) hb); clear HB; have HO324 := n0_; have HO328 := n1_; have HO331 := n2_; have HB := n3_; clear n0_ n1_ n2_ n3_; (try clear hb); (try clear hb2); (try clear hk); (try clear hi); (try clear ho0); (try clear ho1); (try clear ho2)) | ((with_reducible refine gate_dst (N := 3) rfl ?_); refine box_event ?hg (N := 3) ?hd (cs := #[.int .i64 0, .slice none 0 0]) (t := 26) ?hr ?_; (case hd => rfl); (case hg => rfl); (case hr => first | (go_simp; done) | (go_simp; rfl)); intro gb332 hg w8 hbox hb; have n0_ := Aside0.mk (Kd.R_below (by (with_reducible repeat (first | apply Kd.R_alloc | apply Kd.R_drewN | apply Kd.R_drew)); exact HO324.out) hb); have n1_ := Aside0.mk (Kd.R_below (by (with_reducible repeat (first | apply Kd.R_alloc | apply Kd.R_drewN | apply Kd.R_drew)); exact HO328.out) hb); have n2_ := Aside0.mk (Kd.R_below (by (with_reducible repeat (first | apply Kd.R_alloc | apply Kd.R_drewN | apply Kd.R_drew)); exact HO331.out) hb); have n3_ := Aside0.mk (below_step (by repeat (first | (with_reducible first | exact HB.out | apply below_alloc | apply pw_below_drewN | apply below_drew1) | exact HB.out)) hb); have n4_ := Aside0.mk (hbox); have n5_ := Aside0.mk ((by rw [hg]; exact (below_size (by repeat (first | (with_reducible first | exact HB.out | apply below_alloc | apply pw_below_drewN | apply below_drew1) | exact HB.out))) : w.heap.size ≤ gb332)); have n6_ := Aside0.mk ((by rw [hg]; exact (below_size (by repeat (first | (with_reducible first | exact HB.out | apply below_alloc | apply pw_below_drewN | apply below_drew1) | exact HB.out))) : w.heap.size ≤ gb332)); clear HO324; clear HO328; clear HO331; clear HB; have HO324 := n0_; have HO328 := n1_; have HO331 := n2_; have HB := n3_; have BK332 := n4_; have GW332 := n5_; have GE332 := n6_; clear n0_ n1_ n2_ n3_ n4_ n5_ n6_; clear hb hbox hg) | ((with_reducible refine gate_dst (N := 4) rfl ?_); refine box_event ?hg (N := 4) ?hd (cs := #[.int .i64 0, .slice none 0 0]) (t := 26) ?hr ?_; (case hd => rfl); (case hg => rfl); (case hr => first | (go_simp; done) | (go_simp; rfl)); intro gb333 hg w9 hbox hb; have n0_ := Aside0.mk (Kd.R_below (by (with_reducible repeat (first | apply Kd.R_alloc | apply Kd.R_drewN | apply Kd.R_drew)); exact HO324.out) hb); have n1_ := Aside0.mk (Kd.R_below (by (with_reducible repeat (first | apply Kd.R_alloc | apply Kd.R_drewN | apply Kd.R_drew)); exact HO328.out) hb); have n2_ := Aside0.mk (Kd.R_below (by (with_reducible repeat (first | apply Kd.R_alloc | apply Kd.R_drewN | apply Kd.R_drew)); exact HO331.out) hb); have n3_ := Aside0.mk (blk_below (g := gb332) (o := .cells #[.int .i64 0, .slice none 0 0] 26 (0, 0)) (by (with_reducible repeat (first | refine blk_drewN ?_ _ | refine blk_drew ?_ | refine blk_alloc ?_ _)); exact BK332.out) hb); have n4_ := Aside0.mk (below_step (by repeat (first | (with_reducible first | exact HB.out | apply below_alloc | apply pw_below_drewN | apply below_drew1 | refine below_set ?_ GE332.out) | exact HB.out)) hb); have n5_ := Aside0.mk (hbox); have n6_ := Aside0.mk ((by rw [hg]; exact (below_size (by repeat (first | (with_reducible first | exact HB.out | apply below_alloc | apply pw_below_drewN | apply below_drew1 | refine below_set ?_ GE332.out) | exact HB.out))) : w.heap.size ≤ gb333)); have n7_ := Aside0.mk ((by rw [hg]; exact (below_size (by repeat (first | (with_reducible first | exact HB.out | apply below_alloc | apply pw_below_drewN | apply below_drew1 | refine below_set ?_ GE332.out) | exact HB.out))) : w.heap.size ≤ gb333)); have n8_ := Aside0.mk ((by rw [hg]; exact Nat.ne_of_lt (blk_lt (g := gb332) (o := .cells #[.int .i64 0, .slice none 0 0] 26 (0, 0)) (by (with_reducible repeat (first | refine blk_drewN ?_ _ | refine blk_drew ?_ | refine blk_alloc ?_ _)); exact BK332.out)) : gb332 ≠ gb333)); have n9_ := Aside0.mk ((by rw [hg]; exact Nat.ne_of_gt (blk_lt (g := gb332) (o := .cells #[.int .i64 0, .slice none 0 0] 26 (0, 0)) (by (with_reducible repeat (first | refine blk_drewN ?_ _ | refine blk_drew ?_ | refine blk_alloc ?_ _)); exact BK332.out)) : gb333 ≠ gb332)); clear HO324; clear HO328; clear HO331; clear BK332; clear HB; have HO324 := n0_; have HO328 := n1_; have HO331 := n2_; have BK332 := n3_; have HB := n4_; have BK333 := n5_; have GW333 := n6_; have GE333 := n7_; have NB332_333 := n8_; have NB333_332 := n9_; clear n0_ n1_ n2_ n3_ n4_ n5_ n6_ n7_ n8_ n9_; clear hb hbox hg; have hnb10 := NB332_333.out; have hnc10 := NB333_332.out; have hcz11_0 : w9.cell? ⟨gb332, 0, none⟩ = some (.int .i64 0) := (blk_cell BK332.out 0).trans rfl; have hcz11_1 : w9.cell? ⟨gb332, 1, none⟩ = some (.slice none 0 0) := (blk_cell BK332.out 1).trans rfl; have hfz11_0 := blk_frozen BK332.out 0; have hfz11_1 := blk_frozen BK332.out 1; obtain ⟨Ao12, co12, eo12⟩ := Kd.R_slice HO324.out; subst eo12; have hcz13_0 : w9.cell? ⟨gb333, 0, none⟩ = some (.int .i64 0) := (blk_cell BK333.out 0).trans rfl; have hcz13_1 : w9.cell? ⟨gb333, 1, none⟩ = some (.slice none 0 0) := (blk_cell BK333.out 1).trans rfl; have hfz13_0 := blk_frozen BK333.out 0; have hfz13_1 := blk_frozen BK333.out 1; obtain ⟨Ao14, co14, eo14⟩ := Kd.R_slice HO328.out; subst eo14) | ((with_reducible refine gate_callee (f := 19) rfl ?_); refine goesL_ (some 21) rfl rfl Try.func19 (by kernel_rfl) rfl #[.agg #[.int .i64 t321, .slice Ao12 t322.length co12], .agg #[.int .i64 t325, .slice Ao14 t326.length co14], .string (⟨#[105]⟩ : ByteArray)] rfl (by (try simp only [List.map_toArray, List.map_cons, List.map_nil]); first | done | rfl | (simp only [List.length_drop, List.length_take]; rfl)) ?_; (with_reducible refine (impl_DistOf.calls k t321 _ _ t322 t325 _ _ t326 (⟨#[105]⟩ : ByteArray) t334 t335 _ ?side1 ?side2 ?side3 ?side4 A5.out).mono ?_); (case side1 => refine (Kd.R_reads' (e := 73) (base := w.heap.size) (ok := fun k_ => some k_ ≠ (.slice Ao14 t326.length co14 : Value).ownBlock) (n := t322.length) (c := co12) ?_).2.2; exact (by (with_reducible repeat (first | apply Kd.R_alloc | apply Kd.R_drewN | apply Kd.R_drew)); exact (Kd.R_mono (Kd.R_mono (Kd.R_far (p := ⟨gb333, 1, none⟩) (Kd.R_far (p := ⟨gb333, 0, none⟩) (Kd.R_far (p := ⟨gb332, 1, none⟩) (Kd.R_far (p := ⟨gb332, 0, none⟩) (Kd.R_types (Kd.R_types HO324.out BK332.out (by decide)) BK333.out (by decide)) (fun _ hk => hk.1.2) (.int .i64 t321)) (fun _ hk => hk.1.2) (.slice Ao12 t322.length co12)) (fun _ hk => hk.2) (.int .i64 t325)) (fun _ hk => hk.2) (.slice Ao14 t326.length co14)) (fun _ h_ => h_.1)) (fun _ h_ => h_.1)))); (case side2 => exact (Kd.R_reads' HO324.out).2.1); (case side3 => refine (Kd.R_reads' (e := 73) (base := w.heap.size) (ok := fun k_ => some k_ ≠ (.slice Ao12 t322.length co12 : Value).ownBlock) (n := t326.length) (c := co14) ?_).2.2; exact (by (with_reducible repeat (first | apply Kd.R_alloc | apply Kd.R_drewN | apply Kd.R_drew)); exact (Kd.R_mono (Kd.R_mono (Kd.R_far (p := ⟨gb333, 1, none⟩) (Kd.R_far (p := ⟨gb333, 0, none⟩) (Kd.R_far (p := ⟨gb332, 1, none⟩) (Kd.R_far (p := ⟨gb332, 0, none⟩) (Kd.R_types (Kd.R_types HO328.out BK332.out (by decide)) BK333.out (by decide)) (fun _ hk => hk.1.2) (.int .i64 t321)) (fun _ hk => hk.1.2) (.slice Ao12 t322.length co12)) (fun _ hk => hk.2) (.int .i64 t325)) (fun _ hk => hk.2) (.slice Ao14 t326.length co14)) (fun _ h_ => h_.1)) (fun _ h_ => h_.1)))); (case side4 => exact (Kd.R_reads' HO328.out).2.1); rintro e w15 ⟨rfl, hb⟩; refine ⟨_, rfl, ?_⟩; have n0_ := Aside0.mk (Kd.R_below (by (with_reducible repeat (first | apply Kd.R_alloc | apply Kd.R_drewN | apply Kd.R_drew)); exact (Kd.R_mono (Kd.R_mono (Kd.R_far (p := ⟨gb333, 1, none⟩) (Kd.R_far (p := ⟨gb333, 0, none⟩) (Kd.R_far (p := ⟨gb332, 1, none⟩) (Kd.R_far (p := ⟨gb332, 0, none⟩) (Kd.R_types (Kd.R_types HO324.out BK332.out (by decide)) BK333.out (by decide)) (fun _ hk => hk.1.2) (.int .i64 t321)) (fun _ hk => hk.1.2) (.slice Ao12 t322.length co12)) (fun _ hk => hk.2) (.int .i64 t325)) (fun _ hk => hk.2) (.slice Ao14 t326.length co14)) (fun _ h_ => h_.1)) (fun _ h_ => h_.1))) hb); have n1_ := Aside0.mk (Kd.R_below (by (with_reducible repeat (first | apply Kd.R_alloc | apply Kd.R_drewN | apply Kd.R_drew)); exact (Kd.R_mono (Kd.R_mono (Kd.R_far (p := ⟨gb333, 1, none⟩) (Kd.R_far (p := ⟨gb333, 0, none⟩) (Kd.R_far (p := ⟨gb332, 1, none⟩) (Kd.R_far (p := ⟨gb332, 0, none⟩) (Kd.R_types (Kd.R_types HO328.out BK332.out (by decide)) BK333.out (by decide)) (fun _ hk => hk.1.2) (.int .i64 t321)) (fun _ hk => hk.1.2) (.slice Ao12 t322.length co12)) (fun _ hk => hk.2) (.int .i64 t325)) (fun _ hk => hk.2) (.slice Ao14 t326.length co14)) (fun _ h_ => h_.1)) (fun _ h_ => h_.1))) hb); have n2_ := Aside0.mk (Kd.R_below (by (with_reducible repeat (first | apply Kd.R_alloc | apply Kd.R_drewN | apply Kd.R_drew)); exact (Kd.R_mono (Kd.R_mono (Kd.R_far (p := ⟨gb333, 1, none⟩) (Kd.R_far (p := ⟨gb333, 0, none⟩) (Kd.R_far (p := ⟨gb332, 1, none⟩) (Kd.R_far (p := ⟨gb332, 0, none⟩) (Kd.R_types (Kd.R_types HO331.out BK332.out (by decide)) BK333.out (by decide)) (fun _ hk => hk.1.2) (.int .i64 t321)) (fun _ hk => hk.1.2) (.slice Ao12 t322.length co12)) (fun _ hk => hk.2) (.int .i64 t325)) (fun _ hk => hk.2) (.slice Ao14 t326.length co14)) (fun _ h_ => h_.1)) (fun _ h_ => h_.1))) hb); have n3_ := Aside0.mk (blk_below (g := gb332) (o := .cells #[.int .i64 t321, .slice Ao12 t322.length co12] 26 (0, 0)) (by (with_reducible repeat (first | refine blk_drewN ?_ _ | refine blk_drew ?_ | refine blk_alloc ?_ _)); refine blk_far ?_ NB332_333.out _; (with_reducible repeat (first | refine blk_drewN ?_ _ | refine blk_drew ?_ | refine blk_alloc ?_ _)); refine blk_far ?_ NB332_333.out _; (with_reducible repeat (first | refine blk_drewN ?_ _ | refine blk_drew ?_ | refine blk_alloc ?_ _)); refine blk_put (cs := #[.int .i64 t321, .slice none 0 0]) ?_ 1 _ rfl; (with_reducible repeat (first | refine blk_drewN ?_ _ | refine blk_drew ?_ | refine blk_alloc ?_ _)); refine blk_put (cs := #[.int .i64 0, .slice none 0 0]) ?_ 0 _ rfl; (with_reducible repeat (first | refine blk_drewN ?_ _ | refine blk_drew ?_ | refine blk_alloc ?_ _)); exact BK332.out) hb); have n4_ := Aside0.mk (blk_below (g := gb333) (o := .cells #[.int .i64 t325, .slice Ao14 t326.length co14] 26 (0, 0)) (by (with_reducible repeat (first | refine blk_drewN ?_ _ | refine blk_drew ?_ | refine blk_alloc ?_ _)); refine blk_put (cs := #[.int .i64 t325, .slice none 0 0]) ?_ 1 _ rfl; (with_reducible repeat (first | refine blk_drewN ?_ _ | refine blk_drew ?_ | refine blk_alloc ?_ _)); refine blk_put (cs := #[.int .i64 0, .slice none 0 0]) ?_ 0 _ rfl; (with_reducible repeat (first | refine blk_drewN ?_ _ | refine blk_drew ?_ | refine blk_alloc ?_ _)); refine blk_far ?_ NB333_332.out _; (with_reducible repeat (first | refine blk_drewN ?_ _ | refine blk_drew ?_ | refine blk_alloc ?_ _)); refine blk_far ?_ NB333_332.out _; (with_reducible repeat (first | refine blk_drewN ?_ _ | refine blk_drew ?_ | refine blk_alloc ?_ _)); exact BK333.out) hb); have n5_ := Aside0.mk (below_step (by repeat (first | (with_reducible first | exact HB.out | apply below_alloc | apply pw_below_drewN | apply below_drew1 | refine below_set ?_ GE332.out | refine below_set ?_ GE333.out) | exact HB.out)) hb); clear HO324; clear HO328; clear HO331; clear BK332; clear BK333; clear HB; have HO324 := n0_; have HO328 := n1_; have HO331 := n2_; have BK332 := n3_; have BK333 := n4_; have HB := n5_; clear n0_ n1_ n2_ n3_ n4_ n5_; (try clear hb); (try clear hb2); (try clear hk); (try clear hi)))
    (try simp only [Act.put, List.setIfInBounds_toArray, List.set_cons_zero, List.set_cons_succ])
    go_cut [35] (fun v35 wc => ∃ (kq : Nat) (x35_5 : Bool), v35 = .bool x35_5 ∧ Aside0 (laws_FnDists.j0 kq t329 t334 t335 x35_5 t321 t322 t325 t326 = some r) ∧ Aside0 (kq ≤ k) ∧ Aside0 (Kd.R k33 33 wc w.heap.size (fun _ => True) v330 t329) ∧ Aside0 (Kd.R k73 73 wc w.heap.size (fun k_ => some k_ ≠ ((.slice Ao14 t326.length co14) : Value).ownBlock) (.slice Ao12 t322.length co12) t322) ∧ Aside0 (Kd.R k73 73 wc w.heap.size (fun k_ => some k_ ≠ ((.slice Ao12 t322.length co12) : Value).ownBlock) (.slice Ao14 t326.length co14) t326) ∧ Aside0 (wc.heap[gb332]? = some (.cells #[.int .i64 t321, (.slice Ao12 t322.length co12)] 26 (0, 0))) ∧ Aside0 (wc.heap[gb333]? = some (.cells #[.int .i64 t325, (.slice Ao14 t326.length co14)] 26 (0, 0))) ∧ Aside0 (Below w.heap.size w wc))
    case first =>
      have H := HC6.out
      clear HC6
      replace H := Option.bind_eq_some_iff.mp H
      obtain ⟨t336, A160, H⟩ := H
      replace H : (if t334 = t336 then ((laws_hasDist.f k t321 t322 t325 t326).bind fun t337 => (laws_FnDists.j0 k t329 t334 t335 (t335 != t337) t321 t322 t325 t326)) else (laws_FnDists.j0 k t329 t334 t335 true t321 t322 t325 t326)) = some r := H
      have A16 := Aside0.mk A160
      clear A160
      by_cases c17 : t334 = t336
      · rw [if_pos c17] at H
        have c17b0 : (t334 == t336) = true := beq_iff_eq.mpr c17
        have c17b1 : (t334 != t336) = false := bne_eq_false_iff_eq.mpr c17
        clear c17
        (first | rw [c17b0] | (simp only [i64_w, i32_w]; rw [c17b0]) | skip)
        replace H := Option.bind_eq_some_iff.mp H
        obtain ⟨t337, A180, H⟩ := H
        replace H : (laws_FnDists.j0 k t329 t334 t335 (t335 != t337) t321 t322 t325 t326) = some r := H
        have A18 := Aside0.mk A180
        clear A180
        have H' := Aside0.mk H
        clear H
        have hnb19 := NB332_333.out
        have hnc19 := NB333_332.out
        have hcz20_0 : w15.cell? ⟨gb332, 0, none⟩ = some (.int .i64 t321) := (blk_cell BK332.out 0).trans rfl
        have hcz20_1 : w15.cell? ⟨gb332, 1, none⟩ = some (.slice Ao12 t322.length co12) := (blk_cell BK332.out 1).trans rfl
        have hfz20_0 := blk_frozen BK332.out 0
        have hfz20_1 := blk_frozen BK332.out 1
        have hcz21_0 : w15.cell? ⟨gb333, 0, none⟩ = some (.int .i64 t325) := (blk_cell BK333.out 0).trans rfl
        have hcz21_1 : w15.cell? ⟨gb333, 1, none⟩ = some (.slice Ao14 t326.length co14) := (blk_cell BK333.out 1).trans rfl
        have hfz21_0 := blk_frozen BK333.out 0
        have hfz21_1 := blk_frozen BK333.out 1
        go_wp2_with (first | ((with_reducible refine gate_callee (f := 20) rfl ?_); refine goesL_ (some 27) rfl rfl Try.func20 (by kernel_rfl) rfl #[.agg #[.int .i64 t321, .slice Ao12 t322.length co12], .agg #[.int .i64 t325, .slice Ao14 t326.length co14]] rfl (by (try simp only [List.map_toArray, List.map_cons, List.map_nil]); first | done | rfl | (simp only [List.length_drop, List.length_take]; rfl)) ?_; (with_reducible refine (laws_distOf.calls k t321 _ _ t322 t325 _ _ t326 t336 _ ?side1 ?side2 ?side3 ?side4 A16.out).mono ?_); (case side1 => repeat (first | exact (Kd.R_reads' HO324.out).2.2 | (with_reducible refine Kd.C_alloc ?_ _) | (with_reducible refine Kd.C_drewN ?_ _) | (with_reducible refine Kd.C_drew ?_))); (case side2 => exact (Kd.R_reads' HO324.out).2.1); (case side3 => repeat (first | exact (Kd.R_reads' HO328.out).2.2 | (with_reducible refine Kd.C_alloc ?_ _) | (with_reducible refine Kd.C_drewN ?_ _) | (with_reducible refine Kd.C_drew ?_))); (case side4 => exact (Kd.R_reads' HO328.out).2.1); rintro e w22 ⟨rfl, hb⟩; refine ⟨_, rfl, ?_⟩; have n0_ := Aside0.mk (Kd.R_below (by (with_reducible repeat (first | apply Kd.R_alloc | apply Kd.R_drewN | apply Kd.R_drew)); exact HO324.out) hb); have n1_ := Aside0.mk (Kd.R_below (by (with_reducible repeat (first | apply Kd.R_alloc | apply Kd.R_drewN | apply Kd.R_drew)); exact HO328.out) hb); have n2_ := Aside0.mk (Kd.R_below (by (with_reducible repeat (first | apply Kd.R_alloc | apply Kd.R_drewN | apply Kd.R_drew)); exact HO331.out) hb); have n3_ := Aside0.mk (blk_below (g := gb332) (o := .cells #[.int .i64 t321, .slice Ao12 t322.length co12] 26 (0, 0)) (by (with_reducible repeat (first | refine blk_drewN ?_ _ | refine blk_drew ?_ | refine blk_alloc ?_ _)); exact BK332.out) hb); have n4_ := Aside0.mk (blk_below (g := gb333) (o := .cells #[.int .i64 t325, .slice Ao14 t326.length co14] 26 (0, 0)) (by (with_reducible repeat (first | refine blk_drewN ?_ _ | refine blk_drew ?_ | refine blk_alloc ?_ _)); exact BK333.out) hb); have n5_ := Aside0.mk (below_step (by repeat (first | (with_reducible first | exact HB.out | apply below_alloc | apply pw_below_drewN | apply below_drew1 | refine below_set ?_ GE332.out | refine below_set ?_ GE333.out) | exact HB.out)) hb); clear HO324; clear HO328; clear HO331; clear BK332; clear BK333; clear HB; have HO324 := n0_; have HO328 := n1_; have HO331 := n2_; have BK332 := n3_; have BK333 := n4_; have HB := n5_; clear n0_ n1_ n2_ n3_ n4_ n5_; (try clear hb); (try clear hb2); (try clear hk); (try clear hi); have hcz23_0 : w22.cell? ⟨gb332, 0, none⟩ = some (.int .i64 t321) := (blk_cell BK332.out 0).trans rfl; have hcz23_1 : w22.cell? ⟨gb332, 1, none⟩ = some (.slice Ao12 t322.length co12) := (blk_cell BK332.out 1).trans rfl; have hfz23_0 := blk_frozen BK332.out 0; have hfz23_1 := blk_frozen BK332.out 1; have hcz24_0 : w22.cell? ⟨gb333, 0, none⟩ = some (.int .i64 t325) := (blk_cell BK333.out 0).trans rfl; have hcz24_1 : w22.cell? ⟨gb333, 1, none⟩ = some (.slice Ao14 t326.length co14) := (blk_cell BK333.out 1).trans rfl; have hfz24_0 := blk_frozen BK333.out 0; have hfz24_1 := blk_frozen BK333.out 1) | (go_at_call 21; (with_reducible refine (laws_hasDist.calls k t321 _ _ t322 t325 _ _ t326 t337 _ ?side1 ?side2 ?side3 ?side4 A18.out).mono ?_); (case side1 => repeat (first | exact (Kd.R_reads' HO324.out).2.2 | (with_reducible refine Kd.C_alloc ?_ _) | (with_reducible refine Kd.C_drewN ?_ _) | (with_reducible refine Kd.C_drew ?_))); (case side2 => exact (Kd.R_reads' HO324.out).2.1); (case side3 => repeat (first | exact (Kd.R_reads' HO328.out).2.2 | (with_reducible refine Kd.C_alloc ?_ _) | (with_reducible refine Kd.C_drewN ?_ _) | (with_reducible refine Kd.C_drew ?_))); (case side4 => exact (Kd.R_reads' HO328.out).2.1); rintro e w25 ⟨rfl, hb⟩; have n0_ := Aside0.mk (Kd.R_below (by (with_reducible repeat (first | apply Kd.R_alloc | apply Kd.R_drewN | apply Kd.R_drew)); exact HO324.out) hb); have n1_ := Aside0.mk (Kd.R_below (by (with_reducible repeat (first | apply Kd.R_alloc | apply Kd.R_drewN | apply Kd.R_drew)); exact HO328.out) hb); have n2_ := Aside0.mk (Kd.R_below (by (with_reducible repeat (first | apply Kd.R_alloc | apply Kd.R_drewN | apply Kd.R_drew)); exact HO331.out) hb); have n3_ := Aside0.mk (blk_below (g := gb332) (o := .cells #[.int .i64 t321, .slice Ao12 t322.length co12] 26 (0, 0)) (by (with_reducible repeat (first | refine blk_drewN ?_ _ | refine blk_drew ?_ | refine blk_alloc ?_ _)); exact BK332.out) hb); have n4_ := Aside0.mk (blk_below (g := gb333) (o := .cells #[.int .i64 t325, .slice Ao14 t326.length co14] 26 (0, 0)) (by (with_reducible repeat (first | refine blk_drewN ?_ _ | refine blk_drew ?_ | refine blk_alloc ?_ _)); exact BK333.out) hb); have n5_ := Aside0.mk (below_step (by repeat (first | (with_reducible first | exact HB.out | apply below_alloc | apply pw_below_drewN | apply below_drew1 | refine below_set ?_ GE332.out | refine below_set ?_ GE333.out) | exact HB.out)) hb); clear HO324; clear HO328; clear HO331; clear BK332; clear BK333; clear HB; have HO324 := n0_; have HO328 := n1_; have HO331 := n2_; have BK332 := n3_; have BK333 := n4_; have HB := n5_; clear n0_ n1_ n2_ n3_ n4_ n5_; (try clear hb); (try clear hb2); (try clear hk); (try clear hi)))
        go_meet
        case rel => exact ⟨_, ((t335 != t337)), (by first | rfl | (simp; done) | (simp [*]; done)), H', ⟨by first | omega | exact Nat.le_refl _⟩, ⟨by (with_reducible repeat (first | apply Kd.R_alloc | apply Kd.R_drewN | apply Kd.R_drew)); exact HO331.out⟩, ⟨by (with_reducible repeat (first | apply Kd.R_alloc | apply Kd.R_drewN | apply Kd.R_drew)); exact HO324.out⟩, ⟨by (with_reducible repeat (first | apply Kd.R_alloc | apply Kd.R_drewN | apply Kd.R_drew)); exact HO328.out⟩, ⟨by (with_reducible repeat (first | refine blk_drewN ?_ _ | refine blk_drew ?_ | refine blk_alloc ?_ _)); exact BK332.out⟩, ⟨by (with_reducible repeat (first | refine blk_drewN ?_ _ | refine blk_drew ?_ | refine blk_alloc ?_ _)); exact BK333.out⟩, ⟨by repeat (first | (with_reducible first | exact HB.out | apply below_alloc | apply pw_below_drewN | apply below_drew1 | refine below_set ?_ GE332.out | refine below_set ?_ GE333.out) | exact HB.out)⟩⟩
      · rw [if_neg c17] at H
        have c17b0 : (t334 == t336) = false := beq_eq_false_iff_ne.mpr c17
        have c17b1 : (t334 != t336) = true := bne_iff_ne.mpr c17
        (first | rw [c17b0] | (simp only [i64_w, i32_w]; rw [c17b0]) | skip)
        have H' := Aside0.mk H
        clear H
        have hnb26 := NB332_333.out
        have hnc26 := NB333_332.out
        have hcz27_0 : w15.cell? ⟨gb332, 0, none⟩ = some (.int .i64 t321) := (blk_cell BK332.out 0).trans rfl
        have hcz27_1 : w15.cell? ⟨gb332, 1, none⟩ = some (.slice Ao12 t322.length co12) := (blk_cell BK332.out 1).trans rfl
        have hfz27_0 := blk_frozen BK332.out 0
        have hfz27_1 := blk_frozen BK332.out 1
        have hcz28_0 : w15.cell? ⟨gb333, 0, none⟩ = some (.int .i64 t325) := (blk_cell BK333.out 0).trans rfl
        have hcz28_1 : w15.cell? ⟨gb333, 1, none⟩ = some (.slice Ao14 t326.length co14) := (blk_cell BK333.out 1).trans rfl
        have hfz28_0 := blk_frozen BK333.out 0
        have hfz28_1 := blk_frozen BK333.out 1
        go_wp2_with (first | ((with_reducible refine gate_callee (f := 20) rfl ?_); refine goesL_ (some 27) rfl rfl Try.func20 (by kernel_rfl) rfl #[.agg #[.int .i64 t321, .slice Ao12 t322.length co12], .agg #[.int .i64 t325, .slice Ao14 t326.length co14]] rfl (by (try simp only [List.map_toArray, List.map_cons, List.map_nil]); first | done | rfl | (simp only [List.length_drop, List.length_take]; rfl)) ?_; (with_reducible refine (laws_distOf.calls k t321 _ _ t322 t325 _ _ t326 t336 _ ?side1 ?side2 ?side3 ?side4 A16.out).mono ?_); (case side1 => repeat (first | exact (Kd.R_reads' HO324.out).2.2 | (with_reducible refine Kd.C_alloc ?_ _) | (with_reducible refine Kd.C_drewN ?_ _) | (with_reducible refine Kd.C_drew ?_))); (case side2 => exact (Kd.R_reads' HO324.out).2.1); (case side3 => repeat (first | exact (Kd.R_reads' HO328.out).2.2 | (with_reducible refine Kd.C_alloc ?_ _) | (with_reducible refine Kd.C_drewN ?_ _) | (with_reducible refine Kd.C_drew ?_))); (case side4 => exact (Kd.R_reads' HO328.out).2.1); rintro e w29 ⟨rfl, hb⟩; refine ⟨_, rfl, ?_⟩; have n0_ := Aside0.mk (Kd.R_below (by (with_reducible repeat (first | apply Kd.R_alloc | apply Kd.R_drewN | apply Kd.R_drew)); exact HO324.out) hb); have n1_ := Aside0.mk (Kd.R_below (by (with_reducible repeat (first | apply Kd.R_alloc | apply Kd.R_drewN | apply Kd.R_drew)); exact HO328.out) hb); have n2_ := Aside0.mk (Kd.R_below (by (with_reducible repeat (first | apply Kd.R_alloc | apply Kd.R_drewN | apply Kd.R_drew)); exact HO331.out) hb); have n3_ := Aside0.mk (blk_below (g := gb332) (o := .cells #[.int .i64 t321, .slice Ao12 t322.length co12] 26 (0, 0)) (by (with_reducible repeat (first | refine blk_drewN ?_ _ | refine blk_drew ?_ | refine blk_alloc ?_ _)); exact BK332.out) hb); have n4_ := Aside0.mk (blk_below (g := gb333) (o := .cells #[.int .i64 t325, .slice Ao14 t326.length co14] 26 (0, 0)) (by (with_reducible repeat (first | refine blk_drewN ?_ _ | refine blk_drew ?_ | refine blk_alloc ?_ _)); exact BK333.out) hb); have n5_ := Aside0.mk (below_step (by repeat (first | (with_reducible first | exact HB.out | apply below_alloc | apply pw_below_drewN | apply below_drew1 | refine below_set ?_ GE332.out | refine below_set ?_ GE333.out) | exact HB.out)) hb); clear HO324; clear HO328; clear HO331; clear BK332; clear BK333; clear HB; have HO324 := n0_; have HO328 := n1_; have HO331 := n2_; have BK332 := n3_; have BK333 := n4_; have HB := n5_; clear n0_ n1_ n2_ n3_ n4_ n5_; (try clear hb); (try clear hb2); (try clear hk); (try clear hi)))
        go_meet
        case rel => exact ⟨_, (true), (by first | rfl | (simp; done) | (simp [*]; done)), H', ⟨by first | omega | exact Nat.le_refl _⟩, ⟨by (with_reducible repeat (first | apply Kd.R_alloc | apply Kd.R_drewN | apply Kd.R_drew)); exact HO331.out⟩, ⟨by (with_reducible repeat (first | apply Kd.R_alloc | apply Kd.R_drewN | apply Kd.R_drew)); exact HO324.out⟩, ⟨by (with_reducible repeat (first | apply Kd.R_alloc | apply Kd.R_drewN | apply Kd.R_drew)); exact HO328.out⟩, ⟨by (with_reducible repeat (first | refine blk_drewN ?_ _ | refine blk_drew ?_ | refine blk_alloc ?_ _)); exact BK332.out⟩, ⟨by (with_reducible repeat (first | refine blk_drewN ?_ _ | refine blk_drew ?_ | refine blk_alloc ?_ _)); exact BK333.out⟩, ⟨by repeat (first | (with_reducible first | exact HB.out | apply below_alloc | apply pw_below_drewN | apply below_drew1 | refine below_set ?_ GE332.out | refine below_set ?_ GE333.out) | exact HB.out)⟩⟩
    case rest =>
      clear HC6
      try clear c1
      try clear c2
      try clear p2
      try clear c3
      try clear c4
      try clear c9
      try clear c10
      try clear c17
      try clear c17b0
      try clear c17b1
      try clear c18
      try clear c19
      try clear c20
      try clear c26
      try clear hcz11_0
      try clear hcz11_1
      try clear hcz13_0
      try clear hcz13_1
      try clear hcz20_0
      try clear hcz20_1
      try clear hcz21_0
      try clear hcz21_1
      try clear hcz23_0
      try clear hcz23_1
      try clear hcz24_0
      try clear hcz24_1
      try clear hcz27_0
      try clear hcz27_1
      try clear hcz28_0
      try clear hcz28_1
      try clear hfz11_0
      try clear hfz11_1
      try clear hfz13_0
      try clear hfz13_1
      try clear hfz20_0
      try clear hfz20_1
      try clear hfz21_0
      try clear hfz21_1
      try clear hfz23_0
      try clear hfz23_1
      try clear hfz24_0
      try clear hfz24_1
      try clear hfz27_0
      try clear hfz27_1
      try clear hfz28_0
      try clear hfz28_1
      obtain ⟨kq, x35_5, rfl, HA, HJ5, HO_5, HO_333001, HO_334001, BK332, BK333, HB⟩ := hcut
      cases kq with
      | zero => exact absurd HA.out (by simp [laws_FnDists.j0])
      | succ kj5 =>
        have H := HA.out
        clear HA
        simp only [laws_FnDists.j0] at H
        by_cases c30 : x35_5 = true
        · subst c30
          have H1 : (none) = some r := by rw [if_pos rfl] at H; exact H
          clear H
          have H := H1
          clear H1
          exact absurd H (by simp)
        · replace c30 := Bool.eq_false_iff.mpr c30
          subst c30
          have H1 : (if 0 < (t329.length : Int) then (laws_FnDists.l0 kj5 t329 t334 t335 ((rd_T33 t329 0).f1) t321 t322 t325 t326) else (none)) = some r := by rw [if_neg (show ¬ (false = true) by decide)] at H; exact H
          clear H
          have H := H1
          clear H1
          by_cases c31 : 0 < (t329.length : Int)
          · rw [if_pos c31] at H
            have c31b0 : decide (0 < (t329.length : Int)) = true := decide_eq_true c31
            have c31b1 : decide (0 < t329.length) = true := decide_eq_true (by omega)
            clear c31
            have H' := Aside0.mk H
            clear H
            obtain ⟨Ao32, co32, eo32⟩ := Kd.R_slice HO_5.out
            subst eo32
            have p338 : 0 ≤ (0 : Int) := (by omega)
            have q338 : 0 < (t329.length : Int) := of_decide_eq_true (by first | (with_reducible assumption) | assumption)
            obtain ⟨ad338, e338, hx338_0, hx338_1, hx338_2⟩ := at_T33 (Kd.R_reads' HO_5.out).2.2 0 p338 q338
            cases e338
            have qi338 : (0 < t329.length) = True := eq_true (by omega)
            (try rw [show ((0 : Int)).toNat = 0 from rfl] at hx338_0)
            (try rw [show 0 * 3 = 0 from rfl] at hx338_0)
            (try rw [Addr.add_zero'] at hx338_0)
            (try rw [show ((0 : Int)).toNat = 0 from rfl] at hx338_1)
            (try rw [show 0 * 3 = 0 from rfl] at hx338_1)
            (try rw [Addr.add_zero'] at hx338_1)
            (try rw [show ((0 : Int)).toNat = 0 from rfl] at hx338_2)
            (try rw [show 0 * 3 = 0 from rfl] at hx338_2)
            (try rw [Addr.add_zero'] at hx338_2)
            replace p338 := eq_true p338
            replace q338 := eq_true q338
            go_wp2
            go_loopg [8] kj5 (fun kq v8 w' => ∃ (x8_2 : Int), v8 = .int .i64 x8_2 ∧ Aside0 (laws_FnDists.l0 kq t329 t334 t335 x8_2 t321 t322 t325 t326 = some r) ∧ Aside0 (kq ≤ kj5) ∧ Aside0 (Kd.R k33 33 w' w.heap.size (fun _ => True) (.slice (some ad338) t329.length co32) t329) ∧ Aside0 (Kd.R k73 73 w' w.heap.size (fun k_ => some k_ ≠ ((.slice Ao14 t326.length co14) : Value).ownBlock) (.slice Ao12 t322.length co12) t322) ∧ Aside0 (Kd.R k73 73 w' w.heap.size (fun k_ => some k_ ≠ ((.slice Ao12 t322.length co12) : Value).ownBlock) (.slice Ao14 t326.length co14) t326) ∧ Aside0 (w'.heap[gb332]? = some (.cells #[.int .i64 t321, (.slice Ao12 t322.length co12)] 26 (0, 0))) ∧ Aside0 (w'.heap[gb333]? = some (.cells #[.int .i64 t325, (.slice Ao14 t326.length co14)] 26 (0, 0))) ∧ Aside0 (Below w.heap.size w w'))
            case atStart => exact ⟨((rd_T33 t329 0).f1), (by first | rfl | (simp; done) | (simp [*]; done)), H', ⟨Nat.le_refl _⟩, ⟨by (with_reducible repeat (first | apply Kd.R_alloc | apply Kd.R_drewN | apply Kd.R_drew)); exact HO_5.out⟩, ⟨by (with_reducible repeat (first | apply Kd.R_alloc | apply Kd.R_drewN | apply Kd.R_drew)); exact HO_333001.out⟩, ⟨by (with_reducible repeat (first | apply Kd.R_alloc | apply Kd.R_drewN | apply Kd.R_drew)); exact HO_334001.out⟩, ⟨by (with_reducible repeat (first | refine blk_drewN ?_ _ | refine blk_drew ?_ | refine blk_alloc ?_ _)); exact BK332.out⟩, ⟨by (with_reducible repeat (first | refine blk_drewN ?_ _ | refine blk_drew ?_ | refine blk_alloc ?_ _)); exact BK333.out⟩, ⟨by repeat (first | (with_reducible first | exact HB.out | apply below_alloc | apply pw_below_drewN | apply below_drew1 | refine below_set ?_ GE332.out | refine below_set ?_ GE333.out) | exact HB.out)⟩⟩
            case round =>
              clear H'
              try clear c1
              try clear c2
              try clear p2
              try clear c3
              try clear p3
              try clear q3
              try clear hx3
              try clear qi3
              try clear c4
              try clear c9
              try clear c10
              try clear c17
              try clear c17b0
              try clear c17b1
              try clear c18
              try clear c19
              try clear c20
              try clear c26
              try clear c30
              try clear c31
              try clear c31b0
              try clear c31b1
              try clear hcz11_0
              try clear hcz11_1
              try clear hcz13_0
              try clear hcz13_1
              try clear hcz20_0
              try clear hcz20_1
              try clear hcz21_0
              try clear hcz21_1
              try clear hcz23_0
              try clear hcz23_1
              try clear hcz24_0
              try clear hcz24_1
              try clear hcz27_0
              try clear hcz27_1
              try clear hcz28_0
              try clear hcz28_1
              try clear hfz11_0
              try clear hfz11_1
              try clear hfz13_0
              try clear hfz13_1
              try clear hfz20_0
              try clear hfz20_1
              try clear hfz21_0
              try clear hfz21_1
              try clear hfz23_0
              try clear hfz23_1
              try clear hfz24_0
              try clear hfz24_1
              try clear hfz27_0
              try clear hfz27_1
              try clear hfz28_0
              try clear hfz28_1
              try clear hx338_0
              try clear hx338_1
              try clear hx338_2
              try clear p2
              try clear p338
              try clear q338
              obtain ⟨x8_2, rfl, HA, HK2, HO_5, HO_333001, HO_334001, BK332, BK333, HB⟩ := hrel
              cases gk with
              | zero => exact absurd HA.out (by simp [laws_FnDists.l0])
              | succ k2 =>
                have H := HA.out
                clear HA
                simp only [laws_FnDists.l0] at H
                have HC33 := Aside0.mk H
                clear H
                go_upto_region 8 with (fail)
                go_cut [48] (fun v48 wc => ∃ (kq : Nat) (x48_32 : Bool), v48 = .bool x48_32 ∧ Aside0 (laws_FnDists.j2 kq t329 t334 t335 x8_2 x48_32 t321 t322 t325 t326 = some r) ∧ Aside0 (kq ≤ k2) ∧ Aside0 (Kd.R k33 33 wc w.heap.size (fun _ => True) (.slice (some ad338) t329.length co32) t329) ∧ Aside0 (Kd.R k73 73 wc w.heap.size (fun k_ => some k_ ≠ ((.slice Ao14 t326.length co14) : Value).ownBlock) (.slice Ao12 t322.length co12) t322) ∧ Aside0 (Kd.R k73 73 wc w.heap.size (fun k_ => some k_ ≠ ((.slice Ao12 t322.length co12) : Value).ownBlock) (.slice Ao14 t326.length co14) t326) ∧ Aside0 (wc.heap[gb332]? = some (.cells #[.int .i64 t321, (.slice Ao12 t322.length co12)] 26 (0, 0))) ∧ Aside0 (wc.heap[gb333]? = some (.cells #[.int .i64 t325, (.slice Ao14 t326.length co14)] 26 (0, 0))) ∧ Aside0 (Below w.heap.size w wc))
                case first =>
                  have H := HC33.out
                  clear HC33
                  by_cases c34 : 0 < (t329.length : Int)
                  · rw [if_pos c34] at H
                    have c34b0 : decide (0 < (t329.length : Int)) = true := decide_eq_true c34
                    have c34b1 : decide (0 < t329.length) = true := decide_eq_true (by omega)
                    clear c34
                    (first | rw [c34b0] | (simp only [i64_w, i32_w]; rw [c34b0]) | skip)
                    by_cases c35 : x8_2 ≤ ((rd_T33 t329 0).f2)
                    · rw [if_pos c35] at H
                      have c35b0 : decide (x8_2 ≤ ((rd_T33 t329 0).f2)) = true := decide_eq_true c35
                      clear c35
                      have H' := Aside0.mk H
                      clear H
                      have p339 : 0 ≤ (0 : Int) := (by omega)
                      have q339 : 0 < (t329.length : Int) := of_decide_eq_true (by first | (with_reducible assumption) | assumption)
                      obtain ⟨ad339, e339, hx339_0, hx339_1, hx339_2⟩ := at_T33 (Kd.R_reads' HO_5.out).2.2 0 p339 q339
                      obtain rfl : ad338 = ad339 := (by injection e339)
                      have qi339 : (0 < t329.length) = True := eq_true (by omega)
                      (try rw [show ((0 : Int)).toNat = 0 from rfl] at hx339_0)
                      (try rw [show 0 * 3 = 0 from rfl] at hx339_0)
                      (try rw [Addr.add_zero'] at hx339_0)
                      (try rw [show ((0 : Int)).toNat = 0 from rfl] at hx339_1)
                      (try rw [show 0 * 3 = 0 from rfl] at hx339_1)
                      (try rw [Addr.add_zero'] at hx339_1)
                      (try rw [show ((0 : Int)).toNat = 0 from rfl] at hx339_2)
                      (try rw [show 0 * 3 = 0 from rfl] at hx339_2)
                      (try rw [Addr.add_zero'] at hx339_2)
                      replace p339 := eq_true p339
                      replace q339 := eq_true q339
                      go_wp2
                      go_meet
                      case rel => exact ⟨_, (t335), (by first | rfl | (simp; done) | (simp [*]; done)), H', ⟨by have := HJ5.out; have := HK2.out; first | omega | exact Nat.le_refl _⟩, ⟨by (with_reducible repeat (first | apply Kd.R_alloc | apply Kd.R_drewN | apply Kd.R_drew)); exact HO_5.out⟩, ⟨by (with_reducible repeat (first | apply Kd.R_alloc | apply Kd.R_drewN | apply Kd.R_drew)); exact HO_333001.out⟩, ⟨by (with_reducible repeat (first | apply Kd.R_alloc | apply Kd.R_drewN | apply Kd.R_drew)); exact HO_334001.out⟩, ⟨by (with_reducible repeat (first | refine blk_drewN ?_ _ | refine blk_drew ?_ | refine blk_alloc ?_ _)); exact BK332.out⟩, ⟨by (with_reducible repeat (first | refine blk_drewN ?_ _ | refine blk_drew ?_ | refine blk_alloc ?_ _)); exact BK333.out⟩, ⟨by repeat (first | (with_reducible first | exact HB.out | apply below_alloc | apply pw_below_drewN | apply below_drew1 | refine below_set ?_ GE332.out | refine below_set ?_ GE333.out) | exact HB.out)⟩⟩
                    · rw [if_neg c35] at H
                      have c35b0 : decide (x8_2 ≤ ((rd_T33 t329 0).f2)) = false := decide_eq_false c35
                      clear c35
                      have H' := Aside0.mk H
                      clear H
                      have p339 : 0 ≤ (0 : Int) := (by omega)
                      have q339 : 0 < (t329.length : Int) := of_decide_eq_true (by first | (with_reducible assumption) | assumption)
                      obtain ⟨ad339, e339, hx339_0, hx339_1, hx339_2⟩ := at_T33 (Kd.R_reads' HO_5.out).2.2 0 p339 q339
                      obtain rfl : ad338 = ad339 := (by injection e339)
                      have qi339 : (0 < t329.length) = True := eq_true (by omega)
                      (try rw [show ((0 : Int)).toNat = 0 from rfl] at hx339_0)
                      (try rw [show 0 * 3 = 0 from rfl] at hx339_0)
                      (try rw [Addr.add_zero'] at hx339_0)
                      (try rw [show ((0 : Int)).toNat = 0 from rfl] at hx339_1)
                      (try rw [show 0 * 3 = 0 from rfl] at hx339_1)
                      (try rw [Addr.add_zero'] at hx339_1)
                      (try rw [show ((0 : Int)).toNat = 0 from rfl] at hx339_2)
                      (try rw [show 0 * 3 = 0 from rfl] at hx339_2)
                      (try rw [Addr.add_zero'] at hx339_2)
                      replace p339 := eq_true p339
                      replace q339 := eq_true q339
                      go_wp2
                      go_meet
                      case rel => exact ⟨_, (false), (by first | rfl | (simp; done) | (simp [*]; done)), H', ⟨by have := HJ5.out; have := HK2.out; first | omega | exact Nat.le_refl _⟩, ⟨by (with_reducible repeat (first | apply Kd.R_alloc | apply Kd.R_drewN | apply Kd.R_drew)); exact HO_5.out⟩, ⟨by (with_reducible repeat (first | apply Kd.R_alloc | apply Kd.R_drewN | apply Kd.R_drew)); exact HO_333001.out⟩, ⟨by (with_reducible repeat (first | apply Kd.R_alloc | apply Kd.R_drewN | apply Kd.R_drew)); exact HO_334001.out⟩, ⟨by (with_reducible repeat (first | refine blk_drewN ?_ _ | refine blk_drew ?_ | refine blk_alloc ?_ _)); exact BK332.out⟩, ⟨by (with_reducible repeat (first | refine blk_drewN ?_ _ | refine blk_drew ?_ | refine blk_alloc ?_ _)); exact BK333.out⟩, ⟨by repeat (first | (with_reducible first | exact HB.out | apply below_alloc | apply pw_below_drewN | apply below_drew1 | refine below_set ?_ GE332.out | refine below_set ?_ GE333.out) | exact HB.out)⟩⟩
                  · rw [if_neg c34] at H
                    exact absurd H (by simp)
                case rest =>
                  clear HC33
                  try clear c1
                  try clear c2
                  try clear p2
                  try clear c3
                  try clear p3
                  try clear q3
                  try clear hx3
                  try clear qi3
                  try clear c4
                  try clear c9
                  try clear c10
                  try clear c17
                  try clear c17b0
                  try clear c17b1
                  try clear c18
                  try clear c19
                  try clear c20
                  try clear c26
                  try clear c30
                  try clear c31
                  try clear c31b0
                  try clear c31b1
                  try clear p33
                  try clear q33
                  try clear hx33
                  try clear qi33
                  try clear c34
                  try clear c34b0
                  try clear c34b1
                  try clear c35
                  try clear c35b0
                  try clear hcz11_0
                  try clear hcz11_1
                  try clear hcz13_0
                  try clear hcz13_1
                  try clear hcz20_0
                  try clear hcz20_1
                  try clear hcz21_0
                  try clear hcz21_1
                  try clear hcz23_0
                  try clear hcz23_1
                  try clear hcz24_0
                  try clear hcz24_1
                  try clear hcz27_0
                  try clear hcz27_1
                  try clear hcz28_0
                  try clear hcz28_1
                  try clear hfz11_0
                  try clear hfz11_1
                  try clear hfz13_0
                  try clear hfz13_1
                  try clear hfz20_0
                  try clear hfz20_1
                  try clear hfz21_0
                  try clear hfz21_1
                  try clear hfz23_0
                  try clear hfz23_1
                  try clear hfz24_0
                  try clear hfz24_1
                  try clear hfz27_0
                  try clear hfz27_1
                  try clear hfz28_0
                  try clear hfz28_1
                  try clear hx338_0
                  try clear hx338_1
                  try clear hx338_2
                  try clear hx339_0
                  try clear hx339_1
                  try clear hx339_2
                  try clear p2
                  try clear p3
                  try clear p338
                  try clear p339
                  try clear q3
                  try clear q338
                  try clear q339
                  obtain ⟨kq, x48_32, rfl, HA, HJ32, HO_5, HO_333001, HO_334001, BK332, BK333, HB⟩ := hcut
                  cases kq with
                  | zero => exact absurd HA.out (by simp [laws_FnDists.j2])
                  | succ kj32 =>
                    have H := HA.out
                    clear HA
                    simp only [laws_FnDists.j2] at H
                    by_cases c36 : x48_32 = true
                    · subst c36
                      have H1 : (if 0 < (t329.length : Int) then (laws_FnDists.l1 kj32 t329 t334 t335 x8_2 ((rd_T33 t329 0).f1) t321 t322 t325 t326) else (none)) = some r := by rw [if_pos rfl] at H; exact H
                      clear H
                      have H := H1
                      clear H1
                      by_cases c37 : 0 < (t329.length : Int)
                      · rw [if_pos c37] at H
                        have c37b0 : decide (0 < (t329.length : Int)) = true := decide_eq_true c37
                        have c37b1 : decide (0 < t329.length) = true := decide_eq_true (by omega)
                        clear c37
                        have H' := Aside0.mk H
                        clear H
                        have p340 : 0 ≤ (0 : Int) := (by omega)
                        have q340 : 0 < (t329.length : Int) := of_decide_eq_true (by first | (with_reducible assumption) | assumption)
                        obtain ⟨ad340, e340, hx340_0, hx340_1, hx340_2⟩ := at_T33 (Kd.R_reads' HO_5.out).2.2 0 p340 q340
                        obtain rfl : ad338 = ad340 := (by injection e340)
                        have qi340 : (0 < t329.length) = True := eq_true (by omega)
                        (try rw [show ((0 : Int)).toNat = 0 from rfl] at hx340_0)
                        (try rw [show 0 * 3 = 0 from rfl] at hx340_0)
                        (try rw [Addr.add_zero'] at hx340_0)
                        (try rw [show ((0 : Int)).toNat = 0 from rfl] at hx340_1)
                        (try rw [show 0 * 3 = 0 from rfl] at hx340_1)
                        (try rw [Addr.add_zero'] at hx340_1)
                        (try rw [show ((0 : Int)).toNat = 0 from rfl] at hx340_2)
                        (try rw [show 0 * 3 = 0 from rfl] at hx340_2)
                        (try rw [Addr.add_zero'] at hx340_2)
                        replace p340 := eq_true p340
                        replace q340 := eq_true q340
                        go_wp2
                        go_loopg [9] kj32 (fun kq v9 w' => ∃ (x9_4 : Int), v9 = .int .i64 x9_4 ∧ Aside0 (laws_FnDists.l1 kq t329 t334 t335 x8_2 x9_4 t321 t322 t325 t326 = some r) ∧ Aside0 (kq ≤ kj32) ∧ Aside0 (Kd.R k33 33 w' w.heap.size (fun _ => True) (.slice (some ad338) t329.length co32) t329) ∧ Aside0 (Kd.R k73 73 w' w.heap.size (fun k_ => some k_ ≠ ((.slice Ao14 t326.length co14) : Value).ownBlock) (.slice Ao12 t322.length co12) t322) ∧ Aside0 (Kd.R k73 73 w' w.heap.size (fun k_ => some k_ ≠ ((.slice Ao12 t322.length co12) : Value).ownBlock) (.slice Ao14 t326.length co14) t326) ∧ Aside0 (w'.heap[gb332]? = some (.cells #[.int .i64 t321, (.slice Ao12 t322.length co12)] 26 (0, 0))) ∧ Aside0 (w'.heap[gb333]? = some (.cells #[.int .i64 t325, (.slice Ao14 t326.length co14)] 26 (0, 0))) ∧ Aside0 (Below w.heap.size w w'))
                        case atStart => exact ⟨((rd_T33 t329 0).f1), (by first | rfl | (simp; done) | (simp [*]; done)), H', ⟨Nat.le_refl _⟩, ⟨by (with_reducible repeat (first | apply Kd.R_alloc | apply Kd.R_drewN | apply Kd.R_drew)); exact HO_5.out⟩, ⟨by (with_reducible repeat (first | apply Kd.R_alloc | apply Kd.R_drewN | apply Kd.R_drew)); exact HO_333001.out⟩, ⟨by (with_reducible repeat (first | apply Kd.R_alloc | apply Kd.R_drewN | apply Kd.R_drew)); exact HO_334001.out⟩, ⟨by (with_reducible repeat (first | refine blk_drewN ?_ _ | refine blk_drew ?_ | refine blk_alloc ?_ _)); exact BK332.out⟩, ⟨by (with_reducible repeat (first | refine blk_drewN ?_ _ | refine blk_drew ?_ | refine blk_alloc ?_ _)); exact BK333.out⟩, ⟨by repeat (first | (with_reducible first | exact HB.out | apply below_alloc | apply pw_below_drewN | apply below_drew1 | refine below_set ?_ GE332.out | refine below_set ?_ GE333.out) | exact HB.out)⟩⟩
                        case round =>
                          clear H'
                          try clear c1
                          try clear c2
                          try clear p2
                          try clear c3
                          try clear p3
                          try clear q3
                          try clear hx3
                          try clear qi3
                          try clear c4
                          try clear c9
                          try clear c10
                          try clear c17
                          try clear c17b0
                          try clear c17b1
                          try clear c18
                          try clear c19
                          try clear c20
                          try clear c26
                          try clear c30
                          try clear c31
                          try clear c31b0
                          try clear c31b1
                          try clear p33
                          try clear q33
                          try clear hx33
                          try clear qi33
                          try clear c34
                          try clear c34b0
                          try clear c34b1
                          try clear p34
                          try clear q34
                          try clear hx34
                          try clear qi34
                          try clear c35
                          try clear c35b0
                          try clear c36
                          try clear c37
                          try clear c37b0
                          try clear c37b1
                          try clear hcz11_0
                          try clear hcz11_1
                          try clear hcz13_0
                          try clear hcz13_1
                          try clear hcz20_0
                          try clear hcz20_1
                          try clear hcz21_0
                          try clear hcz21_1
                          try clear hcz23_0
                          try clear hcz23_1
                          try clear hcz24_0
                          try clear hcz24_1
                          try clear hcz27_0
                          try clear hcz27_1
                          try clear hcz28_0
                          try clear hcz28_1
                          try clear hfz11_0
                          try clear hfz11_1
                          try clear hfz13_0
                          try clear hfz13_1
                          try clear hfz20_0
                          try clear hfz20_1
                          try clear hfz21_0
                          try clear hfz21_1
                          try clear hfz23_0
                          try clear hfz23_1
                          try clear hfz24_0
                          try clear hfz24_1
                          try clear hfz27_0
                          try clear hfz27_1
                          try clear hfz28_0
                          try clear hfz28_1
                          try clear hx338_0
                          try clear hx338_1
                          try clear hx338_2
                          try clear hx339_0
                          try clear hx339_1
                          try clear hx339_2
                          try clear hx340_0
                          try clear hx340_1
                          try clear hx340_2
                          try clear p2
                          try clear p3
                          try clear p33
                          try clear p338
                          try clear p339
                          try clear p340
                          try clear q3
                          try clear q33
                          try clear q338
                          try clear q339
                          try clear q340
                          obtain ⟨x9_4, rfl, HA, HK4, HO_5, HO_333001, HO_334001, BK332, BK333, HB⟩ := hrel
                          cases gk with
                          | zero => exact absurd HA.out (by simp [laws_FnDists.l1])
                          | succ k4 =>
                            have H := HA.out
                            clear HA
                            simp only [laws_FnDists.l1] at H
                            by_cases c38 : 0 < (t329.length : Int)
                            · rw [if_pos c38] at H
                              have c38b0 : decide (0 < (t329.length : Int)) = true := decide_eq_true c38
                              have c38b1 : decide (0 < t329.length) = true := decide_eq_true (by omega)
                              clear c38
                              by_cases c39 : x9_4 ≤ ((rd_T33 t329 0).f2)
                              · rw [if_pos c39] at H
                                have c39b0 : decide (x9_4 ≤ ((rd_T33 t329 0).f2)) = true := decide_eq_true c39
                                clear c39
                                replace H := Option.bind_eq_some_iff.mp H
                                obtain ⟨t342, A400, H⟩ := H
                                replace H : (if (t342 != ((wrap64 (x9_4 - x8_2)) == t334)) = true then (none) else (laws_FnDists.l1 k4 t329 t334 t335 x8_2 (wrap64 (x9_4 + 1)) t321 t322 t325 t326)) = some r := H
                                have A40 := Aside0.mk A400
                                clear A400
                                by_cases c41 : (t342 != ((wrap64 (x9_4 - x8_2)) == t334)) = true
                                · rw [if_pos c41] at H
                                  exact absurd H (by simp)
                                · rw [if_neg c41] at H
                                  have c41b0 : (t342 != ((wrap64 (x9_4 - x8_2)) == t334)) = false := by simpa using c41
                                  (try (have c41b1 : decide (t342 = ((wrap64 (x9_4 - x8_2)) == t334)) = true := by simpa using c41))
                                  (try (have c41b2 : (t342 == ((wrap64 (x9_4 - x8_2)) == t334)) = true := by simpa using c41))
                                  clear c41
                                  have H' := Aside0.mk H
                                  clear H
                                  have p341 : 0 ≤ (0 : Int) := (by omega)
                                  have q341 : 0 < (t329.length : Int) := of_decide_eq_true (by first | (with_reducible assumption) | assumption)
                                  obtain ⟨ad341, e341, hx341_0, hx341_1, hx341_2⟩ := at_T33 (Kd.R_reads' HO_5.out).2.2 0 p341 q341
                                  obtain rfl : ad338 = ad341 := (by injection e341)
                                  have qi341 : (0 < t329.length) = True := eq_true (by omega)
                                  (try rw [show ((0 : Int)).toNat = 0 from rfl] at hx341_0)
                                  (try rw [show 0 * 3 = 0 from rfl] at hx341_0)
                                  (try rw [Addr.add_zero'] at hx341_0)
                                  (try rw [show ((0 : Int)).toNat = 0 from rfl] at hx341_1)
                                  (try rw [show 0 * 3 = 0 from rfl] at hx341_1)
                                  (try rw [Addr.add_zero'] at hx341_1)
                                  (try rw [show ((0 : Int)).toNat = 0 from rfl] at hx341_2)
                                  (try rw [show 0 * 3 = 0 from rfl] at hx341_2)
                                  (try rw [Addr.add_zero'] at hx341_2)
                                  replace p341 := eq_true p341
                                  replace q341 := eq_true q341
                                  have hnb42 := NB332_333.out
                                  have hnc42 := NB333_332.out
                                  have hcz43_0 : wr.cell? ⟨gb332, 0, none⟩ = some (.int .i64 t321) := (blk_cell BK332.out 0).trans rfl
                                  have hcz43_1 : wr.cell? ⟨gb332, 1, none⟩ = some (.slice Ao12 t322.length co12) := (blk_cell BK332.out 1).trans rfl
                                  have hfz43_0 := blk_frozen BK332.out 0
                                  have hfz43_1 := blk_frozen BK332.out 1
                                  have hcz44_0 : wr.cell? ⟨gb333, 0, none⟩ = some (.int .i64 t325) := (blk_cell BK333.out 0).trans rfl
                                  have hcz44_1 : wr.cell? ⟨gb333, 1, none⟩ = some (.slice Ao14 t326.length co14) := (blk_cell BK333.out 1).trans rfl
                                  have hfz44_0 := blk_frozen BK333.out 0
                                  have hfz44_1 := blk_frozen BK333.out 1
                                  go_wp2_with (first | ((with_reducible refine gate_callee (f := 22) rfl ?_); refine goesL_ (some 68) rfl rfl Try.func22 (by kernel_rfl) rfl #[.agg #[.int .i64 t321, .slice Ao12 t322.length co12], .agg #[.int .i64 t325, .slice Ao14 t326.length co14], .string (⟨#[105]⟩ : ByteArray), .int .i64 x8_2, .int .i64 x9_4, .slice (some ad338) t329.length co32] rfl (by (try simp only [List.map_toArray, List.map_cons, List.map_nil]); first | done | rfl | (simp only [List.length_drop, List.length_take]; rfl)) ?_; (with_reducible refine (impl_MeetAt.calls k4 t321 _ _ t322 t325 _ _ t326 (⟨#[105]⟩ : ByteArray) x8_2 x9_4 _ _ t329 t342 _ ?side1 ?side2 ?side3 ?side4 ?side5 ?side6 A40.out).mono ?_); (case side1 => repeat (first | exact (Kd.R_reads' HO_333001.out).2.2 | (with_reducible refine Kd.C_alloc ?_ _) | (with_reducible refine Kd.C_drewN ?_ _) | (with_reducible refine Kd.C_drew ?_))); (case side2 => exact (Kd.R_reads' HO_333001.out).2.1); (case side3 => repeat (first | exact (Kd.R_reads' HO_334001.out).2.2 | (with_reducible refine Kd.C_alloc ?_ _) | (with_reducible refine Kd.C_drewN ?_ _) | (with_reducible refine Kd.C_drew ?_))); (case side4 => exact (Kd.R_reads' HO_334001.out).2.1); (case side5 => repeat (first | exact (Kd.R_reads' HO_5.out).2.2 | (with_reducible refine Kd.C_alloc ?_ _) | (with_reducible refine Kd.C_drewN ?_ _) | (with_reducible refine Kd.C_drew ?_))); (case side6 => exact (Kd.R_reads' HO_5.out).2.1); rintro e w45 ⟨rfl, hb⟩; refine ⟨_, rfl, ?_⟩; have n0_ := Aside0.mk (Kd.R_below (by (with_reducible repeat (first | apply Kd.R_alloc | apply Kd.R_drewN | apply Kd.R_drew)); exact HO_5.out) hb); have n1_ := Aside0.mk (Kd.R_below (by (with_reducible repeat (first | apply Kd.R_alloc | apply Kd.R_drewN | apply Kd.R_drew)); exact HO_333001.out) hb); have n2_ := Aside0.mk (Kd.R_below (by (with_reducible repeat (first | apply Kd.R_alloc | apply Kd.R_drewN | apply Kd.R_drew)); exact HO_334001.out) hb); have n3_ := Aside0.mk (blk_below (g := gb332) (o := .cells #[.int .i64 t321, .slice Ao12 t322.length co12] 26 (0, 0)) (by (with_reducible repeat (first | refine blk_drewN ?_ _ | refine blk_drew ?_ | refine blk_alloc ?_ _)); exact BK332.out) hb); have n4_ := Aside0.mk (blk_below (g := gb333) (o := .cells #[.int .i64 t325, .slice Ao14 t326.length co14] 26 (0, 0)) (by (with_reducible repeat (first | refine blk_drewN ?_ _ | refine blk_drew ?_ | refine blk_alloc ?_ _)); exact BK333.out) hb); have n5_ := Aside0.mk (below_step (by repeat (first | (with_reducible first | exact HB.out | apply below_alloc | apply pw_below_drewN | apply below_drew1 | refine below_set ?_ GE332.out | refine below_set ?_ GE333.out) | exact HB.out)) hb); clear HO_5; clear HO_333001; clear HO_334001; clear BK332; clear BK333; clear HB; have HO_5 := n0_; have HO_333001 := n1_; have HO_334001 := n2_; have BK332 := n3_; have BK333 := n4_; have HB := n5_; clear n0_ n1_ n2_ n3_ n4_ n5_; (try clear hb); (try clear hb2); (try clear hk); (try clear hi)))
                                  go_roundg k4
                                  case measure => have := HJ5.out; have := HK2.out; have := HJ32.out; have := HK4.out; omega
                                  case rel => exact ⟨(wrap64 (x9_4 + 1)), (by first | rfl | (simp; done) | (simp [*]; done)), H', ⟨by have := HJ5.out; have := HK2.out; have := HJ32.out; have := HK4.out; omega⟩, ⟨by (with_reducible repeat (first | apply Kd.R_alloc | apply Kd.R_drewN | apply Kd.R_drew)); exact HO_5.out⟩, ⟨by (with_reducible repeat (first | apply Kd.R_alloc | apply Kd.R_drewN | apply Kd.R_drew)); exact HO_333001.out⟩, ⟨by (with_reducible repeat (first | apply Kd.R_alloc | apply Kd.R_drewN | apply Kd.R_drew)); exact HO_334001.out⟩, ⟨by (with_reducible repeat (first | refine blk_drewN ?_ _ | refine blk_drew ?_ | refine blk_alloc ?_ _)); exact BK332.out⟩, ⟨by (with_reducible repeat (first | refine blk_drewN ?_ _ | refine blk_drew ?_ | refine blk_alloc ?_ _)); exact BK333.out⟩, ⟨by repeat (first | (with_reducible first | exact HB.out | apply below_alloc | apply pw_below_drewN | apply below_drew1 | refine below_set ?_ GE332.out | refine below_set ?_ GE333.out) | exact HB.out)⟩⟩
                              · rw [if_neg c39] at H
                                have c39b0 : decide (x9_4 ≤ ((rd_T33 t329 0).f2)) = false := decide_eq_false c39
                                clear c39
                                have H' := Aside0.mk H
                                clear H
                                have p341 : 0 ≤ (0 : Int) := (by omega)
                                have q341 : 0 < (t329.length : Int) := of_decide_eq_true (by first | (with_reducible assumption) | assumption)
                                obtain ⟨ad341, e341, hx341_0, hx341_1, hx341_2⟩ := at_T33 (Kd.R_reads' HO_5.out).2.2 0 p341 q341
                                obtain rfl : ad338 = ad341 := (by injection e341)
                                have qi341 : (0 < t329.length) = True := eq_true (by omega)
                                (try rw [show ((0 : Int)).toNat = 0 from rfl] at hx341_0)
                                (try rw [show 0 * 3 = 0 from rfl] at hx341_0)
                                (try rw [Addr.add_zero'] at hx341_0)
                                (try rw [show ((0 : Int)).toNat = 0 from rfl] at hx341_1)
                                (try rw [show 0 * 3 = 0 from rfl] at hx341_1)
                                (try rw [Addr.add_zero'] at hx341_1)
                                (try rw [show ((0 : Int)).toNat = 0 from rfl] at hx341_2)
                                (try rw [show 0 * 3 = 0 from rfl] at hx341_2)
                                (try rw [Addr.add_zero'] at hx341_2)
                                replace p341 := eq_true p341
                                replace q341 := eq_true q341
                                go_wp2
                                go_roundg k4
                                case measure => have := HJ5.out; have := HK2.out; have := HJ32.out; have := HK4.out; omega
                                case rel => exact ⟨(wrap64 (x8_2 + 1)), (by first | rfl | (simp; done) | (simp [*]; done)), H', ⟨by have := HJ5.out; have := HK2.out; have := HJ32.out; have := HK4.out; omega⟩, ⟨by (with_reducible repeat (first | apply Kd.R_alloc | apply Kd.R_drewN | apply Kd.R_drew)); exact HO_5.out⟩, ⟨by (with_reducible repeat (first | apply Kd.R_alloc | apply Kd.R_drewN | apply Kd.R_drew)); exact HO_333001.out⟩, ⟨by (with_reducible repeat (first | apply Kd.R_alloc | apply Kd.R_drewN | apply Kd.R_drew)); exact HO_334001.out⟩, ⟨by (with_reducible repeat (first | refine blk_drewN ?_ _ | refine blk_drew ?_ | refine blk_alloc ?_ _)); exact BK332.out⟩, ⟨by (with_reducible repeat (first | refine blk_drewN ?_ _ | refine blk_drew ?_ | refine blk_alloc ?_ _)); exact BK333.out⟩, ⟨by repeat (first | (with_reducible first | exact HB.out | apply below_alloc | apply pw_below_drewN | apply below_drew1 | refine below_set ?_ GE332.out | refine below_set ?_ GE333.out) | exact HB.out)⟩⟩
                            · rw [if_neg c38] at H
                              exact absurd H (by simp)
                      · rw [if_neg c37] at H
                        exact absurd H (by simp)
                    · replace c36 := Bool.eq_false_iff.mpr c36
                      subst c36
                      have H1 : (if t335 = true then (some true) else (some (t334 == 0))) = some r := by rw [if_neg (show ¬ (false = true) by decide)] at H; exact H
                      clear H
                      have H := H1
                      clear H1
                      by_cases c46 : t335 = true
                      · subst c46
                        have H1 : (some true) = some r := by rw [if_pos rfl] at H; exact H
                        clear H
                        have H := H1
                        clear H1
                        obtain rfl := Option.some.inj H
                        go_wp2
                        go_ret
                        exact ⟨by first | rfl | (simp [errW_none, errW_some] <;> rfl) | (simp [*, errW_none, errW_some] <;> rfl), by repeat (first | (with_reducible first | exact HB.out | apply below_alloc | apply pw_below_drewN | apply below_drew1 | refine below_set ?_ GE332.out | refine below_set ?_ GE333.out) | exact HB.out)⟩
                      · replace c46 := Bool.eq_false_iff.mpr c46
                        subst c46
                        have H1 : (some (t334 == 0)) = some r := by rw [if_neg (show ¬ (false = true) by decide)] at H; exact H
                        clear H
                        have H := H1
                        clear H1
                        obtain rfl := Option.some.inj H
                        go_wp2
                        go_ret
                        exact ⟨by first | rfl | (simp [errW_none, errW_some] <;> rfl) | (simp [*, errW_none, errW_some] <;> rfl), by repeat (first | (with_reducible first | exact HB.out | apply below_alloc | apply pw_below_drewN | apply below_drew1 | refine below_set ?_ GE332.out | refine below_set ?_ GE333.out) | exact HB.out)⟩
          · rw [if_neg c31] at H
            exact absurd H (by simp)

/-- THE ONE PURE STATEMENT of laws_FnDists: yours. -/
def laws_FnDists.Pure : Prop := ∀ (l0 : List Int), l0.length ≤ maxLen → l0.length * 1 ≤ 140737488351232 → (∀ x ∈ l0, (Lit.int .u8 x).wf = true) → ∃ k, laws_FnDists.f k l0 = some true
theorem laws_FnDists.walk (P : laws_FnDists.Pure) (a0 : Option Addr) (len0 cap0 : Nat) (z0 : List Int) (w : World) (w0 : (a0 = none ∧ len0 = 0 ∧ cap0 = 0 ∧ z0 = []) ∨ ∃ x, a0 = some x ∧ len0 ≤ cap0 ∧ cap0 ≤ maxLen ∧ z0.length = cap0 ∧ (∀ i, i < z0.length → w.cell? (x.add i) = some (.int .u8 (z0.getD i 0))) ∧ ∀ n ∈ z0, (Lit.int .u8 n).wf = true) (y0 : len0 * 1 ≤ 140737488351232) :
    Calls Try.prog 4 #[.slice a0 len0 cap0] w fun e w' => e = .returned (.bool true) ∧ Below w.heap.size w w' := by
  obtain ⟨l0, rfl, hr0, hm0, hw0, hc0⟩ := ReadsInt.ofRowC w0
  obtain ⟨k, h⟩ := P l0 hm0 y0 hw0
  refine (laws_FnDists.calls k _ _ l0 true w (Kd.C_of_reads (d := (0 : Int)) (h1 := fun _ => rfl) hr0) hc0 h).mono ?_
  rintro e w' ⟨rfl, hd⟩
  exact ⟨rfl, hd⟩

end Go.Proofs.Ytelklalagebdgaa.PFnDists
