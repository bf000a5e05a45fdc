-- The functions of a law as plain Lean functions, each with its contract: written by a program of this session.
import Derived.Test.YtmomablfmhkppaaPFnMeetsx0
import Derived.Test.YtmomablfmhkppaaPFnMeetsx1
import Derived.Test.YtmomablfmhkppaaPFnMeetsx2
import Derived.Test.YtmomablfmhkppaaPFnMeetsx4
import Derived.Test.YtmomablfmhkppaaPFnMeetsx5
import Derived.Test.YtmomablfmhkppaaPFnMeetsx6
import Derived.Test.YtmomablfmhkppaaPFnMeetsx10
import Derived.Test.YtmomablfmhkppaaPFnMeetsx12
namespace Go.Proofs.Ytmomablfmhkppaa.PFnMeets
open Go.RowKit Go.Proofs.YtmomablfmhkppaaW.PrintWords Go.Proofs.YtmomablfmhkppaaW.PrintLast Go.Proofs.YtmomablfmhkppaaW.PrintMore
attribute [local go_sem] max2_int min2_int max_two min_two max_three min_three max_four min_four   -- for this text's walks alone
set_option linter.unusedVariables false
set_option linter.unusedSimpArgs false

/-! ### laws_FnMeets: function 7 -/
mutual
def laws_FnMeets.l0 : Nat → List (S56) → Bool → Int → Int → List (S70) → Int → List (S70) → Option (Bool)
  | 0, _, _, _, _, _, _, _ => none
  | k + 1, x5, x6, x7, x451000, x451001, x452000, x452001 => if 0 < (x5.length : Int) then (if x7 ≤ ((rd_T56 x5 0).f2) then (laws_FnMeets.l1 k x5 x6 x7 ((rd_T56 x5 0).f1) x451000 x451001 x452000 x452001) else ((impl_BoxOk.f k x5).bind fun t456 => (some t456))) else (none)
def laws_FnMeets.l1 : Nat → List (S56) → Bool → Int → Int → Int → List (S70) → Int → List (S70) → Option (Bool)
  | 0, _, _, _, _, _, _, _, _ => none
  | k + 1, x5, x6, x7, x8, x451000, x451001, x452000, x452001 => if 0 < (x5.length : Int) then (if x8 ≤ ((rd_T56 x5 0).f2) then ((impl_MeetAt.f k x451000 x451001 x452000 x452001 (⟨#[105]⟩ : ByteArray) x7 x8 x5).bind fun t459 => (if x7 = x8 then (if t459 = true then ((impl_GcdMeet.f k x451000 x451001 x452000 x452001).bind fun t460 => (if t460 = true then ((impl_RngMeet.f k x451000 x451001 x452000 x452001 x5).bind fun t461 => (if t461 = true then (laws_FnMeets.l1 k x5 x6 x7 (wrap64 (x8 + 1)) x451000 x451001 x452000 x452001) else (none))) else (none))) else (laws_FnMeets.l1 k x5 x6 x7 (wrap64 (x8 + 1)) x451000 x451001 x452000 x452001)) else (if t459 = true then (if x6 = true then ((impl_GcdMeet.f k x451000 x451001 x452000 x452001).bind fun t462 => (if t462 = true then ((impl_RngMeet.f k x451000 x451001 x452000 x452001 x5).bind fun t463 => (if t463 = true then (laws_FnMeets.l1 k x5 x6 x7 (wrap64 (x8 + 1)) x451000 x451001 x452000 x452001) else (none))) else (none))) else (none)) else (laws_FnMeets.l1 k x5 x6 x7 (wrap64 (x8 + 1)) x451000 x451001 x452000 x452001)))) else (laws_FnMeets.l0 k x5 x6 (wrap64 (x7 + 1)) x451000 x451001 x452000 x452001)) else (none)
end
def laws_FnMeets.f (k : Nat) (l0 : List Int) : Option (Bool) := (laws_big.f l0).bind fun t438 => (if t438 = true then (some true) else ((spec_DrawMeets.f k l0).bind fun bt439 => ((impl_MayMeet.f k bt439.1 bt439.2.1 bt439.2.2.1 bt439.2.2.2.1 (⟨#[105]⟩ : ByteArray) bt439.2.2.2.2).bind fun t452 => ((spec_MayMeet.f k bt439.1 bt439.2.1 bt439.2.2.1 bt439.2.2.2.1 (⟨#[105]⟩ : ByteArray) bt439.2.2.2.2).bind fun t453 => (if (t452 != t453) = true then (none) else (if 0 < (bt439.2.2.2.2.length : Int) then (laws_FnMeets.l0 k bt439.2.2.2.2 t452 ((rd_T56 bt439.2.2.2.2 0).f1) bt439.1 bt439.2.1 bt439.2.2.1 bt439.2.2.2.1) else (none)))))))
theorem laws_FnMeets.mono_l : ∀ k, (∀ y0 y1 y2 y3 y4 y5 y6, LeO (laws_FnMeets.l0 k y0 y1 y2 y3 y4 y5 y6) (laws_FnMeets.l0 (k + 1) y0 y1 y2 y3 y4 y5 y6)) ∧ (∀ y0 y1 y2 y3 y4 y5 y6 y7, LeO (laws_FnMeets.l1 k y0 y1 y2 y3 y4 y5 y6 y7) (laws_FnMeets.l1 (k + 1) y0 y1 y2 y3 y4 y5 y6 y7))
  | 0 => ⟨fun _ _ _ _ _ _ _ r h => by simp [laws_FnMeets.l0] at h, fun _ _ _ _ _ _ _ _ r h => by simp [laws_FnMeets.l1] at h⟩
  | k + 1 => by
    obtain ⟨ih0, ih1⟩ := laws_FnMeets.mono_l k
    refine ⟨?_, ?_⟩
    · intro y0 y1 y2 y3 y4 y5 y6
      unfold laws_FnMeets.l0
      repeat' first
      | (with_reducible exact ih0 _ _ _ _ _ _ _)
      | (with_reducible exact ih1 _ _ _ _ _ _ _ _)
      | (with_reducible exact impl_BoxOk.mono _ _)
      | (with_reducible exact impl_GcdMeet.mono _ _ _ _ _)
      | (with_reducible exact impl_MayMeet.mono _ _ _ _ _ _ _)
      | (with_reducible exact impl_MeetAt.mono _ _ _ _ _ _ _ _ _)
      | (with_reducible exact impl_RngMeet.mono _ _ _ _ _ _)
      | (with_reducible exact spec_DrawMeets.mono _ _)
      | (with_reducible exact spec_MayMeet.mono _ _ _ _ _ _ _)
      | (with_reducible exact LeO.refl _)
      | (with_reducible exact LeO.none _)
      | (with_reducible refine LeO.ite ?_ ?_)
      | (with_reducible refine LeO.bind ?_ (fun _ => ?_))
      | exact ih0 _ _ _ _ _ _ _
      | exact ih1 _ _ _ _ _ _ _ _
      | exact impl_BoxOk.mono _ _
      | exact impl_GcdMeet.mono _ _ _ _ _
      | exact impl_MayMeet.mono _ _ _ _ _ _ _
      | exact impl_MeetAt.mono _ _ _ _ _ _ _ _ _
      | exact impl_RngMeet.mono _ _ _ _ _ _
      | exact spec_DrawMeets.mono _ _
      | exact spec_MayMeet.mono _ _ _ _ _ _ _
      | exact LeO.none _
      | refine LeO.ite ?_ ?_
      | refine LeO.bind ?_ (fun _ => ?_)
    · intro y0 y1 y2 y3 y4 y5 y6 y7
      unfold laws_FnMeets.l1
      repeat' first
      | (with_reducible exact ih0 _ _ _ _ _ _ _)
      | (with_reducible exact ih1 _ _ _ _ _ _ _ _)
      | (with_reducible exact impl_BoxOk.mono _ _)
      | (with_reducible exact impl_GcdMeet.mono _ _ _ _ _)
      | (with_reducible exact impl_MayMeet.mono _ _ _ _ _ _ _)
      | (with_reducible exact impl_MeetAt.mono _ _ _ _ _ _ _ _ _)
      | (with_reducible exact impl_RngMeet.mono _ _ _ _ _ _)
      | (with_reducible exact spec_DrawMeets.mono _ _)
      | (with_reducible exact spec_MayMeet.mono _ _ _ _ _ _ _)
      | (with_reducible exact LeO.refl _)
      | (with_reducible exact LeO.none _)
      | (with_reducible refine LeO.ite ?_ ?_)
      | (with_reducible refine LeO.bind ?_ (fun _ => ?_))
      | exact ih0 _ _ _ _ _ _ _
      | exact ih1 _ _ _ _ _ _ _ _
      | exact impl_BoxOk.mono _ _
      | exact impl_GcdMeet.mono _ _ _ _ _
      | exact impl_MayMeet.mono _ _ _ _ _ _ _
      | exact impl_MeetAt.mono _ _ _ _ _ _ _ _ _
      | exact impl_RngMeet.mono _ _ _ _ _ _
      | exact spec_DrawMeets.mono _ _
      | exact spec_MayMeet.mono _ _ _ _ _ _ _
      | exact LeO.none _
      | refine LeO.ite ?_ ?_
      | refine LeO.bind ?_ (fun _ => ?_)
theorem laws_FnMeets.mono : ∀ a0 k, LeO (laws_FnMeets.f k a0) (laws_FnMeets.f (k + 1) a0) := by
  intro a0 k
  obtain ⟨ih0, ih1⟩ := laws_FnMeets.mono_l k
  unfold laws_FnMeets.f
  repeat' first
      | (with_reducible exact ih0 _ _ _ _ _ _ _)
      | (with_reducible exact ih1 _ _ _ _ _ _ _ _)
      | (with_reducible exact impl_BoxOk.mono _ _)
      | (with_reducible exact impl_GcdMeet.mono _ _ _ _ _)
      | (with_reducible exact impl_MayMeet.mono _ _ _ _ _ _ _)
      | (with_reducible exact impl_MeetAt.mono _ _ _ _ _ _ _ _ _)
      | (with_reducible exact impl_RngMeet.mono _ _ _ _ _ _)
      | (with_reducible exact spec_DrawMeets.mono _ _)
      | (with_reducible exact spec_MayMeet.mono _ _ _ _ _ _ _)
      | (with_reducible exact LeO.refl _)
      | (with_reducible exact LeO.none _)
      | (with_reducible refine LeO.ite ?_ ?_)
      | (with_reducible refine LeO.bind ?_ (fun _ => ?_))
      | exact ih0 _ _ _ _ _ _ _
      | exact ih1 _ _ _ _ _ _ _ _
      | exact impl_BoxOk.mono _ _
      | exact impl_GcdMeet.mono _ _ _ _ _
      | exact impl_MayMeet.mono _ _ _ _ _ _ _
      | exact impl_MeetAt.mono _ _ _ _ _ _ _ _ _
      | exact impl_RngMeet.mono _ _ _ _ _ _
      | exact spec_DrawMeets.mono _ _
      | exact spec_MayMeet.mono _ _ _ _ _ _ _
      | exact LeO.none _
      | refine LeO.ite ?_ ?_
      | refine LeO.bind ?_ (fun _ => ?_)
set_option maxHeartbeats 8000000 in
set_option maxRecDepth 100000 in
theorem laws_FnMeets.calls (k : Nat) (A0 : Option Addr) (c0 : Nat) (l0 : List Int) (r : Bool) (w : World) (hr0 : Kd.C (Kd.int .u8) w A0 l0.length l0) (hc0 : l0.length ≤ c0) (h : laws_FnMeets.f k l0 = some r) :
    Calls Try.prog 7 #[.slice A0 l0.length c0] w fun e w' => e = .returned (.bool r) ∧ Below w.heap.size w w' := by
  have hu28 := Try.underlying28
  have HR0 := mk0 hr0
  have HC0 := mk0 hc0
  clear hr0 hc0
  have HB := mk0 (Below.refl w.heap.size w)
  have H : ((laws_big.f l0).bind fun t438 => (if t438 = true then (some true) else ((spec_DrawMeets.f k l0).bind fun bt439 => ((impl_MayMeet.f k bt439.1 bt439.2.1 bt439.2.2.1 bt439.2.2.2.1 (⟨#[105]⟩ : ByteArray) bt439.2.2.2.2).bind fun t452 => ((spec_MayMeet.f k bt439.1 bt439.2.1 bt439.2.2.1 bt439.2.2.2.1 (⟨#[105]⟩ : ByteArray) bt439.2.2.2.2).bind fun t453 => (if (t452 != t453) = true then (none) else (if 0 < (bt439.2.2.2.2.length : Int) then (laws_FnMeets.l0 k bt439.2.2.2.2 t452 ((rd_T56 bt439.2.2.2.2 0).f1) bt439.1 bt439.2.1 bt439.2.2.1 bt439.2.2.2.1) else (none)))))))) = some r := h
  clear h
  obtain ⟨t438, A2, H⟩ := bindA H
  by_cases c3 : t438 = true
  · subst c3
    rw [if_pos rfl] at H
    obtain rfl := Option.some.inj H
    go_enter Try.func7, Try.ntmps7
    go_wp2_with (first | ((with_reducible refine gate_callee (f := 17) rfl ?_); refine goesL_ (some 11) rfl rfl Try.func17 (by kernel_rfl) rfl #[.slice A0 l0.length c0] rfl (by (try simp only [List.map_toArray, List.map_cons, List.map_nil]); first | done | rfl) ?_; (with_reducible refine (laws_big.calls _ _ l0 true _ ?side1 ?side2 A2.out).mono ?_); (case side1 => repeat (first | exact HR0.out | (with_reducible refine cA ?_ _) | (with_reducible refine cN ?_ _) | (with_reducible refine cD ?_))); (case side2 => exact HC0.out); rintro e w' ⟨rfl, ⟨nd, rfl⟩⟩; refine ⟨_, rfl, ?_⟩))
    go_ret
    exact ⟨by first | rfl | (simp [errW_none, errW_some] <;> rfl) | (simp [*, errW_none, errW_some] <;> rfl), by repeat (first | (with_reducible first | exact HB.out | apply bA | apply bN | apply bD) | exact HB.out)⟩
  · replace c3 := Bool.eq_false_iff.mpr c3
    subst c3
    rw [if_neg (show ¬ (false = true) by decide)] at H
    replace H := Option.bind_eq_some_iff.mp H
    obtain ⟨⟨t439, t440, t443, t444, t447⟩, A40, H⟩ := H
    replace H : ((impl_MayMeet.f k t439 t440 t443 t444 (⟨#[105]⟩ : ByteArray) t447).bind fun t452 => ((spec_MayMeet.f k t439 t440 t443 t444 (⟨#[105]⟩ : ByteArray) t447).bind fun t453 => (if (t452 != t453) = true then (none) else (if 0 < (t447.length : Int) then (laws_FnMeets.l0 k t447 t452 ((rd_T56 t447 0).f1) t439 t440 t443 t444) else (none))))) = some r := H
    have A4 := mk0 A40
    clear A40
    obtain ⟨t452, A5, H⟩ := bindA H
    obtain ⟨t453, A6, H⟩ := bindA H
    by_cases c7 : (t452 != t453) = true
    · rw [if_pos c7] at H
      exact absurd H (by simp)
    · rw [if_neg c7] at H
      have c7b0 : (t452 != t453) = false := by simpa using c7
      (try (have c7b1 : decide (t452 = t453) = true := by simpa using c7))
      (try (have c7b2 : (t452 == t453) = true := by simpa using c7))
      clear c7
      by_cases c8 : 0 < (t447.length : Int)
      · rw [if_pos c8] at H
        have c8b0 : decide (0 < (t447.length : Int)) = true := decide_eq_true c8
        have c8b1 : decide (0 < t447.length) = true := decide_eq_true (by omega)
        clear c8
        have H' := mk0 H
        clear H
        go_enter Try.func7, Try.ntmps7
        go_wp2_with (first | ((with_reducible refine gate_callee (f := 17) rfl ?_); refine goesL_ (some 11) rfl rfl Try.func17 (by kernel_rfl) rfl #[.slice A0 l0.length c0] rfl (by (try simp only [List.map_toArray, List.map_cons, List.map_nil]); first | done | rfl) ?_; (with_reducible refine (laws_big.calls _ _ l0 false _ ?side1 ?side2 A2.out).mono ?_); (case side1 => repeat (first | exact HR0.out | (with_reducible refine cA ?_ _) | (with_reducible refine cN ?_ _) | (with_reducible refine cD ?_))); (case side2 => exact HC0.out); rintro e w' ⟨rfl, ⟨nd, rfl⟩⟩; refine ⟨_, rfl, ?_⟩) | ((with_reducible refine gate_callee (f := 30) rfl ?_); refine goesL_ (some 14) rfl rfl Try.func30 (by kernel_rfl) rfl #[.slice A0 l0.length c0] rfl (by (try simp only [List.map_toArray, List.map_cons, List.map_nil]); first | done | rfl) ?_; (with_reducible refine (spec_DrawMeets.calls k _ _ l0 t439 t440 t443 t444 t447 _ ?side1 ?side2 A4.out).mono ?_); (case side1 => repeat (first | exact HR0.out | (with_reducible refine cA ?_ _) | (with_reducible refine cN ?_ _) | (with_reducible refine cD ?_))); (case side2 => exact HC0.out); rintro e w9 ⟨v441, v445, v448, rfl, ho0, ho1, ho2, hb⟩; refine ⟨_, rfl, ?_⟩; have q_ := qB (by repeat (first | (with_reducible first | exact HB.out | apply bA | apply bN | apply bD) | exact HB.out)) hb; have n0_ := mk0 (Kd.R_lower ho0 (below_size q_)); have n1_ := mk0 (Kd.R_lower ho1 (below_size q_)); have n2_ := mk0 (Kd.R_lower ho2 (below_size q_)); have n3_ := mk0 (below_step q_ hb); clear HB; have HO442 := n0_; have HO446 := n1_; have HO449 := n2_; have HB := n3_; clear q_ n0_ n1_ n2_ n3_; (try clear hb); (try clear hb2); (try clear hk); (try clear hi); (try clear ho0); (try clear ho1); (try clear ho2)) | ((with_reducible refine gate_dst (N := 3) rfl ?_); refine box_event ?hg (N := 3) ?hd (cs := #[.int .i64 0, .slice none 0 0]) (t := 28) ?hr ?_; (case hd => rfl); (case hg => rfl); (case hr => first | (go_simp; done) | (go_simp; rfl)); intro gb450 hg w10 hbox hb; have q_ := qB (by repeat (first | (with_reducible first | exact HB.out | apply bA | apply bN | apply bD) | exact HB.out)) hb; have n0_ := mk0 (Kd.R_below (by (with_reducible repeat (first | apply Kd.R_alloc | apply Kd.R_drewN | apply Kd.R_drew)); exact HO442.out) hb); have n1_ := mk0 (Kd.R_below (by (with_reducible repeat (first | apply Kd.R_alloc | apply Kd.R_drewN | apply Kd.R_drew)); exact HO446.out) hb); have n2_ := mk0 (Kd.R_below (by (with_reducible repeat (first | apply Kd.R_alloc | apply Kd.R_drewN | apply Kd.R_drew)); exact HO449.out) hb); have n3_ := mk0 (below_step q_ hb); have n4_ := mk0 (hbox); have n5_ := mk0 ((by rw [hg]; exact (below_size q_) : w.heap.size ≤ gb450)); have n6_ := n5_; clear HO442; clear HO446; clear HO449; clear HB; have HO442 := n0_; have HO446 := n1_; have HO449 := n2_; have HB := n3_; have BK450 := n4_; have GW450 := n5_; have GE450 := n6_; clear q_ n0_ n1_ n2_ n3_ n4_ n5_ n6_; clear hb hbox hg) | ((with_reducible refine gate_dst (N := 4) rfl ?_); refine box_event ?hg (N := 4) ?hd (cs := #[.int .i64 0, .slice none 0 0]) (t := 28) ?hr ?_; (case hd => rfl); (case hg => rfl); (case hr => first | (go_simp; done) | (go_simp; rfl)); intro gb451 hg w11 hbox hb; have q_ := qB (by repeat (first | (with_reducible first | exact HB.out | apply bA | apply bN | apply bD | refine bS ?_ GE450.out) | exact HB.out)) hb; have n0_ := mk0 (Kd.R_below (by (with_reducible repeat (first | apply Kd.R_alloc | apply Kd.R_drewN | apply Kd.R_drew)); exact HO442.out) hb); have n1_ := mk0 (Kd.R_below (by (with_reducible repeat (first | apply Kd.R_alloc | apply Kd.R_drewN | apply Kd.R_drew)); exact HO446.out) hb); have n2_ := mk0 (Kd.R_below (by (with_reducible repeat (first | apply Kd.R_alloc | apply Kd.R_drewN | apply Kd.R_drew)); exact HO449.out) hb); have n3_ := mk0 (blk_below (by (with_reducible repeat (first | refine kN ?_ _ | refine kD ?_ | refine kA ?_ _)); exact BK450.out) hb); have n4_ := mk0 (below_step q_ hb); have n5_ := mk0 (hbox); have n6_ := mk0 (below_size2 q_ hg); have n7_ := n6_; have n8_ := mk0 ((by rw [hg]; exact Nat.ne_of_lt (blk_lt (by (with_reducible repeat (first | refine kN ?_ _ | refine kD ?_ | refine kA ?_ _)); exact BK450.out)) : gb450 ≠ gb451)); have n9_ := mk0 ((by rw [hg]; exact Nat.ne_of_gt (blk_lt (by (with_reducible repeat (first | refine kN ?_ _ | refine kD ?_ | refine kA ?_ _)); exact BK450.out)) : gb451 ≠ gb450)); clear HO442; clear HO446; clear HO449; clear BK450; clear HB; have HO442 := n0_; have HO446 := n1_; have HO449 := n2_; have BK450 := n3_; have HB := n4_; have BK451 := n5_; have GW451 := n6_; have GE451 := n7_; have NB450_451 := n8_; have NB451_450 := n9_; clear q_ n0_ n1_ n2_ n3_ n4_ n5_ n6_ n7_ n8_ n9_; clear hb hbox hg; have hnb12 := NB450_451.out; have hnc12 := NB451_450.out; have z13 := bc2 BK450.out; obtain ⟨Ao14, co14, eo14⟩ := Kd.R_slice HO442.out; subst eo14; have z15 := bc2 BK451.out; obtain ⟨Ao16, co16, eo16⟩ := Kd.R_slice HO446.out; subst eo16; obtain ⟨Ao17, co17, eo17⟩ := Kd.R_slice HO449.out; subst eo17) | ((with_reducible refine gate_callee (f := 31) rfl ?_); refine goesL_ (some 21) rfl rfl Try.func31 (by kernel_rfl) rfl #[.agg #[.int .i64 t439, .slice Ao14 t440.length co14], .agg #[.int .i64 t443, .slice Ao16 t444.length co16], .string (⟨#[105]⟩ : ByteArray), .slice Ao17 t447.length co17] rfl (by (try simp only [List.map_toArray, List.map_cons, List.map_nil]); first | done | rfl) ?_; (with_reducible refine (impl_MayMeet.calls k t439 _ _ t440 t443 _ _ t444 (⟨#[105]⟩ : ByteArray) _ _ t447 t452 _ ?side1 ?side2 ?side3 ?side4 ?side5 ?side6 A5.out).mono ?_); (case side1 => refine (Kd.R_reads' (e := 70) (base := w.heap.size) (ok := fun k_ => some k_ ≠ (.slice Ao16 t444.length co16 : Value).ownBlock) (n := t440.length) (c := co14) ?_).2.2; exact (by (with_reducible repeat (first | apply Kd.R_alloc | apply Kd.R_drewN | apply Kd.R_drew)); exact (Kd.R_mono (Kd.R_mono (Kd.R_far (p := ⟨gb451, 1, none⟩) (Kd.R_far (p := ⟨gb451, 0, none⟩) (Kd.R_far (p := ⟨gb450, 1, none⟩) (Kd.R_far (p := ⟨gb450, 0, none⟩) (Kd.R_types (Kd.R_types HO442.out BK450.out (by decide)) BK451.out (by decide)) (fun _ hk => hk.1.2) (.int .i64 t439)) (fun _ hk => hk.1.2) (.slice Ao14 t440.length co14)) (fun _ hk => hk.2) (.int .i64 t443)) (fun _ hk => hk.2) (.slice Ao16 t444.length co16)) (fun _ h_ => h_.1)) (fun _ h_ => h_.1)))); (case side2 => exact (Kd.R_reads' HO442.out).2.1); (case side3 => refine (Kd.R_reads' (e := 70) (base := w.heap.size) (ok := fun k_ => some k_ ≠ (.slice Ao14 t440.length co14 : Value).ownBlock) (n := t444.length) (c := co16) ?_).2.2; exact (by (with_reducible repeat (first | apply Kd.R_alloc | apply Kd.R_drewN | apply Kd.R_drew)); exact (Kd.R_mono (Kd.R_mono (Kd.R_far (p := ⟨gb451, 1, none⟩) (Kd.R_far (p := ⟨gb451, 0, none⟩) (Kd.R_far (p := ⟨gb450, 1, none⟩) (Kd.R_far (p := ⟨gb450, 0, none⟩) (Kd.R_types (Kd.R_types HO446.out BK450.out (by decide)) BK451.out (by decide)) (fun _ hk => hk.1.2) (.int .i64 t439)) (fun _ hk => hk.1.2) (.slice Ao14 t440.length co14)) (fun _ hk => hk.2) (.int .i64 t443)) (fun _ hk => hk.2) (.slice Ao16 t444.length co16)) (fun _ h_ => h_.1)) (fun _ h_ => h_.1)))); (case side4 => exact (Kd.R_reads' HO446.out).2.1); (case side5 => refine (Kd.R_reads' (e := 56) (base := w.heap.size) (ok := fun k_ => True) (n := t447.length) (c := co17) ?_).2.2; exact (by (with_reducible repeat (first | apply Kd.R_alloc | apply Kd.R_drewN | apply Kd.R_drew)); exact (Kd.R_mono (Kd.R_mono (Kd.R_far (p := ⟨gb451, 1, none⟩) (Kd.R_far (p := ⟨gb451, 0, none⟩) (Kd.R_far (p := ⟨gb450, 1, none⟩) (Kd.R_far (p := ⟨gb450, 0, none⟩) (Kd.R_types (Kd.R_types HO449.out BK450.out (by decide)) BK451.out (by decide)) (fun _ hk => hk.1.2) (.int .i64 t439)) (fun _ hk => hk.1.2) (.slice Ao14 t440.length co14)) (fun _ hk => hk.2) (.int .i64 t443)) (fun _ hk => hk.2) (.slice Ao16 t444.length co16)) (fun _ h_ => h_.1)) (fun _ h_ => h_.1)))); (case side6 => exact (Kd.R_reads' HO449.out).2.1); rintro e w18 ⟨rfl, hb⟩; refine ⟨_, rfl, ?_⟩; have n0_ := mk0 (Kd.R_below (by (with_reducible repeat (first | apply Kd.R_alloc | apply Kd.R_drewN | apply Kd.R_drew)); exact (Kd.R_mono (Kd.R_mono (Kd.R_far (p := ⟨gb451, 1, none⟩) (Kd.R_far (p := ⟨gb451, 0, none⟩) (Kd.R_far (p := ⟨gb450, 1, none⟩) (Kd.R_far (p := ⟨gb450, 0, none⟩) (Kd.R_types (Kd.R_types HO442.out BK450.out (by decide)) BK451.out (by decide)) (fun _ hk => hk.1.2) (.int .i64 t439)) (fun _ hk => hk.1.2) (.slice Ao14 t440.length co14)) (fun _ hk => hk.2) (.int .i64 t443)) (fun _ hk => hk.2) (.slice Ao16 t444.length co16)) (fun _ h_ => h_.1)) (fun _ h_ => h_.1))) hb); have n1_ := mk0 (Kd.R_below (by (with_reducible repeat (first | apply Kd.R_alloc | apply Kd.R_drewN | apply Kd.R_drew)); exact (Kd.R_mono (Kd.R_mono (Kd.R_far (p := ⟨gb451, 1, none⟩) (Kd.R_far (p := ⟨gb451, 0, none⟩) (Kd.R_far (p := ⟨gb450, 1, none⟩) (Kd.R_far (p := ⟨gb450, 0, none⟩) (Kd.R_types (Kd.R_types HO446.out BK450.out (by decide)) BK451.out (by decide)) (fun _ hk => hk.1.2) (.int .i64 t439)) (fun _ hk => hk.1.2) (.slice Ao14 t440.length co14)) (fun _ hk => hk.2) (.int .i64 t443)) (fun _ hk => hk.2) (.slice Ao16 t444.length co16)) (fun _ h_ => h_.1)) (fun _ h_ => h_.1))) hb); have n2_ := mk0 (Kd.R_below (by (with_reducible repeat (first | apply Kd.R_alloc | apply Kd.R_drewN | apply Kd.R_drew)); exact (Kd.R_mono (Kd.R_mono (Kd.R_far (p := ⟨gb451, 1, none⟩) (Kd.R_far (p := ⟨gb451, 0, none⟩) (Kd.R_far (p := ⟨gb450, 1, none⟩) (Kd.R_far (p := ⟨gb450, 0, none⟩) (Kd.R_types (Kd.R_types HO449.out BK450.out (by decide)) BK451.out (by decide)) (fun _ hk => hk.1.2) (.int .i64 t439)) (fun _ hk => hk.1.2) (.slice Ao14 t440.length co14)) (fun _ hk => hk.2) (.int .i64 t443)) (fun _ hk => hk.2) (.slice Ao16 t444.length co16)) (fun _ h_ => h_.1)) (fun _ h_ => h_.1))) hb); have n3_ := mk0 (blk_below (g := gb450) (o := .cells #[.int .i64 t439, .slice Ao14 t440.length co14] 28 (0, 0)) (by (with_reducible repeat (first | refine kN ?_ _ | refine kD ?_ | refine kA ?_ _)); refine blk_far ?_ NB450_451.out _; (with_reducible repeat (first | refine kN ?_ _ | refine kD ?_ | refine kA ?_ _)); refine blk_far ?_ NB450_451.out _; (with_reducible repeat (first | refine kN ?_ _ | refine kD ?_ | refine kA ?_ _)); refine blk_put (cs := #[.int .i64 t439, .slice none 0 0]) ?_ 1 _ rfl; (with_reducible repeat (first | refine kN ?_ _ | refine kD ?_ | refine kA ?_ _)); refine blk_put (cs := #[.int .i64 0, .slice none 0 0]) ?_ 0 _ rfl; (with_reducible repeat (first | refine kN ?_ _ | refine kD ?_ | refine kA ?_ _)); exact BK450.out) hb); have n4_ := mk0 (blk_below (g := gb451) (o := .cells #[.int .i64 t443, .slice Ao16 t444.length co16] 28 (0, 0)) (by (with_reducible repeat (first | refine kN ?_ _ | refine kD ?_ | refine kA ?_ _)); refine blk_put (cs := #[.int .i64 t443, .slice none 0 0]) ?_ 1 _ rfl; (with_reducible repeat (first | refine kN ?_ _ | refine kD ?_ | refine kA ?_ _)); refine blk_put (cs := #[.int .i64 0, .slice none 0 0]) ?_ 0 _ rfl; (with_reducible repeat (first | refine kN ?_ _ | refine kD ?_ | refine kA ?_ _)); refine blk_far ?_ NB451_450.out _; (with_reducible repeat (first | refine kN ?_ _ | refine kD ?_ | refine kA ?_ _)); refine blk_far ?_ NB451_450.out _; (with_reducible repeat (first | refine kN ?_ _ | refine kD ?_ | refine kA ?_ _)); exact BK451.out) hb); have n5_ := mk0 (below_step (by repeat (first | (with_reducible first | exact HB.out | apply bA | apply bN | apply bD | refine bS ?_ GE450.out | refine bS ?_ GE451.out) | exact HB.out)) hb); clear HO442; clear HO446; clear HO449; clear BK450; clear BK451; clear HB; have HO442 := n0_; have HO446 := n1_; have HO449 := n2_; have BK450 := n3_; have BK451 := n4_; have HB := n5_; clear n0_ n1_ n2_ n3_ n4_ n5_; (try clear hb); (try clear hb2); (try clear hk); (try clear hi); have z19 := bc2 BK450.out; have z20 := bc2 BK451.out) | ((with_reducible refine gate_callee (f := 32) rfl ?_); refine goesL_ (some 26) rfl rfl Try.func32 (by kernel_rfl) rfl #[.agg #[.int .i64 t439, .slice Ao14 t440.length co14], .agg #[.int .i64 t443, .slice Ao16 t444.length co16], .string (⟨#[105]⟩ : ByteArray), .slice Ao17 t447.length co17] rfl (by (try simp only [List.map_toArray, List.map_cons, List.map_nil]); first | done | rfl) ?_; (with_reducible refine (spec_MayMeet.calls k t439 _ _ t440 t443 _ _ t444 (⟨#[105]⟩ : ByteArray) _ _ t447 t453 _ ?side1 ?side2 ?side3 ?side4 ?side5 ?side6 A6.out).mono ?_); (case side1 => repeat (first | exact (Kd.R_reads' HO442.out).2.2 | (with_reducible refine cA ?_ _) | (with_reducible refine cN ?_ _) | (with_reducible refine cD ?_))); (case side2 => exact (Kd.R_reads' HO442.out).2.1); (case side3 => repeat (first | exact (Kd.R_reads' HO446.out).2.2 | (with_reducible refine cA ?_ _) | (with_reducible refine cN ?_ _) | (with_reducible refine cD ?_))); (case side4 => exact (Kd.R_reads' HO446.out).2.1); (case side5 => repeat (first | exact (Kd.R_reads' HO449.out).2.2 | (with_reducible refine cA ?_ _) | (with_reducible refine cN ?_ _) | (with_reducible refine cD ?_))); (case side6 => exact (Kd.R_reads' HO449.out).2.1); rintro e w21 ⟨rfl, hb⟩; refine ⟨_, rfl, ?_⟩; have n0_ := mk0 (Kd.R_below (by (with_reducible repeat (first | apply Kd.R_alloc | apply Kd.R_drewN | apply Kd.R_drew)); exact HO442.out) hb); have n1_ := mk0 (Kd.R_below (by (with_reducible repeat (first | apply Kd.R_alloc | apply Kd.R_drewN | apply Kd.R_drew)); exact HO446.out) hb); have n2_ := mk0 (Kd.R_below (by (with_reducible repeat (first | apply Kd.R_alloc | apply Kd.R_drewN | apply Kd.R_drew)); exact HO449.out) hb); have n3_ := mk0 (blk_below (by (with_reducible repeat (first | refine kN ?_ _ | refine kD ?_ | refine kA ?_ _)); exact BK450.out) hb); have n4_ := mk0 (blk_below (by (with_reducible repeat (first | refine kN ?_ _ | refine kD ?_ | refine kA ?_ _)); exact BK451.out) hb); have n5_ := mk0 (below_step (by repeat (first | (with_reducible first | exact HB.out | apply bA | apply bN | apply bD | refine bS ?_ GE450.out | refine bS ?_ GE451.out) | exact HB.out)) hb); clear HO442; clear HO446; clear HO449; clear BK450; clear BK451; clear HB; have HO442 := n0_; have HO446 := n1_; have HO449 := n2_; have BK450 := n3_; have BK451 := n4_; have HB := n5_; clear n0_ n1_ n2_ n3_ n4_ n5_; (try clear hb); (try clear hb2); (try clear hk); (try clear hi); have p454 : 0 ≤ (0 : Int) := (by omega); have q454 : 0 < (t447.length : Int) := of_decide_eq_true (by first | (with_reducible assumption) | assumption); obtain ⟨ad454, e454, hx454_0, hx454_1, hx454_2⟩ := at_T56 (Kd.R_reads' HO449.out).2.2 0 p454 q454; cases e454; have qi454 : (0 < t447.length) = True := eq_true (by omega); (try rw [show ((0 : Int)).toNat = 0 from rfl] at hx454_0); (try rw [show 0 * 3 = 0 from rfl] at hx454_0); (try rw [Addr.add_zero'] at hx454_0); (try rw [show ((0 : Int)).toNat = 0 from rfl] at hx454_1); (try rw [show 0 * 3 = 0 from rfl] at hx454_1); (try rw [Addr.add_zero'] at hx454_1); (try rw [show ((0 : Int)).toNat = 0 from rfl] at hx454_2); (try rw [show 0 * 3 = 0 from rfl] at hx454_2); (try rw [Addr.add_zero'] at hx454_2); replace p454 := eq_true p454; replace q454 := eq_true q454))
        go_loopg [7] k (fun kq v7 w' => ∃ (x7_1 : Int), v7 = .int .i64 x7_1 ∧ Aside0 (laws_FnMeets.l0 kq t447 t452 x7_1 t439 t440 t443 t444 = some r) ∧ Aside0 (kq ≤ k) ∧ Aside0 (Kd.R k56 56 w' w.heap.size (fun _ => True) (.slice (some ad454) t447.length co17) t447) ∧ Aside0 (Kd.R k70 70 w' w.heap.size (fun k_ => some k_ ≠ ((.slice Ao16 t444.length co16) : Value).ownBlock) (.slice Ao14 t440.length co14) t440) ∧ Aside0 (Kd.R k70 70 w' w.heap.size (fun k_ => some k_ ≠ ((.slice Ao14 t440.length co14) : Value).ownBlock) (.slice Ao16 t444.length co16) t444) ∧ Aside0 (w'.heap[gb450]? = some (.cells #[.int .i64 t439, (.slice Ao14 t440.length co14)] 28 (0, 0))) ∧ Aside0 (w'.heap[gb451]? = some (.cells #[.int .i64 t443, (.slice Ao16 t444.length co16)] 28 (0, 0))) ∧ Aside0 (Below w.heap.size w w'))
        case atStart => exact ⟨((rd_T56 t447 0).f1), (by first | rfl | (simp; done) | (simp [*]; done)), H', ⟨Nat.le_refl _⟩, ⟨by (with_reducible repeat (first | apply Kd.R_alloc | apply Kd.R_drewN | apply Kd.R_drew)); exact HO449.out⟩, ⟨by (with_reducible repeat (first | apply Kd.R_alloc | apply Kd.R_drewN | apply Kd.R_drew)); exact HO442.out⟩, ⟨by (with_reducible repeat (first | apply Kd.R_alloc | apply Kd.R_drewN | apply Kd.R_drew)); exact HO446.out⟩, ⟨by (with_reducible repeat (first | refine kN ?_ _ | refine kD ?_ | refine kA ?_ _)); exact BK450.out⟩, ⟨by (with_reducible repeat (first | refine kN ?_ _ | refine kD ?_ | refine kA ?_ _)); exact BK451.out⟩, ⟨by repeat (first | (with_reducible first | exact HB.out | apply bA | apply bN | apply bD | refine bS ?_ GE450.out | refine bS ?_ GE451.out) | exact HB.out)⟩⟩
        case round =>
          clear H'
          try clear c1
          try clear p2
          try clear c3
          try clear p4
          try clear q4
          try clear hx4
          try clear qi4
          try clear c7
          try clear c7b0
          try clear c7b1
          try clear c7b2
          try clear c8
          try clear c8b0
          try clear c8b1
          try clear c12
          try clear c17
          try clear z13
          try clear z15
          try clear z19
          try clear z20
          try clear z13
          try clear z15
          try clear z19
          try clear z20
          try clear hx454_0
          try clear hx454_1
          try clear hx454_2
          try clear p454
          try clear q454
          obtain ⟨x7_1, rfl, HA, HK1, HO_5, HO_451001, HO_452001, BK450, BK451, HB⟩ := hrel
          cases gk with
          | zero => exact absurd HA.out (by simp [laws_FnMeets.l0])
          | succ k1 =>
            have H := HA.out
            clear HA
            simp only [laws_FnMeets.l0] at H
            by_cases c22 : 0 < (t447.length : Int)
            · rw [if_pos c22] at H
              have c22b0 : decide (0 < (t447.length : Int)) = true := decide_eq_true c22
              have c22b1 : decide (0 < t447.length) = true := decide_eq_true (by omega)
              clear c22
              by_cases c23 : x7_1 ≤ ((rd_T56 t447 0).f2)
              · rw [if_pos c23] at H
                have c23b0 : decide (x7_1 ≤ ((rd_T56 t447 0).f2)) = true := decide_eq_true c23
                clear c23
                have H' := mk0 H
                clear H
                have p455 : 0 ≤ (0 : Int) := (by omega)
                have q455 : 0 < (t447.length : Int) := of_decide_eq_true (by first | (with_reducible assumption) | assumption)
                obtain ⟨ad455, e455, hx455_0, hx455_1, hx455_2⟩ := at_T56 (Kd.R_reads' HO_5.out).2.2 0 p455 q455
                obtain rfl : ad454 = ad455 := (by injection e455)
                have qi455 : (0 < t447.length) = True := eq_true (by omega)
                (try rw [show ((0 : Int)).toNat = 0 from rfl] at hx455_0)
                (try rw [show 0 * 3 = 0 from rfl] at hx455_0)
                (try rw [Addr.add_zero'] at hx455_0)
                (try rw [show ((0 : Int)).toNat = 0 from rfl] at hx455_1)
                (try rw [show 0 * 3 = 0 from rfl] at hx455_1)
                (try rw [Addr.add_zero'] at hx455_1)
                (try rw [show ((0 : Int)).toNat = 0 from rfl] at hx455_2)
                (try rw [show 0 * 3 = 0 from rfl] at hx455_2)
                (try rw [Addr.add_zero'] at hx455_2)
                replace p455 := eq_true p455
                replace q455 := eq_true q455
                have p457 : 0 ≤ (0 : Int) := (by omega)
                have q457 : 0 < (t447.length : Int) := of_decide_eq_true (by first | (with_reducible assumption) | assumption)
                obtain ⟨ad457, e457, hx457_0, hx457_1, hx457_2⟩ := at_T56 (Kd.R_reads' HO_5.out).2.2 0 p457 q457
                obtain rfl : ad454 = ad457 := (by injection e457)
                have qi457 : (0 < t447.length) = True := eq_true (by omega)
                (try rw [show ((0 : Int)).toNat = 0 from rfl] at hx457_0)
                (try rw [show 0 * 3 = 0 from rfl] at hx457_0)
                (try rw [Addr.add_zero'] at hx457_0)
                (try rw [show ((0 : Int)).toNat = 0 from rfl] at hx457_1)
                (try rw [show 0 * 3 = 0 from rfl] at hx457_1)
                (try rw [Addr.add_zero'] at hx457_1)
                (try rw [show ((0 : Int)).toNat = 0 from rfl] at hx457_2)
                (try rw [show 0 * 3 = 0 from rfl] at hx457_2)
                (try rw [Addr.add_zero'] at hx457_2)
                replace p457 := eq_true p457
                replace q457 := eq_true q457
                go_wp2
                go_loopg [8] k1 (fun kq v8 w' => ∃ (x8_2 : Int), v8 = .int .i64 x8_2 ∧ Aside0 (laws_FnMeets.l1 kq t447 t452 x7_1 x8_2 t439 t440 t443 t444 = some r) ∧ Aside0 (kq ≤ k1) ∧ Aside0 (Kd.R k56 56 w' w.heap.size (fun _ => True) (.slice (some ad454) t447.length co17) t447) ∧ Aside0 (Kd.R k70 70 w' w.heap.size (fun k_ => some k_ ≠ ((.slice Ao16 t444.length co16) : Value).ownBlock) (.slice Ao14 t440.length co14) t440) ∧ Aside0 (Kd.R k70 70 w' w.heap.size (fun k_ => some k_ ≠ ((.slice Ao14 t440.length co14) : Value).ownBlock) (.slice Ao16 t444.length co16) t444) ∧ Aside0 (w'.heap[gb450]? = some (.cells #[.int .i64 t439, (.slice Ao14 t440.length co14)] 28 (0, 0))) ∧ Aside0 (w'.heap[gb451]? = some (.cells #[.int .i64 t443, (.slice Ao16 t444.length co16)] 28 (0, 0))) ∧ Aside0 (Below w.heap.size w w'))
                case atStart => exact ⟨((rd_T56 t447 0).f1), (by first | rfl | (simp; done) | (simp [*]; done)), H', ⟨Nat.le_refl _⟩, ⟨by (with_reducible repeat (first | apply Kd.R_alloc | apply Kd.R_drewN | apply Kd.R_drew)); exact HO_5.out⟩, ⟨by (with_reducible repeat (first | apply Kd.R_alloc | apply Kd.R_drewN | apply Kd.R_drew)); exact HO_451001.out⟩, ⟨by (with_reducible repeat (first | apply Kd.R_alloc | apply Kd.R_drewN | apply Kd.R_drew)); exact HO_452001.out⟩, ⟨by (with_reducible repeat (first | refine kN ?_ _ | refine kD ?_ | refine kA ?_ _)); exact BK450.out⟩, ⟨by (with_reducible repeat (first | refine kN ?_ _ | refine kD ?_ | refine kA ?_ _)); exact BK451.out⟩, ⟨by repeat (first | (with_reducible first | exact HB.out | apply bA | apply bN | apply bD | refine bS ?_ GE450.out | refine bS ?_ GE451.out) | exact HB.out)⟩⟩
                case round =>
                  clear H'
                  try clear c1
                  try clear c2
                  try clear p2
                  try clear c3
                  try clear p4
                  try clear q4
                  try clear hx4
                  try clear qi4
                  try clear c7
                  try clear c7b0
                  try clear c7b1
                  try clear c7b2
                  try clear c8
                  try clear c8b0
                  try clear c8b1
                  try clear c12
                  try clear c17
                  try clear c22
                  try clear c22b0
                  try clear c22b1
                  try clear c23
                  try clear c23b0
                  try clear z13
                  try clear z15
                  try clear z19
                  try clear z20
                  try clear z13
                  try clear z15
                  try clear z19
                  try clear z20
                  try clear hx454_0
                  try clear hx454_1
                  try clear hx454_2
                  try clear hx455_0
                  try clear hx455_1
                  try clear hx455_2
                  try clear hx457_0
                  try clear hx457_1
                  try clear hx457_2
                  try clear p2
                  try clear p4
                  try clear p454
                  try clear p455
                  try clear p457
                  try clear q4
                  try clear q454
                  try clear q455
                  try clear q457
                  obtain ⟨x8_2, rfl, HA, HK2, HO_5, HO_451001, HO_452001, BK450, BK451, HB⟩ := hrel
                  cases gk with
                  | zero => exact absurd HA.out (by simp [laws_FnMeets.l1])
                  | succ k2 =>
                    have H := HA.out
                    clear HA
                    simp only [laws_FnMeets.l1] at H
                    by_cases c24 : 0 < (t447.length : Int)
                    · rw [if_pos c24] at H
                      have c24b0 : decide (0 < (t447.length : Int)) = true := decide_eq_true c24
                      have c24b1 : decide (0 < t447.length) = true := decide_eq_true (by omega)
                      clear c24
                      by_cases c25 : x8_2 ≤ ((rd_T56 t447 0).f2)
                      · rw [if_pos c25] at H
                        have c25b0 : decide (x8_2 ≤ ((rd_T56 t447 0).f2)) = true := decide_eq_true c25
                        clear c25
                        obtain ⟨t459, A26, H⟩ := bindA H
                        by_cases c27 : x7_1 = x8_2
                        · rw [if_pos c27] at H
                          have c27b0 : (x7_1 == x8_2) = true := beq_iff_eq.mpr c27
                          have c27b1 : (x7_1 != x8_2) = false := bne_eq_false_iff_eq.mpr c27
                          clear c27
                          by_cases c28 : t459 = true
                          · subst c28
                            rw [if_pos rfl] at H
                            obtain ⟨t460, A29, H⟩ := bindA H
                            by_cases c30 : t460 = true
                            · subst c30
                              rw [if_pos rfl] at H
                              obtain ⟨t461, A31, H⟩ := bindA H
                              by_cases c32 : t461 = true
                              · subst c32
                                rw [if_pos rfl] at H
                                have H' := mk0 H
                                clear H
                                have p458 : 0 ≤ (0 : Int) := (by omega)
                                have q458 : 0 < (t447.length : Int) := of_decide_eq_true (by first | (with_reducible assumption) | assumption)
                                obtain ⟨ad458, e458, hx458_0, hx458_1, hx458_2⟩ := at_T56 (Kd.R_reads' HO_5.out).2.2 0 p458 q458
                                obtain rfl : ad454 = ad458 := (by injection e458)
                                have qi458 : (0 < t447.length) = True := eq_true (by omega)
                                (try rw [show ((0 : Int)).toNat = 0 from rfl] at hx458_0)
                                (try rw [show 0 * 3 = 0 from rfl] at hx458_0)
                                (try rw [Addr.add_zero'] at hx458_0)
                                (try rw [show ((0 : Int)).toNat = 0 from rfl] at hx458_1)
                                (try rw [show 0 * 3 = 0 from rfl] at hx458_1)
                                (try rw [Addr.add_zero'] at hx458_1)
                                (try rw [show ((0 : Int)).toNat = 0 from rfl] at hx458_2)
                                (try rw [show 0 * 3 = 0 from rfl] at hx458_2)
                                (try rw [Addr.add_zero'] at hx458_2)
                                replace p458 := eq_true p458
                                replace q458 := eq_true q458
                                have hnb33 := NB450_451.out
                                have hnc33 := NB451_450.out
                                have z34 := bc2 BK450.out
                                have z35 := bc2 BK451.out
                                go_wp2_with (first | ((with_reducible refine gate_callee (f := 33) rfl ?_); refine goesL_ (some 57) rfl rfl Try.func33 (by kernel_rfl) rfl #[.agg #[.int .i64 t439, .slice Ao14 t440.length co14], .agg #[.int .i64 t443, .slice Ao16 t444.length co16], .string (⟨#[105]⟩ : ByteArray), .int .i64 x7_1, .int .i64 x8_2, .slice (some ad454) t447.length co17] rfl (by (try simp only [List.map_toArray, List.map_cons, List.map_nil]); first | done | rfl) ?_; (with_reducible refine (impl_MeetAt.calls k2 t439 _ _ t440 t443 _ _ t444 (⟨#[105]⟩ : ByteArray) x7_1 x8_2 _ _ t447 true _ ?side1 ?side2 ?side3 ?side4 ?side5 ?side6 A26.out).mono ?_); (case side1 => repeat (first | exact (Kd.R_reads' HO_451001.out).2.2 | (with_reducible refine cA ?_ _) | (with_reducible refine cN ?_ _) | (with_reducible refine cD ?_))); (case side2 => exact (Kd.R_reads' HO_451001.out).2.1); (case side3 => repeat (first | exact (Kd.R_reads' HO_452001.out).2.2 | (with_reducible refine cA ?_ _) | (with_reducible refine cN ?_ _) | (with_reducible refine cD ?_))); (case side4 => exact (Kd.R_reads' HO_452001.out).2.1); (case side5 => repeat (first | exact (Kd.R_reads' HO_5.out).2.2 | (with_reducible refine cA ?_ _) | (with_reducible refine cN ?_ _) | (with_reducible refine cD ?_))); (case side6 => exact (Kd.R_reads' HO_5.out).2.1); rintro e w36 ⟨rfl, hb⟩; refine ⟨_, rfl, ?_⟩; have n0_ := mk0 (Kd.R_below (by (with_reducible repeat (first | apply Kd.R_alloc | apply Kd.R_drewN | apply Kd.R_drew)); exact HO_5.out) hb); have n1_ := mk0 (Kd.R_below (by (with_reducible repeat (first | apply Kd.R_alloc | apply Kd.R_drewN | apply Kd.R_drew)); exact HO_451001.out) hb); have n2_ := mk0 (Kd.R_below (by (with_reducible repeat (first | apply Kd.R_alloc | apply Kd.R_drewN | apply Kd.R_drew)); exact HO_452001.out) hb); have n3_ := mk0 (blk_below (by (with_reducible repeat (first | refine kN ?_ _ | refine kD ?_ | refine kA ?_ _)); exact BK450.out) hb); have n4_ := mk0 (blk_below (by (with_reducible repeat (first | refine kN ?_ _ | refine kD ?_ | refine kA ?_ _)); exact BK451.out) hb); have n5_ := mk0 (below_step (by repeat (first | (with_reducible first | exact HB.out | apply bA | apply bN | apply bD | refine bS ?_ GE450.out | refine bS ?_ GE451.out) | exact HB.out)) hb); clear HO_5; clear HO_451001; clear HO_452001; clear BK450; clear BK451; clear HB; have HO_5 := n0_; have HO_451001 := n1_; have HO_452001 := n2_; have BK450 := n3_; have BK451 := n4_; have HB := n5_; clear n0_ n1_ n2_ n3_ n4_ n5_; (try clear hb); (try clear hb2); (try clear hk); (try clear hi); have z37 := bc2 BK450.out; have z38 := bc2 BK451.out) | (go_at_call 34; (with_reducible refine (impl_GcdMeet.calls k2 t439 (fun k_ => some k_ = (.slice Ao14 t440.length co14 : Value).ownBlock) _ _ t440 t443 (fun k_ => some k_ = (.slice Ao16 t444.length co16 : Value).ownBlock) _ _ t444 true _ ?side1 ?side2 A29.out).mono ?_); (case side1 => exact Kd.R_V (Kd.R_tight rfl (Kd.R_types (Kd.R_types (Kd.R_apart' (HO_451001.out) (Kd.R_typed HO_5.out) (by decide)) BK450.out (by decide)) BK451.out (by decide)))); (case side2 => exact Kd.R_V (Kd.R_tight rfl (Kd.R_types (Kd.R_types (Kd.R_apart' (HO_452001.out) (Kd.R_typed HO_5.out) (by decide)) BK450.out (by decide)) BK451.out (by decide)))); rintro e w39 ⟨rfl, hb⟩; have n0_ := mk0 (Kd.R_below (by (with_reducible repeat (first | apply Kd.R_alloc | apply Kd.R_drewN | apply Kd.R_drew)); exact HO_5.out) hb); have n1_ := mk0 (Kd.R_below (by (with_reducible repeat (first | apply Kd.R_alloc | apply Kd.R_drewN | apply Kd.R_drew)); exact HO_451001.out) hb); have n2_ := mk0 (Kd.R_below (by (with_reducible repeat (first | apply Kd.R_alloc | apply Kd.R_drewN | apply Kd.R_drew)); exact HO_452001.out) hb); have n3_ := mk0 (blk_below (by (with_reducible repeat (first | refine kN ?_ _ | refine kD ?_ | refine kA ?_ _)); exact BK450.out) hb); have n4_ := mk0 (blk_below (by (with_reducible repeat (first | refine kN ?_ _ | refine kD ?_ | refine kA ?_ _)); exact BK451.out) hb); have n5_ := mk0 (below_step (by repeat (first | (with_reducible first | exact HB.out | apply bA | apply bN | apply bD | refine bS ?_ GE450.out | refine bS ?_ GE451.out) | exact HB.out)) hb); clear HO_5; clear HO_451001; clear HO_452001; clear BK450; clear BK451; clear HB; have HO_5 := n0_; have HO_451001 := n1_; have HO_452001 := n2_; have BK450 := n3_; have BK451 := n4_; have HB := n5_; clear n0_ n1_ n2_ n3_ n4_ n5_; (try clear hb); (try clear hb2); (try clear hk); (try clear hi); have z40 := bc2 BK450.out; have z41 := bc2 BK451.out) | (go_at_call 35; (with_reducible refine (impl_RngMeet.calls k2 t439 _ _ t440 t443 _ _ t444 _ _ t447 true _ ?side1 ?side2 ?side3 ?side4 ?side5 ?side6 A31.out).mono ?_); (case side1 => repeat (first | exact (Kd.R_reads' HO_451001.out).2.2 | (with_reducible refine cA ?_ _) | (with_reducible refine cN ?_ _) | (with_reducible refine cD ?_))); (case side2 => exact (Kd.R_reads' HO_451001.out).2.1); (case side3 => repeat (first | exact (Kd.R_reads' HO_452001.out).2.2 | (with_reducible refine cA ?_ _) | (with_reducible refine cN ?_ _) | (with_reducible refine cD ?_))); (case side4 => exact (Kd.R_reads' HO_452001.out).2.1); (case side5 => repeat (first | exact (Kd.R_reads' HO_5.out).2.2 | (with_reducible refine cA ?_ _) | (with_reducible refine cN ?_ _) | (with_reducible refine cD ?_))); (case side6 => exact (Kd.R_reads' HO_5.out).2.1); rintro e w42 ⟨rfl, hb⟩; have n0_ := mk0 (Kd.R_below (by (with_reducible repeat (first | apply Kd.R_alloc | apply Kd.R_drewN | apply Kd.R_drew)); exact HO_5.out) hb); have n1_ := mk0 (Kd.R_below (by (with_reducible repeat (first | apply Kd.R_alloc | apply Kd.R_drewN | apply Kd.R_drew)); exact HO_451001.out) hb); have n2_ := mk0 (Kd.R_below (by (with_reducible repeat (first | apply Kd.R_alloc | apply Kd.R_drewN | apply Kd.R_drew)); exact HO_452001.out) hb); have n3_ := mk0 (blk_below (by (with_reducible repeat (first | refine kN ?_ _ | refine kD ?_ | refine kA ?_ _)); exact BK450.out) hb); have n4_ := mk0 (blk_below (by (with_reducible repeat (first | refine kN ?_ _ | refine kD ?_ | refine kA ?_ _)); exact BK451.out) hb); have n5_ := mk0 (below_step (by repeat (first | (with_reducible first | exact HB.out | apply bA | apply bN | apply bD | refine bS ?_ GE450.out | refine bS ?_ GE451.out) | exact HB.out)) hb); clear HO_5; clear HO_451001; clear HO_452001; clear BK450; clear BK451; clear HB; have HO_5 := n0_; have HO_451001 := n1_; have HO_452001 := n2_; have BK450 := n3_; have BK451 := n4_; have HB := n5_; clear n0_ n1_ n2_ n3_ n4_ n5_; (try clear hb); (try clear hb2); (try clear hk); (try clear hi)))
                                go_roundg k2
                                case measure => have := HK1.out; have := HK2.out; omega
                                case rel => exact ⟨(wrap64 (x8_2 + 1)), (by first | rfl | (simp; done) | (simp [*]; done)), H', ⟨by have := HK1.out; have := HK2.out; omega⟩, ⟨by (with_reducible repeat (first | apply Kd.R_alloc | apply Kd.R_drewN | apply Kd.R_drew)); exact HO_5.out⟩, ⟨by (with_reducible repeat (first | apply Kd.R_alloc | apply Kd.R_drewN | apply Kd.R_drew)); exact HO_451001.out⟩, ⟨by (with_reducible repeat (first | apply Kd.R_alloc | apply Kd.R_drewN | apply Kd.R_drew)); exact HO_452001.out⟩, ⟨by (with_reducible repeat (first | refine kN ?_ _ | refine kD ?_ | refine kA ?_ _)); exact BK450.out⟩, ⟨by (with_reducible repeat (first | refine kN ?_ _ | refine kD ?_ | refine kA ?_ _)); exact BK451.out⟩, ⟨by repeat (first | (with_reducible first | exact HB.out | apply bA | apply bN | apply bD | refine bS ?_ GE450.out | refine bS ?_ GE451.out) | exact HB.out)⟩⟩
                              · replace c32 := Bool.eq_false_iff.mpr c32
                                subst c32
                                rw [if_neg (show ¬ (false = true) by decide)] at H
                                exact absurd H (by simp)
                            · replace c30 := Bool.eq_false_iff.mpr c30
                              subst c30
                              rw [if_neg (show ¬ (false = true) by decide)] at H
                              exact absurd H (by simp)
                          · replace c28 := Bool.eq_false_iff.mpr c28
                            subst c28
                            rw [if_neg (show ¬ (false = true) by decide)] at H
                            have H' := mk0 H
                            clear H
                            have p458 : 0 ≤ (0 : Int) := (by omega)
                            have q458 : 0 < (t447.length : Int) := of_decide_eq_true (by first | (with_reducible assumption) | assumption)
                            obtain ⟨ad458, e458, hx458_0, hx458_1, hx458_2⟩ := at_T56 (Kd.R_reads' HO_5.out).2.2 0 p458 q458
                            obtain rfl : ad454 = ad458 := (by injection e458)
                            have qi458 : (0 < t447.length) = True := eq_true (by omega)
                            (try rw [show ((0 : Int)).toNat = 0 from rfl] at hx458_0)
                            (try rw [show 0 * 3 = 0 from rfl] at hx458_0)
                            (try rw [Addr.add_zero'] at hx458_0)
                            (try rw [show ((0 : Int)).toNat = 0 from rfl] at hx458_1)
                            (try rw [show 0 * 3 = 0 from rfl] at hx458_1)
                            (try rw [Addr.add_zero'] at hx458_1)
                            (try rw [show ((0 : Int)).toNat = 0 from rfl] at hx458_2)
                            (try rw [show 0 * 3 = 0 from rfl] at hx458_2)
                            (try rw [Addr.add_zero'] at hx458_2)
                            replace p458 := eq_true p458
                            replace q458 := eq_true q458
                            have hnb43 := NB450_451.out
                            have hnc43 := NB451_450.out
                            have z44 := bc2 BK450.out
                            have z45 := bc2 BK451.out
                            go_wp2_with (first | ((with_reducible refine gate_callee (f := 33) rfl ?_); refine goesL_ (some 57) rfl rfl Try.func33 (by kernel_rfl) rfl #[.agg #[.int .i64 t439, .slice Ao14 t440.length co14], .agg #[.int .i64 t443, .slice Ao16 t444.length co16], .string (⟨#[105]⟩ : ByteArray), .int .i64 x7_1, .int .i64 x8_2, .slice (some ad454) t447.length co17] rfl (by (try simp only [List.map_toArray, List.map_cons, List.map_nil]); first | done | rfl) ?_; (with_reducible refine (impl_MeetAt.calls k2 t439 _ _ t440 t443 _ _ t444 (⟨#[105]⟩ : ByteArray) x7_1 x8_2 _ _ t447 false _ ?side1 ?side2 ?side3 ?side4 ?side5 ?side6 A26.out).mono ?_); (case side1 => repeat (first | exact (Kd.R_reads' HO_451001.out).2.2 | (with_reducible refine cA ?_ _) | (with_reducible refine cN ?_ _) | (with_reducible refine cD ?_))); (case side2 => exact (Kd.R_reads' HO_451001.out).2.1); (case side3 => repeat (first | exact (Kd.R_reads' HO_452001.out).2.2 | (with_reducible refine cA ?_ _) | (with_reducible refine cN ?_ _) | (with_reducible refine cD ?_))); (case side4 => exact (Kd.R_reads' HO_452001.out).2.1); (case side5 => repeat (first | exact (Kd.R_reads' HO_5.out).2.2 | (with_reducible refine cA ?_ _) | (with_reducible refine cN ?_ _) | (with_reducible refine cD ?_))); (case side6 => exact (Kd.R_reads' HO_5.out).2.1); rintro e w46 ⟨rfl, hb⟩; refine ⟨_, rfl, ?_⟩; have n0_ := mk0 (Kd.R_below (by (with_reducible repeat (first | apply Kd.R_alloc | apply Kd.R_drewN | apply Kd.R_drew)); exact HO_5.out) hb); have n1_ := mk0 (Kd.R_below (by (with_reducible repeat (first | apply Kd.R_alloc | apply Kd.R_drewN | apply Kd.R_drew)); exact HO_451001.out) hb); have n2_ := mk0 (Kd.R_below (by (with_reducible repeat (first | apply Kd.R_alloc | apply Kd.R_drewN | apply Kd.R_drew)); exact HO_452001.out) hb); have n3_ := mk0 (blk_below (by (with_reducible repeat (first | refine kN ?_ _ | refine kD ?_ | refine kA ?_ _)); exact BK450.out) hb); have n4_ := mk0 (blk_below (by (with_reducible repeat (first | refine kN ?_ _ | refine kD ?_ | refine kA ?_ _)); exact BK451.out) hb); have n5_ := mk0 (below_step (by repeat (first | (with_reducible first | exact HB.out | apply bA | apply bN | apply bD | refine bS ?_ GE450.out | refine bS ?_ GE451.out) | exact HB.out)) hb); clear HO_5; clear HO_451001; clear HO_452001; clear BK450; clear BK451; clear HB; have HO_5 := n0_; have HO_451001 := n1_; have HO_452001 := n2_; have BK450 := n3_; have BK451 := n4_; have HB := n5_; clear n0_ n1_ n2_ n3_ n4_ n5_; (try clear hb); (try clear hb2); (try clear hk); (try clear hi)))
                            go_roundg k2
                            case measure => have := HK1.out; have := HK2.out; omega
                            case rel => exact ⟨(wrap64 (x8_2 + 1)), (by first | rfl | (simp; done) | (simp [*]; done)), H', ⟨by have := HK1.out; have := HK2.out; omega⟩, ⟨by (with_reducible repeat (first | apply Kd.R_alloc | apply Kd.R_drewN | apply Kd.R_drew)); exact HO_5.out⟩, ⟨by (with_reducible repeat (first | apply Kd.R_alloc | apply Kd.R_drewN | apply Kd.R_drew)); exact HO_451001.out⟩, ⟨by (with_reducible repeat (first | apply Kd.R_alloc | apply Kd.R_drewN | apply Kd.R_drew)); exact HO_452001.out⟩, ⟨by (with_reducible repeat (first | refine kN ?_ _ | refine kD ?_ | refine kA ?_ _)); exact BK450.out⟩, ⟨by (with_reducible repeat (first | refine kN ?_ _ | refine kD ?_ | refine kA ?_ _)); exact BK451.out⟩, ⟨by repeat (first | (with_reducible first | exact HB.out | apply bA | apply bN | apply bD | refine bS ?_ GE450.out | refine bS ?_ GE451.out) | exact HB.out)⟩⟩
                        · rw [if_neg c27] at H
                          have c27b0 : (x7_1 == x8_2) = false := beq_eq_false_iff_ne.mpr c27
                          have c27b1 : (x7_1 != x8_2) = true := bne_iff_ne.mpr c27
                          by_cases c47 : t459 = true
                          · subst c47
                            rw [if_pos rfl] at H
                            by_cases c48 : t452 = true
                            · subst c48
                              rw [if_pos rfl] at H
                              obtain ⟨t462, A49, H⟩ := bindA H
                              by_cases c50 : t462 = true
                              · subst c50
                                rw [if_pos rfl] at H
                                obtain ⟨t463, A51, H⟩ := bindA H
                                by_cases c52 : t463 = true
                                · subst c52
                                  rw [if_pos rfl] at H
                                  have H' := mk0 H
                                  clear H
                                  have p458 : 0 ≤ (0 : Int) := (by omega)
                                  have q458 : 0 < (t447.length : Int) := of_decide_eq_true (by first | (with_reducible assumption) | assumption)
                                  obtain ⟨ad458, e458, hx458_0, hx458_1, hx458_2⟩ := at_T56 (Kd.R_reads' HO_5.out).2.2 0 p458 q458
                                  obtain rfl : ad454 = ad458 := (by injection e458)
                                  have qi458 : (0 < t447.length) = True := eq_true (by omega)
                                  (try rw [show ((0 : Int)).toNat = 0 from rfl] at hx458_0)
                                  (try rw [show 0 * 3 = 0 from rfl] at hx458_0)
                                  (try rw [Addr.add_zero'] at hx458_0)
                                  (try rw [show ((0 : Int)).toNat = 0 from rfl] at hx458_1)
                                  (try rw [show 0 * 3 = 0 from rfl] at hx458_1)
                                  (try rw [Addr.add_zero'] at hx458_1)
                                  (try rw [show ((0 : Int)).toNat = 0 from rfl] at hx458_2)
                                  (try rw [show 0 * 3 = 0 from rfl] at hx458_2)
                                  (try rw [Addr.add_zero'] at hx458_2)
                                  replace p458 := eq_true p458
                                  replace q458 := eq_true q458
                                  have hnb53 := NB450_451.out
                                  have hnc53 := NB451_450.out
                                  have z54 := bc2 BK450.out
                                  have z55 := bc2 BK451.out
                                  go_wp2_with (first | ((with_reducible refine gate_callee (f := 33) rfl ?_); refine goesL_ (some 57) rfl rfl Try.func33 (by kernel_rfl) rfl #[.agg #[.int .i64 t439, .slice Ao14 t440.length co14], .agg #[.int .i64 t443, .slice Ao16 t444.length co16], .string (⟨#[105]⟩ : ByteArray), .int .i64 x7_1, .int .i64 x8_2, .slice (some ad454) t447.length co17] rfl (by (try simp only [List.map_toArray, List.map_cons, List.map_nil]); first | done | rfl) ?_; (with_reducible refine (impl_MeetAt.calls k2 t439 _ _ t440 t443 _ _ t444 (⟨#[105]⟩ : ByteArray) x7_1 x8_2 _ _ t447 true _ ?side1 ?side2 ?side3 ?side4 ?side5 ?side6 A26.out).mono ?_); (case side1 => repeat (first | exact (Kd.R_reads' HO_451001.out).2.2 | (with_reducible refine cA ?_ _) | (with_reducible refine cN ?_ _) | (with_reducible refine cD ?_))); (case side2 => exact (Kd.R_reads' HO_451001.out).2.1); (case side3 => repeat (first | exact (Kd.R_reads' HO_452001.out).2.2 | (with_reducible refine cA ?_ _) | (with_reducible refine cN ?_ _) | (with_reducible refine cD ?_))); (case side4 => exact (Kd.R_reads' HO_452001.out).2.1); (case side5 => repeat (first | exact (Kd.R_reads' HO_5.out).2.2 | (with_reducible refine cA ?_ _) | (with_reducible refine cN ?_ _) | (with_reducible refine cD ?_))); (case side6 => exact (Kd.R_reads' HO_5.out).2.1); rintro e w56 ⟨rfl, hb⟩; refine ⟨_, rfl, ?_⟩; have n0_ := mk0 (Kd.R_below (by (with_reducible repeat (first | apply Kd.R_alloc | apply Kd.R_drewN | apply Kd.R_drew)); exact HO_5.out) hb); have n1_ := mk0 (Kd.R_below (by (with_reducible repeat (first | apply Kd.R_alloc | apply Kd.R_drewN | apply Kd.R_drew)); exact HO_451001.out) hb); have n2_ := mk0 (Kd.R_below (by (with_reducible repeat (first | apply Kd.R_alloc | apply Kd.R_drewN | apply Kd.R_drew)); exact HO_452001.out) hb); have n3_ := mk0 (blk_below (by (with_reducible repeat (first | refine kN ?_ _ | refine kD ?_ | refine kA ?_ _)); exact BK450.out) hb); have n4_ := mk0 (blk_below (by (with_reducible repeat (first | refine kN ?_ _ | refine kD ?_ | refine kA ?_ _)); exact BK451.out) hb); have n5_ := mk0 (below_step (by repeat (first | (with_reducible first | exact HB.out | apply bA | apply bN | apply bD | refine bS ?_ GE450.out | refine bS ?_ GE451.out) | exact HB.out)) hb); clear HO_5; clear HO_451001; clear HO_452001; clear BK450; clear BK451; clear HB; have HO_5 := n0_; have HO_451001 := n1_; have HO_452001 := n2_; have BK450 := n3_; have BK451 := n4_; have HB := n5_; clear n0_ n1_ n2_ n3_ n4_ n5_; (try clear hb); (try clear hb2); (try clear hk); (try clear hi); have z57 := bc2 BK450.out; have z58 := bc2 BK451.out) | (go_at_call 34; (with_reducible refine (impl_GcdMeet.calls k2 t439 (fun k_ => some k_ = (.slice Ao14 t440.length co14 : Value).ownBlock) _ _ t440 t443 (fun k_ => some k_ = (.slice Ao16 t444.length co16 : Value).ownBlock) _ _ t444 true _ ?side1 ?side2 A49.out).mono ?_); (case side1 => exact Kd.R_V (Kd.R_tight rfl (Kd.R_types (Kd.R_types (Kd.R_apart' (HO_451001.out) (Kd.R_typed HO_5.out) (by decide)) BK450.out (by decide)) BK451.out (by decide)))); (case side2 => exact Kd.R_V (Kd.R_tight rfl (Kd.R_types (Kd.R_types (Kd.R_apart' (HO_452001.out) (Kd.R_typed HO_5.out) (by decide)) BK450.out (by decide)) BK451.out (by decide)))); rintro e w59 ⟨rfl, hb⟩; have n0_ := mk0 (Kd.R_below (by (with_reducible repeat (first | apply Kd.R_alloc | apply Kd.R_drewN | apply Kd.R_drew)); exact HO_5.out) hb); have n1_ := mk0 (Kd.R_below (by (with_reducible repeat (first | apply Kd.R_alloc | apply Kd.R_drewN | apply Kd.R_drew)); exact HO_451001.out) hb); have n2_ := mk0 (Kd.R_below (by (with_reducible repeat (first | apply Kd.R_alloc | apply Kd.R_drewN | apply Kd.R_drew)); exact HO_452001.out) hb); have n3_ := mk0 (blk_below (by (with_reducible repeat (first | refine kN ?_ _ | refine kD ?_ | refine kA ?_ _)); exact BK450.out) hb); have n4_ := mk0 (blk_below (by (with_reducible repeat (first | refine kN ?_ _ | refine kD ?_ | refine kA ?_ _)); exact BK451.out) hb); have n5_ := mk0 (below_step (by repeat (first | (with_reducible first | exact HB.out | apply bA | apply bN | apply bD | refine bS ?_ GE450.out | refine bS ?_ GE451.out) | exact HB.out)) hb); clear HO_5; clear HO_451001; clear HO_452001; clear BK450; clear BK451; clear HB; have HO_5 := n0_; have HO_451001 := n1_; have HO_452001 := n2_; have BK450 := n3_; have BK451 := n4_; have HB := n5_; clear n0_ n1_ n2_ n3_ n4_ n5_; (try clear hb); (try clear hb2); (try clear hk); (try clear hi); have z60 := bc2 BK450.out; have z61 := bc2 BK451.out) | (go_at_call 35; (with_reducible refine (impl_RngMeet.calls k2 t439 _ _ t440 t443 _ _ t444 _ _ t447 true _ ?side1 ?side2 ?side3 ?side4 ?side5 ?side6 A51.out).mono ?_); (case side1 => repeat (first | exact (Kd.R_reads' HO_451001.out).2.2 | (with_reducible refine cA ?_ _) | (with_reducible refine cN ?_ _) | (with_reducible refine cD ?_))); (case side2 => exact (Kd.R_reads' HO_451001.out).2.1); (case side3 => repeat (first | exact (Kd.R_reads' HO_452001.out).2.2 | (with_reducible refine cA ?_ _) | (with_reducible refine cN ?_ _) | (with_reducible refine cD ?_))); (case side4 => exact (Kd.R_reads' HO_452001.out).2.1); (case side5 => repeat (first | exact (Kd.R_reads' HO_5.out).2.2 | (with_reducible refine cA ?_ _) | (with_reducible refine cN ?_ _) | (with_reducible refine cD ?_))); (case side6 => exact (Kd.R_reads' HO_5.out).2.1); rintro e w62 ⟨rfl, hb⟩; have n0_ := mk0 (Kd.R_below (by (with_reducible repeat (first | apply Kd.R_alloc | apply Kd.R_drewN | apply Kd.R_drew)); exact HO_5.out) hb); have n1_ := mk0 (Kd.R_below (by (with_reducible repeat (first | apply Kd.R_alloc | apply Kd.R_drewN | apply Kd.R_drew)); exact HO_451001.out) hb); have n2_ := mk0 (Kd.R_below (by (with_reducible repeat (first | apply Kd.R_alloc | apply Kd.R_drewN | apply Kd.R_drew)); exact HO_452001.out) hb); have n3_ := mk0 (blk_below (by (with_reducible repeat (first | refine kN ?_ _ | refine kD ?_ | refine kA ?_ _)); exact BK450.out) hb); have n4_ := mk0 (blk_below (by (with_reducible repeat (first | refine kN ?_ _ | refine kD ?_ | refine kA ?_ _)); exact BK451.out) hb); have n5_ := mk0 (below_step (by repeat (first | (with_reducible first | exact HB.out | apply bA | apply bN | apply bD | refine bS ?_ GE450.out | refine bS ?_ GE451.out) | exact HB.out)) hb); clear HO_5; clear HO_451001; clear HO_452001; clear BK450; clear BK451; clear HB; have HO_5 := n0_; have HO_451001 := n1_; have HO_452001 := n2_; have BK450 := n3_; have BK451 := n4_; have HB := n5_; clear n0_ n1_ n2_ n3_ n4_ n5_; (try clear hb); (try clear hb2); (try clear hk); (try clear hi)))
                                  go_roundg k2
                                  case measure => have := HK1.out; have := HK2.out; omega
                                  case rel => exact ⟨(wrap64 (x8_2 + 1)), (by first | rfl | (simp; done) | (simp [*]; done)), H', ⟨by have := HK1.out; have := HK2.out; omega⟩, ⟨by (with_reducible repeat (first | apply Kd.R_alloc | apply Kd.R_drewN | apply Kd.R_drew)); exact HO_5.out⟩, ⟨by (with_reducible repeat (first | apply Kd.R_alloc | apply Kd.R_drewN | apply Kd.R_drew)); exact HO_451001.out⟩, ⟨by (with_reducible repeat (first | apply Kd.R_alloc | apply Kd.R_drewN | apply Kd.R_drew)); exact HO_452001.out⟩, ⟨by (with_reducible repeat (first | refine kN ?_ _ | refine kD ?_ | refine kA ?_ _)); exact BK450.out⟩, ⟨by (with_reducible repeat (first | refine kN ?_ _ | refine kD ?_ | refine kA ?_ _)); exact BK451.out⟩, ⟨by repeat (first | (with_reducible first | exact HB.out | apply bA | apply bN | apply bD | refine bS ?_ GE450.out | refine bS ?_ GE451.out) | exact HB.out)⟩⟩
                                · replace c52 := Bool.eq_false_iff.mpr c52
                                  subst c52
                                  rw [if_neg (show ¬ (false = true) by decide)] at H
                                  exact absurd H (by simp)
                              · replace c50 := Bool.eq_false_iff.mpr c50
                                subst c50
                                rw [if_neg (show ¬ (false = true) by decide)] at H
                                exact absurd H (by simp)
                            · replace c48 := Bool.eq_false_iff.mpr c48
                              subst c48
                              rw [if_neg (show ¬ (false = true) by decide)] at H
                              exact absurd H (by simp)
                          · replace c47 := Bool.eq_false_iff.mpr c47
                            subst c47
                            rw [if_neg (show ¬ (false = true) by decide)] at H
                            have H' := mk0 H
                            clear H
                            have p458 : 0 ≤ (0 : Int) := (by omega)
                            have q458 : 0 < (t447.length : Int) := of_decide_eq_true (by first | (with_reducible assumption) | assumption)
                            obtain ⟨ad458, e458, hx458_0, hx458_1, hx458_2⟩ := at_T56 (Kd.R_reads' HO_5.out).2.2 0 p458 q458
                            obtain rfl : ad454 = ad458 := (by injection e458)
                            have qi458 : (0 < t447.length) = True := eq_true (by omega)
                            (try rw [show ((0 : Int)).toNat = 0 from rfl] at hx458_0)
                            (try rw [show 0 * 3 = 0 from rfl] at hx458_0)
                            (try rw [Addr.add_zero'] at hx458_0)
                            (try rw [show ((0 : Int)).toNat = 0 from rfl] at hx458_1)
                            (try rw [show 0 * 3 = 0 from rfl] at hx458_1)
                            (try rw [Addr.add_zero'] at hx458_1)
                            (try rw [show ((0 : Int)).toNat = 0 from rfl] at hx458_2)
                            (try rw [show 0 * 3 = 0 from rfl] at hx458_2)
                            (try rw [Addr.add_zero'] at hx458_2)
                            replace p458 := eq_true p458
                            replace q458 := eq_true q458
                            have hnb63 := NB450_451.out
                            have hnc63 := NB451_450.out
                            have z64 := bc2 BK450.out
                            have z65 := bc2 BK451.out
                            go_wp2_with (first | ((with_reducible refine gate_callee (f := 33) rfl ?_); refine goesL_ (some 57) rfl rfl Try.func33 (by kernel_rfl) rfl #[.agg #[.int .i64 t439, .slice Ao14 t440.length co14], .agg #[.int .i64 t443, .slice Ao16 t444.length co16], .string (⟨#[105]⟩ : ByteArray), .int .i64 x7_1, .int .i64 x8_2, .slice (some ad454) t447.length co17] rfl (by (try simp only [List.map_toArray, List.map_cons, List.map_nil]); first | done | rfl) ?_; (with_reducible refine (impl_MeetAt.calls k2 t439 _ _ t440 t443 _ _ t444 (⟨#[105]⟩ : ByteArray) x7_1 x8_2 _ _ t447 false _ ?side1 ?side2 ?side3 ?side4 ?side5 ?side6 A26.out).mono ?_); (case side1 => repeat (first | exact (Kd.R_reads' HO_451001.out).2.2 | (with_reducible refine cA ?_ _) | (with_reducible refine cN ?_ _) | (with_reducible refine cD ?_))); (case side2 => exact (Kd.R_reads' HO_451001.out).2.1); (case side3 => repeat (first | exact (Kd.R_reads' HO_452001.out).2.2 | (with_reducible refine cA ?_ _) | (with_reducible refine cN ?_ _) | (with_reducible refine cD ?_))); (case side4 => exact (Kd.R_reads' HO_452001.out).2.1); (case side5 => repeat (first | exact (Kd.R_reads' HO_5.out).2.2 | (with_reducible refine cA ?_ _) | (with_reducible refine cN ?_ _) | (with_reducible refine cD ?_))); (case side6 => exact (Kd.R_reads' HO_5.out).2.1); rintro e w66 ⟨rfl, hb⟩; refine ⟨_, rfl, ?_⟩; have n0_ := mk0 (Kd.R_below (by (with_reducible repeat (first | apply Kd.R_alloc | apply Kd.R_drewN | apply Kd.R_drew)); exact HO_5.out) hb); have n1_ := mk0 (Kd.R_below (by (with_reducible repeat (first | apply Kd.R_alloc | apply Kd.R_drewN | apply Kd.R_drew)); exact HO_451001.out) hb); have n2_ := mk0 (Kd.R_below (by (with_reducible repeat (first | apply Kd.R_alloc | apply Kd.R_drewN | apply Kd.R_drew)); exact HO_452001.out) hb); have n3_ := mk0 (blk_below (by (with_reducible repeat (first | refine kN ?_ _ | refine kD ?_ | refine kA ?_ _)); exact BK450.out) hb); have n4_ := mk0 (blk_below (by (with_reducible repeat (first | refine kN ?_ _ | refine kD ?_ | refine kA ?_ _)); exact BK451.out) hb); have n5_ := mk0 (below_step (by repeat (first | (with_reducible first | exact HB.out | apply bA | apply bN | apply bD | refine bS ?_ GE450.out | refine bS ?_ GE451.out) | exact HB.out)) hb); clear HO_5; clear HO_451001; clear HO_452001; clear BK450; clear BK451; clear HB; have HO_5 := n0_; have HO_451001 := n1_; have HO_452001 := n2_; have BK450 := n3_; have BK451 := n4_; have HB := n5_; clear n0_ n1_ n2_ n3_ n4_ n5_; (try clear hb); (try clear hb2); (try clear hk); (try clear hi)))
                            go_roundg k2
                            case measure => have := HK1.out; have := HK2.out; omega
                            case rel => exact ⟨(wrap64 (x8_2 + 1)), (by first | rfl | (simp; done) | (simp [*]; done)), H', ⟨by have := HK1.out; have := HK2.out; omega⟩, ⟨by (with_reducible repeat (first | apply Kd.R_alloc | apply Kd.R_drewN | apply Kd.R_drew)); exact HO_5.out⟩, ⟨by (with_reducible repeat (first | apply Kd.R_alloc | apply Kd.R_drewN | apply Kd.R_drew)); exact HO_451001.out⟩, ⟨by (with_reducible repeat (first | apply Kd.R_alloc | apply Kd.R_drewN | apply Kd.R_drew)); exact HO_452001.out⟩, ⟨by (with_reducible repeat (first | refine kN ?_ _ | refine kD ?_ | refine kA ?_ _)); exact BK450.out⟩, ⟨by (with_reducible repeat (first | refine kN ?_ _ | refine kD ?_ | refine kA ?_ _)); exact BK451.out⟩, ⟨by repeat (first | (with_reducible first | exact HB.out | apply bA | apply bN | apply bD | refine bS ?_ GE450.out | refine bS ?_ GE451.out) | exact HB.out)⟩⟩
                      · rw [if_neg c25] at H
                        have c25b0 : decide (x8_2 ≤ ((rd_T56 t447 0).f2)) = false := decide_eq_false c25
                        clear c25
                        have H' := mk0 H
                        clear H
                        have p458 : 0 ≤ (0 : Int) := (by omega)
                        have q458 : 0 < (t447.length : Int) := of_decide_eq_true (by first | (with_reducible assumption) | assumption)
                        obtain ⟨ad458, e458, hx458_0, hx458_1, hx458_2⟩ := at_T56 (Kd.R_reads' HO_5.out).2.2 0 p458 q458
                        obtain rfl : ad454 = ad458 := (by injection e458)
                        have qi458 : (0 < t447.length) = True := eq_true (by omega)
                        (try rw [show ((0 : Int)).toNat = 0 from rfl] at hx458_0)
                        (try rw [show 0 * 3 = 0 from rfl] at hx458_0)
                        (try rw [Addr.add_zero'] at hx458_0)
                        (try rw [show ((0 : Int)).toNat = 0 from rfl] at hx458_1)
                        (try rw [show 0 * 3 = 0 from rfl] at hx458_1)
                        (try rw [Addr.add_zero'] at hx458_1)
                        (try rw [show ((0 : Int)).toNat = 0 from rfl] at hx458_2)
                        (try rw [show 0 * 3 = 0 from rfl] at hx458_2)
                        (try rw [Addr.add_zero'] at hx458_2)
                        replace p458 := eq_true p458
                        replace q458 := eq_true q458
                        go_wp2
                        go_roundg k2
                        case measure => have := HK1.out; have := HK2.out; omega
                        case rel => exact ⟨(wrap64 (x7_1 + 1)), (by first | rfl | (simp; done) | (simp [*]; done)), H', ⟨by have := HK1.out; have := HK2.out; omega⟩, ⟨by (with_reducible repeat (first | apply Kd.R_alloc | apply Kd.R_drewN | apply Kd.R_drew)); exact HO_5.out⟩, ⟨by (with_reducible repeat (first | apply Kd.R_alloc | apply Kd.R_drewN | apply Kd.R_drew)); exact HO_451001.out⟩, ⟨by (with_reducible repeat (first | apply Kd.R_alloc | apply Kd.R_drewN | apply Kd.R_drew)); exact HO_452001.out⟩, ⟨by (with_reducible repeat (first | refine kN ?_ _ | refine kD ?_ | refine kA ?_ _)); exact BK450.out⟩, ⟨by (with_reducible repeat (first | refine kN ?_ _ | refine kD ?_ | refine kA ?_ _)); exact BK451.out⟩, ⟨by repeat (first | (with_reducible first | exact HB.out | apply bA | apply bN | apply bD | refine bS ?_ GE450.out | refine bS ?_ GE451.out) | exact HB.out)⟩⟩
                    · rw [if_neg c24] at H
                      exact absurd H (by simp)
              · rw [if_neg c23] at H
                have c23b0 : decide (x7_1 ≤ ((rd_T56 t447 0).f2)) = false := decide_eq_false c23
                clear c23
                obtain ⟨t456, A67, H⟩ := bindA H
                obtain rfl := Option.some.inj H
                have p455 : 0 ≤ (0 : Int) := (by omega)
                have q455 : 0 < (t447.length : Int) := of_decide_eq_true (by first | (with_reducible assumption) | assumption)
                obtain ⟨ad455, e455, hx455_0, hx455_1, hx455_2⟩ := at_T56 (Kd.R_reads' HO_5.out).2.2 0 p455 q455
                obtain rfl : ad454 = ad455 := (by injection e455)
                have qi455 : (0 < t447.length) = True := eq_true (by omega)
                (try rw [show ((0 : Int)).toNat = 0 from rfl] at hx455_0)
                (try rw [show 0 * 3 = 0 from rfl] at hx455_0)
                (try rw [Addr.add_zero'] at hx455_0)
                (try rw [show ((0 : Int)).toNat = 0 from rfl] at hx455_1)
                (try rw [show 0 * 3 = 0 from rfl] at hx455_1)
                (try rw [Addr.add_zero'] at hx455_1)
                (try rw [show ((0 : Int)).toNat = 0 from rfl] at hx455_2)
                (try rw [show 0 * 3 = 0 from rfl] at hx455_2)
                (try rw [Addr.add_zero'] at hx455_2)
                replace p455 := eq_true p455
                replace q455 := eq_true q455
                go_wp2_with (first | ((with_reducible refine gate_callee (f := 36) rfl ?_); refine goesL_ (some 85) rfl rfl Try.func36 (by kernel_rfl) rfl #[.slice (some ad454) t447.length co17] rfl (by (try simp only [List.map_toArray, List.map_cons, List.map_nil]); first | done | rfl) ?_; (with_reducible refine (impl_BoxOk.calls k1 _ _ t447 t456 _ ?side1 ?side2 A67.out).mono ?_); (case side1 => repeat (first | exact (Kd.R_reads' HO_5.out).2.2 | (with_reducible refine cA ?_ _) | (with_reducible refine cN ?_ _) | (with_reducible refine cD ?_))); (case side2 => exact (Kd.R_reads' HO_5.out).2.1); rintro e w68 ⟨rfl, hb⟩; refine ⟨_, rfl, ?_⟩; have n0_ := mk0 (Kd.R_below (by (with_reducible repeat (first | apply Kd.R_alloc | apply Kd.R_drewN | apply Kd.R_drew)); exact HO_5.out) hb); have n1_ := mk0 (Kd.R_below (by (with_reducible repeat (first | apply Kd.R_alloc | apply Kd.R_drewN | apply Kd.R_drew)); exact HO_451001.out) hb); have n2_ := mk0 (Kd.R_below (by (with_reducible repeat (first | apply Kd.R_alloc | apply Kd.R_drewN | apply Kd.R_drew)); exact HO_452001.out) hb); have n3_ := mk0 (blk_below (by (with_reducible repeat (first | refine kN ?_ _ | refine kD ?_ | refine kA ?_ _)); exact BK450.out) hb); have n4_ := mk0 (blk_below (by (with_reducible repeat (first | refine kN ?_ _ | refine kD ?_ | refine kA ?_ _)); exact BK451.out) hb); have n5_ := mk0 (below_step (by repeat (first | (with_reducible first | exact HB.out | apply bA | apply bN | apply bD | refine bS ?_ GE450.out | refine bS ?_ GE451.out) | exact HB.out)) hb); clear HO_5; clear HO_451001; clear HO_452001; clear BK450; clear BK451; clear HB; have HO_5 := n0_; have HO_451001 := n1_; have HO_452001 := n2_; have BK450 := n3_; have BK451 := n4_; have HB := n5_; clear n0_ n1_ n2_ n3_ n4_ n5_; (try clear hb); (try clear hb2); (try clear hk); (try clear hi)))
                go_ret
                exact ⟨by first | rfl | (simp [errW_none, errW_some] <;> rfl) | (simp [*, errW_none, errW_some] <;> rfl), by repeat (first | (with_reducible first | exact HB.out | apply bA | apply bN | apply bD | refine bS ?_ GE450.out | refine bS ?_ GE451.out) | exact HB.out)⟩
            · rw [if_neg c22] at H
              exact absurd H (by simp)
      · rw [if_neg c8] at H
        exact absurd H (by simp)

/-- THE ONE PURE STATEMENT of laws_FnMeets: yours. -/
def laws_FnMeets.Pure : Prop := ∀ (l0 : List Int), l0.length ≤ maxLen → l0.length * 1 ≤ 140737488351232 → (∀ x ∈ l0, (Lit.int .u8 x).wf = true) → ∃ k, laws_FnMeets.f k l0 = some true
theorem laws_FnMeets.walk (P : laws_FnMeets.Pure) (a0 : Option Addr) (len0 cap0 : Nat) (z0 : List Int) (w : World) (w0 : (a0 = none ∧ len0 = 0 ∧ cap0 = 0 ∧ z0 = []) ∨ ∃ x, a0 = some x ∧ len0 ≤ cap0 ∧ cap0 ≤ maxLen ∧ z0.length = cap0 ∧ (∀ i, i < z0.length → w.cell? (x.add i) = some (.int .u8 (z0.getD i 0))) ∧ ∀ n ∈ z0, (Lit.int .u8 n).wf = true) (y0 : len0 * 1 ≤ 140737488351232) :
    Calls Try.prog 7 #[.slice a0 len0 cap0] w fun e w' => e = .returned (.bool true) ∧ Below w.heap.size w w' := by
  obtain ⟨l0, rfl, hr0, hm0, hw0, hc0⟩ := ReadsInt.ofRowC w0
  obtain ⟨k, h⟩ := P l0 hm0 y0 hw0
  refine (laws_FnMeets.calls k _ _ l0 true w (Kd.C_of_reads (d := (0 : Int)) (h1 := fun _ => rfl) hr0) hc0 h).mono ?_
  rintro e w' ⟨rfl, hd⟩
  exact ⟨rfl, hd⟩

end Go.Proofs.Ytmomablfmhkppaa.PFnMeets
