-- The functions of a law as plain Lean functions, each with its contract: written by a program of this session.
import Derived.Test.YtmomablfmhkppaaPFnMeetsx0
import Derived.Test.YtmomablfmhkppaaPFnMeetsx5
import Derived.Test.YtmomablfmhkppaaPFnMeetsx7
import Derived.Test.YtmomablfmhkppaaPFnMeetsx8
import Derived.Test.YtmomablfmhkppaaPFnMeetsx9
namespace Go.Proofs.Ytmomablfmhkppaa.PFnMeets
open Go.RowKit Go.Proofs.YtmomablfmhkppaaW.PrintWords Go.Proofs.YtmomablfmhkppaaW.PrintLast Go.Proofs.YtmomablfmhkppaaW.PrintMore
attribute [local go_sem] max2_int min2_int max_two min_two max_three min_three max_four min_four   -- for this text's walks alone
set_option linter.unusedVariables false
set_option linter.unusedSimpArgs false

/-! ### spec_MayMeet: function 32 -/
mutual
def spec_MayMeet.j0 : Nat → ByteArray → List (S56) → Bool → Int → List (S70) → Int → List (S70) → Option (Bool)
  | 0, _, _, _, _, _, _, _ => none
  | k + 1, x2, x3, x32, x385000, x385001, x386000, x386001 => if x32 = true then (some false) else ((spec_CoefOf.f k x385000 x385001 x2).bind fun t388 => ((spec_l9At.f k x3 x2).bind fun t389 => (if t388 = 0 then (spec_MayMeet.j1 k x2 x3 t388 t389 true x385000 x385001 x386000 x386001) else ((spec_CoefOf.f k x386000 x386001 x2).bind fun t390 => (if t388 = t390 then (spec_MayMeet.j1 k x2 x3 t388 t389 (decide (t389 < 0)) x385000 x385001 x386000 x386001) else (spec_MayMeet.j1 k x2 x3 t388 t389 true x385000 x385001 x386000 x386001))))))
def spec_MayMeet.j1 : Nat → ByteArray → List (S56) → Int → Int → Bool → Int → List (S70) → Int → List (S70) → Option (Bool)
  | 0, _, _, _, _, _, _, _, _, _ => none
  | k + 1, x2, x3, x9, x10, x51, x385000, x385001, x386000, x386001 => if x51 = true then (some true) else ((spec_l11Rest.f k x385000 x385001 x2).bind fun bt391 => ((spec_l11Rest.f k x386000 x386001 x2).bind fun bt396 => ((spec_Least.f k bt391.1 bt391.2 x3).bind fun bt401 => ((spec_Most.f k bt391.1 bt391.2 x3).bind fun bt403 => ((spec_Least.f k bt396.1 bt396.2 x3).bind fun bt405 => ((spec_Most.f k bt396.1 bt396.2 x3).bind fun bt407 => (spec_MayMeet.l0 k x3 x9 x10 bt401.1 bt403.1 bt405.1 bt407.1 1)))))))
def spec_MayMeet.l0 : Nat → List (S56) → Int → Int → Int → Int → Int → Int → Int → Option (Bool)
  | 0, _, _, _, _, _, _, _, _ => none
  | k + 1, x3, x9, x10, x13, x15, x17, x19, x21 => if 0 ≤ x10 then (if x10 < (x3.length : Int) then (if x21 ≤ (wrap64 (((rd_T56 x3 x10).f2) - ((rd_T56 x3 x10).f1))) then ((spec_l1In.f (wrap64 (x9 * x21)) (wrap64 (x17 - x15)) (wrap64 (x19 - x13))).bind fun t411 => (if t411 = true then (some true) else ((spec_l1In.f (wrap64 ((wrap64 (-x9)) * x21)) (wrap64 (x17 - x15)) (wrap64 (x19 - x13))).bind fun t412 => (if t412 = true then (some true) else (spec_MayMeet.l0 k x3 x9 x10 x13 x15 x17 x19 (wrap64 (x21 + 1))))))) else (some false)) else (none)) else (none)
end
def spec_MayMeet.f (k : Nat) (a0_0 : Int) (l0_1 : List (S70)) (a1_0 : Int) (l1_1 : List (S70)) (a2 : ByteArray) (l3 : List (S56)) : Option (Bool) := (spec_GcdMeet.f k a0_0 l0_1 a1_0 l1_1).bind fun t386 => (if t386 = true then ((spec_RngMeet.f k a0_0 l0_1 a1_0 l1_1 l3).bind fun t387 => (spec_MayMeet.j0 k a2 l3 (!t387) a0_0 l0_1 a1_0 l1_1)) else (spec_MayMeet.j0 k a2 l3 true a0_0 l0_1 a1_0 l1_1))
theorem spec_MayMeet.mono_l : ∀ k, (∀ y0 y1 y2 y3 y4 y5 y6, LeO (spec_MayMeet.j0 k y0 y1 y2 y3 y4 y5 y6) (spec_MayMeet.j0 (k + 1) y0 y1 y2 y3 y4 y5 y6)) ∧ (∀ y0 y1 y2 y3 y4 y5 y6 y7 y8, LeO (spec_MayMeet.j1 k y0 y1 y2 y3 y4 y5 y6 y7 y8) (spec_MayMeet.j1 (k + 1) y0 y1 y2 y3 y4 y5 y6 y7 y8)) ∧ (∀ y0 y1 y2 y3 y4 y5 y6 y7, LeO (spec_MayMeet.l0 k y0 y1 y2 y3 y4 y5 y6 y7) (spec_MayMeet.l0 (k + 1) y0 y1 y2 y3 y4 y5 y6 y7))
  | 0 => ⟨fun _ _ _ _ _ _ _ r h => by simp [spec_MayMeet.j0] at h, fun _ _ _ _ _ _ _ _ _ r h => by simp [spec_MayMeet.j1] at h, fun _ _ _ _ _ _ _ _ r h => by simp [spec_MayMeet.l0] at h⟩
  | k + 1 => by
    obtain ⟨ih0, ih1, ih2⟩ := spec_MayMeet.mono_l k
    refine ⟨?_, ?_, ?_⟩
    · intro y0 y1 y2 y3 y4 y5 y6
      unfold spec_MayMeet.j0
      repeat' first
      | (with_reducible exact ih0 _ _ _ _ _ _ _)
      | (with_reducible exact ih1 _ _ _ _ _ _ _ _ _)
      | (with_reducible exact ih2 _ _ _ _ _ _ _ _)
      | (with_reducible exact spec_CoefOf.mono _ _ _ _)
      | (with_reducible exact spec_GcdMeet.mono _ _ _ _ _)
      | (with_reducible exact spec_Least.mono _ _ _ _)
      | (with_reducible exact spec_Most.mono _ _ _ _)
      | (with_reducible exact spec_RngMeet.mono _ _ _ _ _ _)
      | (with_reducible exact spec_l11Rest.mono _ _ _ _)
      | (with_reducible exact spec_l9At.mono _ _ _)
      | (with_reducible exact LeO.refl _)
      | (with_reducible exact LeO.none _)
      | (with_reducible refine LeO.ite ?_ ?_)
      | (with_reducible refine LeO.bind ?_ (fun _ => ?_))
      | exact ih0 _ _ _ _ _ _ _
      | exact ih1 _ _ _ _ _ _ _ _ _
      | exact ih2 _ _ _ _ _ _ _ _
      | exact spec_CoefOf.mono _ _ _ _
      | exact spec_GcdMeet.mono _ _ _ _ _
      | exact spec_Least.mono _ _ _ _
      | exact spec_Most.mono _ _ _ _
      | exact spec_RngMeet.mono _ _ _ _ _ _
      | exact spec_l11Rest.mono _ _ _ _
      | exact spec_l9At.mono _ _ _
      | exact LeO.none _
      | refine LeO.ite ?_ ?_
      | refine LeO.bind ?_ (fun _ => ?_)
    · intro y0 y1 y2 y3 y4 y5 y6 y7 y8
      unfold spec_MayMeet.j1
      repeat' first
      | (with_reducible exact ih0 _ _ _ _ _ _ _)
      | (with_reducible exact ih1 _ _ _ _ _ _ _ _ _)
      | (with_reducible exact ih2 _ _ _ _ _ _ _ _)
      | (with_reducible exact spec_CoefOf.mono _ _ _ _)
      | (with_reducible exact spec_GcdMeet.mono _ _ _ _ _)
      | (with_reducible exact spec_Least.mono _ _ _ _)
      | (with_reducible exact spec_Most.mono _ _ _ _)
      | (with_reducible exact spec_RngMeet.mono _ _ _ _ _ _)
      | (with_reducible exact spec_l11Rest.mono _ _ _ _)
      | (with_reducible exact spec_l9At.mono _ _ _)
      | (with_reducible exact LeO.refl _)
      | (with_reducible exact LeO.none _)
      | (with_reducible refine LeO.ite ?_ ?_)
      | (with_reducible refine LeO.bind ?_ (fun _ => ?_))
      | exact ih0 _ _ _ _ _ _ _
      | exact ih1 _ _ _ _ _ _ _ _ _
      | exact ih2 _ _ _ _ _ _ _ _
      | exact spec_CoefOf.mono _ _ _ _
      | exact spec_GcdMeet.mono _ _ _ _ _
      | exact spec_Least.mono _ _ _ _
      | exact spec_Most.mono _ _ _ _
      | exact spec_RngMeet.mono _ _ _ _ _ _
      | exact spec_l11Rest.mono _ _ _ _
      | exact spec_l9At.mono _ _ _
      | exact LeO.none _
      | refine LeO.ite ?_ ?_
      | refine LeO.bind ?_ (fun _ => ?_)
    · intro y0 y1 y2 y3 y4 y5 y6 y7
      unfold spec_MayMeet.l0
      repeat' first
      | (with_reducible exact ih0 _ _ _ _ _ _ _)
      | (with_reducible exact ih1 _ _ _ _ _ _ _ _ _)
      | (with_reducible exact ih2 _ _ _ _ _ _ _ _)
      | (with_reducible exact spec_CoefOf.mono _ _ _ _)
      | (with_reducible exact spec_GcdMeet.mono _ _ _ _ _)
      | (with_reducible exact spec_Least.mono _ _ _ _)
      | (with_reducible exact spec_Most.mono _ _ _ _)
      | (with_reducible exact spec_RngMeet.mono _ _ _ _ _ _)
      | (with_reducible exact spec_l11Rest.mono _ _ _ _)
      | (with_reducible exact spec_l9At.mono _ _ _)
      | (with_reducible exact LeO.refl _)
      | (with_reducible exact LeO.none _)
      | (with_reducible refine LeO.ite ?_ ?_)
      | (with_reducible refine LeO.bind ?_ (fun _ => ?_))
      | exact ih0 _ _ _ _ _ _ _
      | exact ih1 _ _ _ _ _ _ _ _ _
      | exact ih2 _ _ _ _ _ _ _ _
      | exact spec_CoefOf.mono _ _ _ _
      | exact spec_GcdMeet.mono _ _ _ _ _
      | exact spec_Least.mono _ _ _ _
      | exact spec_Most.mono _ _ _ _
      | exact spec_RngMeet.mono _ _ _ _ _ _
      | exact spec_l11Rest.mono _ _ _ _
      | exact spec_l9At.mono _ _ _
      | exact LeO.none _
      | refine LeO.ite ?_ ?_
      | refine LeO.bind ?_ (fun _ => ?_)
theorem spec_MayMeet.mono : ∀ a0 a1 a2 a3 a4 a5 k, LeO (spec_MayMeet.f k a0 a1 a2 a3 a4 a5) (spec_MayMeet.f (k + 1) a0 a1 a2 a3 a4 a5) := by
  intro a0 a1 a2 a3 a4 a5 k
  obtain ⟨ih0, ih1, ih2⟩ := spec_MayMeet.mono_l k
  unfold spec_MayMeet.f
  repeat' first
      | (with_reducible exact ih0 _ _ _ _ _ _ _)
      | (with_reducible exact ih1 _ _ _ _ _ _ _ _ _)
      | (with_reducible exact ih2 _ _ _ _ _ _ _ _)
      | (with_reducible exact spec_CoefOf.mono _ _ _ _)
      | (with_reducible exact spec_GcdMeet.mono _ _ _ _ _)
      | (with_reducible exact spec_Least.mono _ _ _ _)
      | (with_reducible exact spec_Most.mono _ _ _ _)
      | (with_reducible exact spec_RngMeet.mono _ _ _ _ _ _)
      | (with_reducible exact spec_l11Rest.mono _ _ _ _)
      | (with_reducible exact spec_l9At.mono _ _ _)
      | (with_reducible exact LeO.refl _)
      | (with_reducible exact LeO.none _)
      | (with_reducible refine LeO.ite ?_ ?_)
      | (with_reducible refine LeO.bind ?_ (fun _ => ?_))
      | exact ih0 _ _ _ _ _ _ _
      | exact ih1 _ _ _ _ _ _ _ _ _
      | exact ih2 _ _ _ _ _ _ _ _
      | exact spec_CoefOf.mono _ _ _ _
      | exact spec_GcdMeet.mono _ _ _ _ _
      | exact spec_Least.mono _ _ _ _
      | exact spec_Most.mono _ _ _ _
      | exact spec_RngMeet.mono _ _ _ _ _ _
      | exact spec_l11Rest.mono _ _ _ _
      | exact spec_l9At.mono _ _ _
      | exact LeO.none _
      | refine LeO.ite ?_ ?_
      | refine LeO.bind ?_ (fun _ => ?_)
set_option maxHeartbeats 8000000 in
set_option maxRecDepth 100000 in
theorem spec_MayMeet.calls (k : Nat) (a0_0 : Int) (A0_1 : Option Addr) (c0_1 : Nat) (l0_1 : List (S70)) (a1_0 : Int) (A1_1 : Option Addr) (c1_1 : Nat) (l1_1 : List (S70)) (a2 : ByteArray) (A3 : Option Addr) (c3 : Nat) (l3 : List (S56)) (r : Bool) (w : World) (hr0_1 : Kd.C k70 w A0_1 l0_1.length l0_1) (hc0_1 : l0_1.length ≤ c0_1) (hr1_1 : Kd.C k70 w A1_1 l1_1.length l1_1) (hc1_1 : l1_1.length ≤ c1_1) (hr3 : Kd.C k56 w A3 l3.length l3) (hc3 : l3.length ≤ c3) (h : spec_MayMeet.f k a0_0 l0_1 a1_0 l1_1 a2 l3 = some r) :
    Calls Try.prog 32 #[.agg #[.int .i64 a0_0, .slice A0_1 l0_1.length c0_1], .agg #[.int .i64 a1_0, .slice A1_1 l1_1.length c1_1], .string a2, .slice A3 l3.length c3] w fun e w' => e = .returned (.bool r) ∧ Below w.heap.size w w' := by
  have hu28 := Try.underlying28
  have HR0_1 := mk0 hr0_1
  have HC0_1 := mk0 hc0_1
  clear hr0_1 hc0_1
  have HR1_1 := mk0 hr1_1
  have HC1_1 := mk0 hc1_1
  clear hr1_1 hc1_1
  have HR3 := mk0 hr3
  have HC3 := mk0 hc3
  clear hr3 hc3
  have HB := mk0 (Below.refl w.heap.size w)
  have H : ((spec_GcdMeet.f k a0_0 l0_1 a1_0 l1_1).bind fun t386 => (if t386 = true then ((spec_RngMeet.f k a0_0 l0_1 a1_0 l1_1 l3).bind fun t387 => (spec_MayMeet.j0 k a2 l3 (!t387) a0_0 l0_1 a1_0 l1_1)) else (spec_MayMeet.j0 k a2 l3 true a0_0 l0_1 a1_0 l1_1))) = some r := h
  clear h
  have HC5 := mk0 H
  clear H
  go_enter Try.func32, Try.ntmps32
  go_upto_region 1 with (first | ((with_reducible refine gate_dst (N := 4) rfl ?_); refine box_event ?hg (N := 4) ?hd (cs := #[.int .i64 a0_0, .slice A0_1 l0_1.length c0_1]) (t := 28) ?hr ?_; (case hd => rfl); (case hg => rfl); (case hr => first | (go_simp; done) | (go_simp; rfl)); intro gb384 hg w6 hbox hb; have q_ := qB (by repeat (first | (with_reducible first | exact HB.out | apply bA | apply bN | apply bD) | exact HB.out)) hb; have n0_ := mk0 (below_step q_ hb); have n1_ := mk0 (hbox); have n2_ := mk0 (below_size2 q_ hg); have n3_ := n2_; clear HB; have HB := n0_; have BK384 := n1_; have GW384 := n2_; have GE384 := n3_; clear q_ n0_ n1_ n2_ n3_; clear hb hbox hg) | ((with_reducible refine gate_dst (N := 5) rfl ?_); refine box_event ?hg (N := 5) ?hd (cs := #[.int .i64 a1_0, .slice A1_1 l1_1.length c1_1]) (t := 28) ?hr ?_; (case hd => rfl); (case hg => rfl); (case hr => first | (go_simp; done) | (go_simp; rfl)); intro gb385 hg w7 hbox hb; have q_ := qB (by repeat (first | (with_reducible first | exact HB.out | apply bA | apply bN | apply bD | refine bS ?_ GE384.out) | exact HB.out)) hb; have n0_ := mk0 (blk_below (by (with_reducible repeat (first | refine kN ?_ _ | refine kD ?_ | refine kA ?_ _)); exact BK384.out) hb); have n1_ := mk0 (below_step q_ hb); have n2_ := mk0 (hbox); have n3_ := mk0 (below_size2 q_ hg); have n4_ := n3_; have n5_ := mk0 ((by rw [hg]; exact Nat.ne_of_lt (blk_lt (by (with_reducible repeat (first | refine kN ?_ _ | refine kD ?_ | refine kA ?_ _)); exact BK384.out)) : gb384 ≠ gb385)); have n6_ := mk0 ((by rw [hg]; exact Nat.ne_of_gt (blk_lt (by (with_reducible repeat (first | refine kN ?_ _ | refine kD ?_ | refine kA ?_ _)); exact BK384.out)) : gb385 ≠ gb384)); clear BK384; clear HB; have BK384 := n0_; have HB := n1_; have BK385 := n2_; have GW385 := n3_; have GE385 := n4_; have NB384_385 := n5_; have NB385_384 := n6_; clear q_ n0_ n1_ n2_ n3_ n4_ n5_ n6_; clear hb hbox hg))
  repeat (go_quiet (first | ((with_reducible refine gate_dst (N := 4) rfl ?_); refine box_event ?hg (N := 4) ?hd (cs := #[.int .i64 a0_0, .slice A0_1 l0_1.length c0_1]) (t := 28) ?hr ?_; (case hd => rfl); (case hg => rfl); (case hr => first | (go_simp; done) | (go_simp; rfl)); intro gb384 hg w6 hbox hb; have q_ := qB (by repeat (first | (with_reducible first | exact HB.out | apply bA | apply bN | apply bD) | exact HB.out)) hb; have n0_ := mk0 (below_step q_ hb); have n1_ := mk0 (hbox); have n2_ := mk0 (below_size2 q_ hg); have n3_ := n2_; clear HB; have HB := n0_; have BK384 := n1_; have GW384 := n2_; have GE384 := n3_; clear q_ n0_ n1_ n2_ n3_; clear hb hbox hg) | ((with_reducible refine gate_dst (N := 5) rfl ?_); refine box_event ?hg (N := 5) ?hd (cs := #[.int .i64 a1_0, .slice A1_1 l1_1.length c1_1]) (t := 28) ?hr ?_; (case hd => rfl); (case hg => rfl); (case hr => first | (go_simp; done) | (go_simp; rfl)); intro gb385 hg w7 hbox hb; have q_ := qB (by repeat (first | (with_reducible first | exact HB.out | apply bA | apply bN | apply bD | refine bS ?_ GE384.out) | exact HB.out)) hb; have n0_ := mk0 (blk_below (by (with_reducible repeat (first | refine kN ?_ _ | refine kD ?_ | refine kA ?_ _)); exact BK384.out) hb); have n1_ := mk0 (below_step q_ hb); have n2_ := mk0 (hbox); have n3_ := mk0 (below_size2 q_ hg); have n4_ := n3_; have n5_ := mk0 ((by rw [hg]; exact Nat.ne_of_lt (blk_lt (by (with_reducible repeat (first | refine kN ?_ _ | refine kD ?_ | refine kA ?_ _)); exact BK384.out)) : gb384 ≠ gb385)); have n6_ := mk0 ((by rw [hg]; exact Nat.ne_of_gt (blk_lt (by (with_reducible repeat (first | refine kN ?_ _ | refine kD ?_ | refine kA ?_ _)); exact BK384.out)) : gb385 ≠ gb384)); clear BK384; clear HB; have BK384 := n0_; have HB := n1_; have BK385 := n2_; have GW385 := n3_; have GE385 := n4_; have NB384_385 := n5_; have NB385_384 := n6_; clear q_ n0_ n1_ n2_ n3_ n4_ n5_ n6_; clear hb hbox hg)); go_upto_region 1 with (first | ((with_reducible refine gate_dst (N := 4) rfl ?_); refine box_event ?hg (N := 4) ?hd (cs := #[.int .i64 a0_0, .slice A0_1 l0_1.length c0_1]) (t := 28) ?hr ?_; (case hd => rfl); (case hg => rfl); (case hr => first | (go_simp; done) | (go_simp; rfl)); intro gb384 hg w6 hbox hb; have q_ := qB (by repeat (first | (with_reducible first | exact HB.out | apply bA | apply bN | apply bD) | exact HB.out)) hb; have n0_ := mk0 (below_step q_ hb); have n1_ := mk0 (hbox); have n2_ := mk0 (below_size2 q_ hg); have n3_ := n2_; clear HB; have HB := n0_; have BK384 := n1_; have GW384 := n2_; have GE384 := n3_; clear q_ n0_ n1_ n2_ n3_; clear hb hbox hg) | ((with_reducible refine gate_dst (N := 5) rfl ?_); refine box_event ?hg (N := 5) ?hd (cs := #[.int .i64 a1_0, .slice A1_1 l1_1.length c1_1]) (t := 28) ?hr ?_; (case hd => rfl); (case hg => rfl); (case hr => first | (go_simp; done) | (go_simp; rfl)); intro gb385 hg w7 hbox hb; have q_ := qB (by repeat (first | (with_reducible first | exact HB.out | apply bA | apply bN | apply bD | refine bS ?_ GE384.out) | exact HB.out)) hb; have n0_ := mk0 (blk_below (by (with_reducible repeat (first | refine kN ?_ _ | refine kD ?_ | refine kA ?_ _)); exact BK384.out) hb); have n1_ := mk0 (below_step q_ hb); have n2_ := mk0 (hbox); have n3_ := mk0 (below_size2 q_ hg); have n4_ := n3_; have n5_ := mk0 ((by rw [hg]; exact Nat.ne_of_lt (blk_lt (by (with_reducible repeat (first | refine kN ?_ _ | refine kD ?_ | refine kA ?_ _)); exact BK384.out)) : gb384 ≠ gb385)); have n6_ := mk0 ((by rw [hg]; exact Nat.ne_of_gt (blk_lt (by (with_reducible repeat (first | refine kN ?_ _ | refine kD ?_ | refine kA ?_ _)); exact BK384.out)) : gb385 ≠ gb384)); clear BK384; clear HB; have BK384 := n0_; have HB := n1_; have BK385 := n2_; have GW385 := n3_; have GE385 := n4_; have NB384_385 := n5_; have NB385_384 := n6_; clear q_ n0_ n1_ n2_ n3_ n4_ n5_ n6_; clear hb hbox hg)))
  (try simp only [Act.put, List.setIfInBounds_toArray, List.set_cons_zero, List.set_cons_succ])
  go_cut [32] (fun v32 wc => ∃ (kq : Nat) (x32_4 : Bool), v32 = .bool x32_4 ∧ Aside0 (spec_MayMeet.j0 kq a2 l3 x32_4 a0_0 l0_1 a1_0 l1_1 = some r) ∧ Aside0 (kq ≤ k) ∧ Aside0 (wc.heap[gb384]? = some (.cells #[.int .i64 a0_0, (.slice A0_1 l0_1.length c0_1)] 28 (0, 0))) ∧ Aside0 (wc.heap[gb385]? = some (.cells #[.int .i64 a1_0, (.slice A1_1 l1_1.length c1_1)] 28 (0, 0))) ∧ Aside0 (Below w.heap.size w wc))
  case first =>
    have H := HC5.out
    clear HC5
    obtain ⟨t386, A8, H⟩ := bindA H
    by_cases c9 : t386 = true
    · subst c9
      rw [if_pos rfl] at H
      obtain ⟨t387, A10, H⟩ := bindA H
      have H' := mk0 H
      clear H
      have hnb11 := NB384_385.out
      have hnc11 := NB385_384.out
      have z12 := bc2 BK384.out
      have z13 := bc2 BK385.out
      go_wp2_with (first | (go_at_call 61; (with_reducible refine (spec_GcdMeet.calls k a0_0 _ _ l0_1 a1_0 _ _ l1_1 true _ ?side1 ?side2 ?side3 ?side4 A8.out).mono ?_); (case side1 => repeat (first | exact (Kd.C_below HR0_1.out HB.out) | (with_reducible refine cA ?_ _) | (with_reducible refine cN ?_ _) | (with_reducible refine cD ?_))); (case side2 => exact HC0_1.out); (case side3 => repeat (first | exact (Kd.C_below HR1_1.out HB.out) | (with_reducible refine cA ?_ _) | (with_reducible refine cN ?_ _) | (with_reducible refine cD ?_))); (case side4 => exact HC1_1.out); rintro e w14 ⟨rfl, hb⟩; have n0_ := mk0 (blk_below (by (with_reducible repeat (first | refine kN ?_ _ | refine kD ?_ | refine kA ?_ _)); exact BK384.out) hb); have n1_ := mk0 (blk_below (by (with_reducible repeat (first | refine kN ?_ _ | refine kD ?_ | refine kA ?_ _)); exact BK385.out) hb); have n2_ := mk0 (below_step (by repeat (first | (with_reducible first | exact HB.out | apply bA | apply bN | apply bD | refine bS ?_ GE384.out | refine bS ?_ GE385.out) | exact HB.out)) hb); clear BK384; clear BK385; clear HB; have BK384 := n0_; have BK385 := n1_; have HB := n2_; clear n0_ n1_ n2_; (try clear hb); (try clear hb2); (try clear hk); (try clear hi); have z15 := bc2 BK384.out; have z16 := bc2 BK385.out) | (go_at_call 62; (with_reducible refine (spec_RngMeet.calls k a0_0 _ _ l0_1 a1_0 _ _ l1_1 _ _ l3 t387 _ ?side1 ?side2 ?side3 ?side4 ?side5 ?side6 A10.out).mono ?_); (case side1 => repeat (first | exact (Kd.C_below HR0_1.out HB.out) | (with_reducible refine cA ?_ _) | (with_reducible refine cN ?_ _) | (with_reducible refine cD ?_))); (case side2 => exact HC0_1.out); (case side3 => repeat (first | exact (Kd.C_below HR1_1.out HB.out) | (with_reducible refine cA ?_ _) | (with_reducible refine cN ?_ _) | (with_reducible refine cD ?_))); (case side4 => exact HC1_1.out); (case side5 => repeat (first | exact (Kd.C_below HR3.out HB.out) | (with_reducible refine cA ?_ _) | (with_reducible refine cN ?_ _) | (with_reducible refine cD ?_))); (case side6 => exact HC3.out); rintro e w17 ⟨rfl, hb⟩; have n0_ := mk0 (blk_below (by (with_reducible repeat (first | refine kN ?_ _ | refine kD ?_ | refine kA ?_ _)); exact BK384.out) hb); have n1_ := mk0 (blk_below (by (with_reducible repeat (first | refine kN ?_ _ | refine kD ?_ | refine kA ?_ _)); exact BK385.out) hb); have n2_ := mk0 (below_step (by repeat (first | (with_reducible first | exact HB.out | apply bA | apply bN | apply bD | refine bS ?_ GE384.out | refine bS ?_ GE385.out) | exact HB.out)) hb); clear BK384; clear BK385; clear HB; have BK384 := n0_; have BK385 := n1_; have HB := n2_; clear n0_ n1_ n2_; (try clear hb); (try clear hb2); (try clear hk); (try clear hi)))
      repeat (go_quiet (first | (go_at_call 61; (with_reducible refine (spec_GcdMeet.calls k a0_0 _ _ l0_1 a1_0 _ _ l1_1 true _ ?side1 ?side2 ?side3 ?side4 A8.out).mono ?_); (case side1 => repeat (first | exact (Kd.C_below HR0_1.out HB.out) | (with_reducible refine cA ?_ _) | (with_reducible refine cN ?_ _) | (with_reducible refine cD ?_))); (case side2 => exact HC0_1.out); (case side3 => repeat (first | exact (Kd.C_below HR1_1.out HB.out) | (with_reducible refine cA ?_ _) | (with_reducible refine cN ?_ _) | (with_reducible refine cD ?_))); (case side4 => exact HC1_1.out); rintro e w14 ⟨rfl, hb⟩; have n0_ := mk0 (blk_below (by (with_reducible repeat (first | refine kN ?_ _ | refine kD ?_ | refine kA ?_ _)); exact BK384.out) hb); have n1_ := mk0 (blk_below (by (with_reducible repeat (first | refine kN ?_ _ | refine kD ?_ | refine kA ?_ _)); exact BK385.out) hb); have n2_ := mk0 (below_step (by repeat (first | (with_reducible first | exact HB.out | apply bA | apply bN | apply bD | refine bS ?_ GE384.out | refine bS ?_ GE385.out) | exact HB.out)) hb); clear BK384; clear BK385; clear HB; have BK384 := n0_; have BK385 := n1_; have HB := n2_; clear n0_ n1_ n2_; (try clear hb); (try clear hb2); (try clear hk); (try clear hi); have z15 := bc2 BK384.out; have z16 := bc2 BK385.out) | (go_at_call 62; (with_reducible refine (spec_RngMeet.calls k a0_0 _ _ l0_1 a1_0 _ _ l1_1 _ _ l3 t387 _ ?side1 ?side2 ?side3 ?side4 ?side5 ?side6 A10.out).mono ?_); (case side1 => repeat (first | exact (Kd.C_below HR0_1.out HB.out) | (with_reducible refine cA ?_ _) | (with_reducible refine cN ?_ _) | (with_reducible refine cD ?_))); (case side2 => exact HC0_1.out); (case side3 => repeat (first | exact (Kd.C_below HR1_1.out HB.out) | (with_reducible refine cA ?_ _) | (with_reducible refine cN ?_ _) | (with_reducible refine cD ?_))); (case side4 => exact HC1_1.out); (case side5 => repeat (first | exact (Kd.C_below HR3.out HB.out) | (with_reducible refine cA ?_ _) | (with_reducible refine cN ?_ _) | (with_reducible refine cD ?_))); (case side6 => exact HC3.out); rintro e w17 ⟨rfl, hb⟩; have n0_ := mk0 (blk_below (by (with_reducible repeat (first | refine kN ?_ _ | refine kD ?_ | refine kA ?_ _)); exact BK384.out) hb); have n1_ := mk0 (blk_below (by (with_reducible repeat (first | refine kN ?_ _ | refine kD ?_ | refine kA ?_ _)); exact BK385.out) hb); have n2_ := mk0 (below_step (by repeat (first | (with_reducible first | exact HB.out | apply bA | apply bN | apply bD | refine bS ?_ GE384.out | refine bS ?_ GE385.out) | exact HB.out)) hb); clear BK384; clear BK385; clear HB; have BK384 := n0_; have BK385 := n1_; have HB := n2_; clear n0_ n1_ n2_; (try clear hb); (try clear hb2); (try clear hk); (try clear hi))); try go_wp2_with (first | (go_at_call 61; (with_reducible refine (spec_GcdMeet.calls k a0_0 _ _ l0_1 a1_0 _ _ l1_1 true _ ?side1 ?side2 ?side3 ?side4 A8.out).mono ?_); (case side1 => repeat (first | exact (Kd.C_below HR0_1.out HB.out) | (with_reducible refine cA ?_ _) | (with_reducible refine cN ?_ _) | (with_reducible refine cD ?_))); (case side2 => exact HC0_1.out); (case side3 => repeat (first | exact (Kd.C_below HR1_1.out HB.out) | (with_reducible refine cA ?_ _) | (with_reducible refine cN ?_ _) | (with_reducible refine cD ?_))); (case side4 => exact HC1_1.out); rintro e w14 ⟨rfl, hb⟩; have n0_ := mk0 (blk_below (by (with_reducible repeat (first | refine kN ?_ _ | refine kD ?_ | refine kA ?_ _)); exact BK384.out) hb); have n1_ := mk0 (blk_below (by (with_reducible repeat (first | refine kN ?_ _ | refine kD ?_ | refine kA ?_ _)); exact BK385.out) hb); have n2_ := mk0 (below_step (by repeat (first | (with_reducible first | exact HB.out | apply bA | apply bN | apply bD | refine bS ?_ GE384.out | refine bS ?_ GE385.out) | exact HB.out)) hb); clear BK384; clear BK385; clear HB; have BK384 := n0_; have BK385 := n1_; have HB := n2_; clear n0_ n1_ n2_; (try clear hb); (try clear hb2); (try clear hk); (try clear hi); have z15 := bc2 BK384.out; have z16 := bc2 BK385.out) | (go_at_call 62; (with_reducible refine (spec_RngMeet.calls k a0_0 _ _ l0_1 a1_0 _ _ l1_1 _ _ l3 t387 _ ?side1 ?side2 ?side3 ?side4 ?side5 ?side6 A10.out).mono ?_); (case side1 => repeat (first | exact (Kd.C_below HR0_1.out HB.out) | (with_reducible refine cA ?_ _) | (with_reducible refine cN ?_ _) | (with_reducible refine cD ?_))); (case side2 => exact HC0_1.out); (case side3 => repeat (first | exact (Kd.C_below HR1_1.out HB.out) | (with_reducible refine cA ?_ _) | (with_reducible refine cN ?_ _) | (with_reducible refine cD ?_))); (case side4 => exact HC1_1.out); (case side5 => repeat (first | exact (Kd.C_below HR3.out HB.out) | (with_reducible refine cA ?_ _) | (with_reducible refine cN ?_ _) | (with_reducible refine cD ?_))); (case side6 => exact HC3.out); rintro e w17 ⟨rfl, hb⟩; have n0_ := mk0 (blk_below (by (with_reducible repeat (first | refine kN ?_ _ | refine kD ?_ | refine kA ?_ _)); exact BK384.out) hb); have n1_ := mk0 (blk_below (by (with_reducible repeat (first | refine kN ?_ _ | refine kD ?_ | refine kA ?_ _)); exact BK385.out) hb); have n2_ := mk0 (below_step (by repeat (first | (with_reducible first | exact HB.out | apply bA | apply bN | apply bD | refine bS ?_ GE384.out | refine bS ?_ GE385.out) | exact HB.out)) hb); clear BK384; clear BK385; clear HB; have BK384 := n0_; have BK385 := n1_; have HB := n2_; clear n0_ n1_ n2_; (try clear hb); (try clear hb2); (try clear hk); (try clear hi))))
      go_meet
      case rel => exact ⟨_, (!t387), (by first | rfl | (simp; done) | (simp [*]; done)), H', ⟨by first | omega | exact Nat.le_refl _⟩, ⟨by (with_reducible repeat (first | refine kN ?_ _ | refine kD ?_ | refine kA ?_ _)); exact BK384.out⟩, ⟨by (with_reducible repeat (first | refine kN ?_ _ | refine kD ?_ | refine kA ?_ _)); exact BK385.out⟩, ⟨by repeat (first | (with_reducible first | exact HB.out | apply bA | apply bN | apply bD | refine bS ?_ GE384.out | refine bS ?_ GE385.out) | exact HB.out)⟩⟩
    · replace c9 := Bool.eq_false_iff.mpr c9
      subst c9
      rw [if_neg (show ¬ (false = true) by decide)] at H
      have H' := mk0 H
      clear H
      have hnb18 := NB384_385.out
      have hnc18 := NB385_384.out
      have z19 := bc2 BK384.out
      have z20 := bc2 BK385.out
      go_wp2_with (first | (go_at_call 61; (with_reducible refine (spec_GcdMeet.calls k a0_0 _ _ l0_1 a1_0 _ _ l1_1 false _ ?side1 ?side2 ?side3 ?side4 A8.out).mono ?_); (case side1 => repeat (first | exact (Kd.C_below HR0_1.out HB.out) | (with_reducible refine cA ?_ _) | (with_reducible refine cN ?_ _) | (with_reducible refine cD ?_))); (case side2 => exact HC0_1.out); (case side3 => repeat (first | exact (Kd.C_below HR1_1.out HB.out) | (with_reducible refine cA ?_ _) | (with_reducible refine cN ?_ _) | (with_reducible refine cD ?_))); (case side4 => exact HC1_1.out); rintro e w21 ⟨rfl, hb⟩; have n0_ := mk0 (blk_below (by (with_reducible repeat (first | refine kN ?_ _ | refine kD ?_ | refine kA ?_ _)); exact BK384.out) hb); have n1_ := mk0 (blk_below (by (with_reducible repeat (first | refine kN ?_ _ | refine kD ?_ | refine kA ?_ _)); exact BK385.out) hb); have n2_ := mk0 (below_step (by repeat (first | (with_reducible first | exact HB.out | apply bA | apply bN | apply bD | refine bS ?_ GE384.out | refine bS ?_ GE385.out) | exact HB.out)) hb); clear BK384; clear BK385; clear HB; have BK384 := n0_; have BK385 := n1_; have HB := n2_; clear n0_ n1_ n2_; (try clear hb); (try clear hb2); (try clear hk); (try clear hi)))
      repeat (go_quiet (first | (go_at_call 61; (with_reducible refine (spec_GcdMeet.calls k a0_0 _ _ l0_1 a1_0 _ _ l1_1 false _ ?side1 ?side2 ?side3 ?side4 A8.out).mono ?_); (case side1 => repeat (first | exact (Kd.C_below HR0_1.out HB.out) | (with_reducible refine cA ?_ _) | (with_reducible refine cN ?_ _) | (with_reducible refine cD ?_))); (case side2 => exact HC0_1.out); (case side3 => repeat (first | exact (Kd.C_below HR1_1.out HB.out) | (with_reducible refine cA ?_ _) | (with_reducible refine cN ?_ _) | (with_reducible refine cD ?_))); (case side4 => exact HC1_1.out); rintro e w21 ⟨rfl, hb⟩; have n0_ := mk0 (blk_below (by (with_reducible repeat (first | refine kN ?_ _ | refine kD ?_ | refine kA ?_ _)); exact BK384.out) hb); have n1_ := mk0 (blk_below (by (with_reducible repeat (first | refine kN ?_ _ | refine kD ?_ | refine kA ?_ _)); exact BK385.out) hb); have n2_ := mk0 (below_step (by repeat (first | (with_reducible first | exact HB.out | apply bA | apply bN | apply bD | refine bS ?_ GE384.out | refine bS ?_ GE385.out) | exact HB.out)) hb); clear BK384; clear BK385; clear HB; have BK384 := n0_; have BK385 := n1_; have HB := n2_; clear n0_ n1_ n2_; (try clear hb); (try clear hb2); (try clear hk); (try clear hi))); try go_wp2_with (first | (go_at_call 61; (with_reducible refine (spec_GcdMeet.calls k a0_0 _ _ l0_1 a1_0 _ _ l1_1 false _ ?side1 ?side2 ?side3 ?side4 A8.out).mono ?_); (case side1 => repeat (first | exact (Kd.C_below HR0_1.out HB.out) | (with_reducible refine cA ?_ _) | (with_reducible refine cN ?_ _) | (with_reducible refine cD ?_))); (case side2 => exact HC0_1.out); (case side3 => repeat (first | exact (Kd.C_below HR1_1.out HB.out) | (with_reducible refine cA ?_ _) | (with_reducible refine cN ?_ _) | (with_reducible refine cD ?_))); (case side4 => exact HC1_1.out); rintro e w21 ⟨rfl, hb⟩; have n0_ := mk0 (blk_below (by (with_reducible repeat (first | refine kN ?_ _ | refine kD ?_ | refine kA ?_ _)); exact BK384.out) hb); have n1_ := mk0 (blk_below (by (with_reducible repeat (first | refine kN ?_ _ | refine kD ?_ | refine kA ?_ _)); exact BK385.out) hb); have n2_ := mk0 (below_step (by repeat (first | (with_reducible first | exact HB.out | apply bA | apply bN | apply bD | refine bS ?_ GE384.out | refine bS ?_ GE385.out) | exact HB.out)) hb); clear BK384; clear BK385; clear HB; have BK384 := n0_; have BK385 := n1_; have HB := n2_; clear n0_ n1_ n2_; (try clear hb); (try clear hb2); (try clear hk); (try clear hi))))
      go_meet
      case rel => exact ⟨_, (true), (by first | rfl | (simp; done) | (simp [*]; done)), H', ⟨by first | omega | exact Nat.le_refl _⟩, ⟨by (with_reducible repeat (first | refine kN ?_ _ | refine kD ?_ | refine kA ?_ _)); exact BK384.out⟩, ⟨by (with_reducible repeat (first | refine kN ?_ _ | refine kD ?_ | refine kA ?_ _)); exact BK385.out⟩, ⟨by repeat (first | (with_reducible first | exact HB.out | apply bA | apply bN | apply bD | refine bS ?_ GE384.out | refine bS ?_ GE385.out) | exact HB.out)⟩⟩
  case rest =>
    clear HC5
    try clear c1
    try clear p2
    try clear c3
    try clear c9
    try clear c11
    try clear c18
    try clear z12
    try clear z13
    try clear z15
    try clear z16
    try clear z19
    try clear z20
    try clear z12
    try clear z13
    try clear z15
    try clear z16
    try clear z19
    try clear z20
    obtain ⟨kq, x32_4, rfl, HA, HJ4, BK384, BK385, HB⟩ := hcut
    cases kq with
    | zero => exact absurd HA.out (by simp [spec_MayMeet.j0])
    | succ kj4 =>
      have H := HA.out
      clear HA
      simp only [spec_MayMeet.j0] at H
      by_cases c22 : x32_4 = true
      · subst c22
        rw [if_pos rfl] at H
        obtain rfl := Option.some.inj H
        go_wp2
        repeat (go_quiet (fail); try go_wp2)
        go_ret
        exact ⟨by first | rfl | (simp [errW_none, errW_some] <;> rfl) | (simp [*, errW_none, errW_some] <;> rfl), by repeat (first | (with_reducible first | exact HB.out | apply bA | apply bN | apply bD | refine bS ?_ GE384.out | refine bS ?_ GE385.out) | exact HB.out)⟩
      · replace c22 := Bool.eq_false_iff.mpr c22
        subst c22
        rw [if_neg (show ¬ (false = true) by decide)] at H
        obtain ⟨t388, A23, H⟩ := bindA H
        obtain ⟨t389, A24, H⟩ := bindA H
        have HC25 := mk0 H
        clear H
        have hnb26 := NB384_385.out
        have hnc26 := NB385_384.out
        have z27 := bc2 BK384.out
        go_upto_region 5 with (first | (go_at_call 29; (with_reducible refine (spec_CoefOf.calls kj4 a0_0 _ _ l0_1 a2 t388 _ ?side1 ?side2 A23.out).mono ?_); (case side1 => repeat (first | exact (Kd.C_below HR0_1.out HB.out) | (with_reducible refine cA ?_ _) | (with_reducible refine cN ?_ _) | (with_reducible refine cD ?_))); (case side2 => exact HC0_1.out); rintro e w28 ⟨rfl, hb⟩; have n0_ := mk0 (blk_below (by (with_reducible repeat (first | refine kN ?_ _ | refine kD ?_ | refine kA ?_ _)); exact BK384.out) hb); have n1_ := mk0 (blk_below (by (with_reducible repeat (first | refine kN ?_ _ | refine kD ?_ | refine kA ?_ _)); exact BK385.out) hb); have n2_ := mk0 (below_step (by repeat (first | (with_reducible first | exact HB.out | apply bA | apply bN | apply bD | refine bS ?_ GE384.out | refine bS ?_ GE385.out) | exact HB.out)) hb); clear BK384; clear BK385; clear HB; have BK384 := n0_; have BK385 := n1_; have HB := n2_; clear n0_ n1_ n2_; (try clear hb); (try clear hb2); (try clear hk); (try clear hi)) | (go_at_call 63; (with_reducible refine (spec_l9At.calls kj4 _ _ l3 a2 t389 _ ?side1 ?side2 A24.out).mono ?_); (case side1 => repeat (first | exact (Kd.C_below HR3.out HB.out) | (with_reducible refine cA ?_ _) | (with_reducible refine cN ?_ _) | (with_reducible refine cD ?_))); (case side2 => exact HC3.out); rintro e w' ⟨rfl, ⟨nd, rfl⟩⟩; (try first | exact ⟨rfl, _, World.drewN_drewN _ _ _⟩ | exact ⟨rfl, _, Eq.trans (World.drewN_drewN _ _ _) (congrArg (World.drewN _) (Nat.add_assoc _ _ _))⟩)))
        repeat (go_quiet (first | (go_at_call 29; (with_reducible refine (spec_CoefOf.calls kj4 a0_0 _ _ l0_1 a2 t388 _ ?side1 ?side2 A23.out).mono ?_); (case side1 => repeat (first | exact (Kd.C_below HR0_1.out HB.out) | (with_reducible refine cA ?_ _) | (with_reducible refine cN ?_ _) | (with_reducible refine cD ?_))); (case side2 => exact HC0_1.out); rintro e w28 ⟨rfl, hb⟩; have n0_ := mk0 (blk_below (by (with_reducible repeat (first | refine kN ?_ _ | refine kD ?_ | refine kA ?_ _)); exact BK384.out) hb); have n1_ := mk0 (blk_below (by (with_reducible repeat (first | refine kN ?_ _ | refine kD ?_ | refine kA ?_ _)); exact BK385.out) hb); have n2_ := mk0 (below_step (by repeat (first | (with_reducible first | exact HB.out | apply bA | apply bN | apply bD | refine bS ?_ GE384.out | refine bS ?_ GE385.out) | exact HB.out)) hb); clear BK384; clear BK385; clear HB; have BK384 := n0_; have BK385 := n1_; have HB := n2_; clear n0_ n1_ n2_; (try clear hb); (try clear hb2); (try clear hk); (try clear hi)) | (go_at_call 63; (with_reducible refine (spec_l9At.calls kj4 _ _ l3 a2 t389 _ ?side1 ?side2 A24.out).mono ?_); (case side1 => repeat (first | exact (Kd.C_below HR3.out HB.out) | (with_reducible refine cA ?_ _) | (with_reducible refine cN ?_ _) | (with_reducible refine cD ?_))); (case side2 => exact HC3.out); rintro e w' ⟨rfl, ⟨nd, rfl⟩⟩; (try first | exact ⟨rfl, _, World.drewN_drewN _ _ _⟩ | exact ⟨rfl, _, Eq.trans (World.drewN_drewN _ _ _) (congrArg (World.drewN _) (Nat.add_assoc _ _ _))⟩))); go_upto_region 5 with (first | (go_at_call 29; (with_reducible refine (spec_CoefOf.calls kj4 a0_0 _ _ l0_1 a2 t388 _ ?side1 ?side2 A23.out).mono ?_); (case side1 => repeat (first | exact (Kd.C_below HR0_1.out HB.out) | (with_reducible refine cA ?_ _) | (with_reducible refine cN ?_ _) | (with_reducible refine cD ?_))); (case side2 => exact HC0_1.out); rintro e w28 ⟨rfl, hb⟩; have n0_ := mk0 (blk_below (by (with_reducible repeat (first | refine kN ?_ _ | refine kD ?_ | refine kA ?_ _)); exact BK384.out) hb); have n1_ := mk0 (blk_below (by (with_reducible repeat (first | refine kN ?_ _ | refine kD ?_ | refine kA ?_ _)); exact BK385.out) hb); have n2_ := mk0 (below_step (by repeat (first | (with_reducible first | exact HB.out | apply bA | apply bN | apply bD | refine bS ?_ GE384.out | refine bS ?_ GE385.out) | exact HB.out)) hb); clear BK384; clear BK385; clear HB; have BK384 := n0_; have BK385 := n1_; have HB := n2_; clear n0_ n1_ n2_; (try clear hb); (try clear hb2); (try clear hk); (try clear hi)) | (go_at_call 63; (with_reducible refine (spec_l9At.calls kj4 _ _ l3 a2 t389 _ ?side1 ?side2 A24.out).mono ?_); (case side1 => repeat (first | exact (Kd.C_below HR3.out HB.out) | (with_reducible refine cA ?_ _) | (with_reducible refine cN ?_ _) | (with_reducible refine cD ?_))); (case side2 => exact HC3.out); rintro e w' ⟨rfl, ⟨nd, rfl⟩⟩; (try first | exact ⟨rfl, _, World.drewN_drewN _ _ _⟩ | exact ⟨rfl, _, Eq.trans (World.drewN_drewN _ _ _) (congrArg (World.drewN _) (Nat.add_assoc _ _ _))⟩))))
        (try simp only [Act.put, List.setIfInBounds_toArray, List.set_cons_zero, List.set_cons_succ])
        go_cut [51] (fun v51 wc => ∃ (kq : Nat) (x51_24 : Bool), v51 = .bool x51_24 ∧ Aside0 (spec_MayMeet.j1 kq a2 l3 t388 t389 x51_24 a0_0 l0_1 a1_0 l1_1 = some r) ∧ Aside0 (kq ≤ kj4) ∧ Aside0 (wc.heap[gb384]? = some (.cells #[.int .i64 a0_0, (.slice A0_1 l0_1.length c0_1)] 28 (0, 0))) ∧ Aside0 (wc.heap[gb385]? = some (.cells #[.int .i64 a1_0, (.slice A1_1 l1_1.length c1_1)] 28 (0, 0))) ∧ Aside0 (Below w.heap.size w wc))
        case first =>
          have H := HC25.out
          clear HC25
          by_cases c29 : t388 = 0
          · rw [if_pos c29] at H
            have c29b0 : (t388 == 0) = true := beq_iff_eq.mpr c29
            have c29b1 : (t388 != 0) = false := bne_eq_false_iff_eq.mpr c29
            clear c29
            (first | rw [c29b0] | (simp only [i64_w, i32_w]; rw [c29b0]) | skip)
            have H' := mk0 H
            clear H
            go_wp2
            repeat (go_quiet (fail); try go_wp2)
            go_meet
            case rel => exact ⟨_, (true), (by first | rfl | (simp; done) | (simp [*]; done)), H', ⟨by have := HJ4.out; first | omega | exact Nat.le_refl _⟩, ⟨by (with_reducible repeat (first | refine kN ?_ _ | refine kD ?_ | refine kA ?_ _)); exact BK384.out⟩, ⟨by (with_reducible repeat (first | refine kN ?_ _ | refine kD ?_ | refine kA ?_ _)); exact BK385.out⟩, ⟨by repeat (first | (with_reducible first | exact HB.out | apply bA | apply bN | apply bD | refine bS ?_ GE384.out | refine bS ?_ GE385.out) | exact HB.out)⟩⟩
          · rw [if_neg c29] at H
            have c29b0 : (t388 == 0) = false := beq_eq_false_iff_ne.mpr c29
            have c29b1 : (t388 != 0) = true := bne_iff_ne.mpr c29
            (first | rw [c29b0] | (simp only [i64_w, i32_w]; rw [c29b0]) | skip)
            obtain ⟨t390, A30, H⟩ := bindA H
            by_cases c31 : t388 = t390
            · rw [if_pos c31] at H
              have c31b0 : (t388 == t390) = true := beq_iff_eq.mpr c31
              have c31b1 : (t388 != t390) = false := bne_eq_false_iff_eq.mpr c31
              clear c31
              have H' := mk0 H
              clear H
              have hnb32 := NB385_384.out
              have hnc32 := NB384_385.out
              have z33 := bc2 BK385.out
              go_wp2_with (first | (go_at_call 29; (with_reducible refine (spec_CoefOf.calls kj4 a1_0 _ _ l1_1 a2 t390 _ ?side1 ?side2 A30.out).mono ?_); (case side1 => repeat (first | exact (Kd.C_below HR1_1.out HB.out) | (with_reducible refine cA ?_ _) | (with_reducible refine cN ?_ _) | (with_reducible refine cD ?_))); (case side2 => exact HC1_1.out); rintro e w34 ⟨rfl, hb⟩; have n0_ := mk0 (blk_below (by (with_reducible repeat (first | refine kN ?_ _ | refine kD ?_ | refine kA ?_ _)); exact BK384.out) hb); have n1_ := mk0 (blk_below (by (with_reducible repeat (first | refine kN ?_ _ | refine kD ?_ | refine kA ?_ _)); exact BK385.out) hb); have n2_ := mk0 (below_step (by repeat (first | (with_reducible first | exact HB.out | apply bA | apply bN | apply bD | refine bS ?_ GE384.out | refine bS ?_ GE385.out) | exact HB.out)) hb); clear BK384; clear BK385; clear HB; have BK384 := n0_; have BK385 := n1_; have HB := n2_; clear n0_ n1_ n2_; (try clear hb); (try clear hb2); (try clear hk); (try clear hi)))
              repeat (go_quiet (first | (go_at_call 29; (with_reducible refine (spec_CoefOf.calls kj4 a1_0 _ _ l1_1 a2 t390 _ ?side1 ?side2 A30.out).mono ?_); (case side1 => repeat (first | exact (Kd.C_below HR1_1.out HB.out) | (with_reducible refine cA ?_ _) | (with_reducible refine cN ?_ _) | (with_reducible refine cD ?_))); (case side2 => exact HC1_1.out); rintro e w34 ⟨rfl, hb⟩; have n0_ := mk0 (blk_below (by (with_reducible repeat (first | refine kN ?_ _ | refine kD ?_ | refine kA ?_ _)); exact BK384.out) hb); have n1_ := mk0 (blk_below (by (with_reducible repeat (first | refine kN ?_ _ | refine kD ?_ | refine kA ?_ _)); exact BK385.out) hb); have n2_ := mk0 (below_step (by repeat (first | (with_reducible first | exact HB.out | apply bA | apply bN | apply bD | refine bS ?_ GE384.out | refine bS ?_ GE385.out) | exact HB.out)) hb); clear BK384; clear BK385; clear HB; have BK384 := n0_; have BK385 := n1_; have HB := n2_; clear n0_ n1_ n2_; (try clear hb); (try clear hb2); (try clear hk); (try clear hi))); try go_wp2_with (first | (go_at_call 29; (with_reducible refine (spec_CoefOf.calls kj4 a1_0 _ _ l1_1 a2 t390 _ ?side1 ?side2 A30.out).mono ?_); (case side1 => repeat (first | exact (Kd.C_below HR1_1.out HB.out) | (with_reducible refine cA ?_ _) | (with_reducible refine cN ?_ _) | (with_reducible refine cD ?_))); (case side2 => exact HC1_1.out); rintro e w34 ⟨rfl, hb⟩; have n0_ := mk0 (blk_below (by (with_reducible repeat (first | refine kN ?_ _ | refine kD ?_ | refine kA ?_ _)); exact BK384.out) hb); have n1_ := mk0 (blk_below (by (with_reducible repeat (first | refine kN ?_ _ | refine kD ?_ | refine kA ?_ _)); exact BK385.out) hb); have n2_ := mk0 (below_step (by repeat (first | (with_reducible first | exact HB.out | apply bA | apply bN | apply bD | refine bS ?_ GE384.out | refine bS ?_ GE385.out) | exact HB.out)) hb); clear BK384; clear BK385; clear HB; have BK384 := n0_; have BK385 := n1_; have HB := n2_; clear n0_ n1_ n2_; (try clear hb); (try clear hb2); (try clear hk); (try clear hi))))
              go_meet
              case rel => exact ⟨_, (decide (t389 < 0)), (by first | rfl | (simp; done) | (simp [*]; done)), H', ⟨by have := HJ4.out; first | omega | exact Nat.le_refl _⟩, ⟨by (with_reducible repeat (first | refine kN ?_ _ | refine kD ?_ | refine kA ?_ _)); exact BK384.out⟩, ⟨by (with_reducible repeat (first | refine kN ?_ _ | refine kD ?_ | refine kA ?_ _)); exact BK385.out⟩, ⟨by repeat (first | (with_reducible first | exact HB.out | apply bA | apply bN | apply bD | refine bS ?_ GE384.out | refine bS ?_ GE385.out) | exact HB.out)⟩⟩
            · rw [if_neg c31] at H
              have c31b0 : (t388 == t390) = false := beq_eq_false_iff_ne.mpr c31
              have c31b1 : (t388 != t390) = true := bne_iff_ne.mpr c31
              have H' := mk0 H
              clear H
              have hnb35 := NB385_384.out
              have hnc35 := NB384_385.out
              have z36 := bc2 BK385.out
              go_wp2_with (first | (go_at_call 29; (with_reducible refine (spec_CoefOf.calls kj4 a1_0 _ _ l1_1 a2 t390 _ ?side1 ?side2 A30.out).mono ?_); (case side1 => repeat (first | exact (Kd.C_below HR1_1.out HB.out) | (with_reducible refine cA ?_ _) | (with_reducible refine cN ?_ _) | (with_reducible refine cD ?_))); (case side2 => exact HC1_1.out); rintro e w37 ⟨rfl, hb⟩; have n0_ := mk0 (blk_below (by (with_reducible repeat (first | refine kN ?_ _ | refine kD ?_ | refine kA ?_ _)); exact BK384.out) hb); have n1_ := mk0 (blk_below (by (with_reducible repeat (first | refine kN ?_ _ | refine kD ?_ | refine kA ?_ _)); exact BK385.out) hb); have n2_ := mk0 (below_step (by repeat (first | (with_reducible first | exact HB.out | apply bA | apply bN | apply bD | refine bS ?_ GE384.out | refine bS ?_ GE385.out) | exact HB.out)) hb); clear BK384; clear BK385; clear HB; have BK384 := n0_; have BK385 := n1_; have HB := n2_; clear n0_ n1_ n2_; (try clear hb); (try clear hb2); (try clear hk); (try clear hi)))
              repeat (go_quiet (first | (go_at_call 29; (with_reducible refine (spec_CoefOf.calls kj4 a1_0 _ _ l1_1 a2 t390 _ ?side1 ?side2 A30.out).mono ?_); (case side1 => repeat (first | exact (Kd.C_below HR1_1.out HB.out) | (with_reducible refine cA ?_ _) | (with_reducible refine cN ?_ _) | (with_reducible refine cD ?_))); (case side2 => exact HC1_1.out); rintro e w37 ⟨rfl, hb⟩; have n0_ := mk0 (blk_below (by (with_reducible repeat (first | refine kN ?_ _ | refine kD ?_ | refine kA ?_ _)); exact BK384.out) hb); have n1_ := mk0 (blk_below (by (with_reducible repeat (first | refine kN ?_ _ | refine kD ?_ | refine kA ?_ _)); exact BK385.out) hb); have n2_ := mk0 (below_step (by repeat (first | (with_reducible first | exact HB.out | apply bA | apply bN | apply bD | refine bS ?_ GE384.out | refine bS ?_ GE385.out) | exact HB.out)) hb); clear BK384; clear BK385; clear HB; have BK384 := n0_; have BK385 := n1_; have HB := n2_; clear n0_ n1_ n2_; (try clear hb); (try clear hb2); (try clear hk); (try clear hi))); try go_wp2_with (first | (go_at_call 29; (with_reducible refine (spec_CoefOf.calls kj4 a1_0 _ _ l1_1 a2 t390 _ ?side1 ?side2 A30.out).mono ?_); (case side1 => repeat (first | exact (Kd.C_below HR1_1.out HB.out) | (with_reducible refine cA ?_ _) | (with_reducible refine cN ?_ _) | (with_reducible refine cD ?_))); (case side2 => exact HC1_1.out); rintro e w37 ⟨rfl, hb⟩; have n0_ := mk0 (blk_below (by (with_reducible repeat (first | refine kN ?_ _ | refine kD ?_ | refine kA ?_ _)); exact BK384.out) hb); have n1_ := mk0 (blk_below (by (with_reducible repeat (first | refine kN ?_ _ | refine kD ?_ | refine kA ?_ _)); exact BK385.out) hb); have n2_ := mk0 (below_step (by repeat (first | (with_reducible first | exact HB.out | apply bA | apply bN | apply bD | refine bS ?_ GE384.out | refine bS ?_ GE385.out) | exact HB.out)) hb); clear BK384; clear BK385; clear HB; have BK384 := n0_; have BK385 := n1_; have HB := n2_; clear n0_ n1_ n2_; (try clear hb); (try clear hb2); (try clear hk); (try clear hi))))
              go_meet
              case rel => exact ⟨_, (true), (by first | rfl | (simp; done) | (simp [*]; done)), H', ⟨by have := HJ4.out; first | omega | exact Nat.le_refl _⟩, ⟨by (with_reducible repeat (first | refine kN ?_ _ | refine kD ?_ | refine kA ?_ _)); exact BK384.out⟩, ⟨by (with_reducible repeat (first | refine kN ?_ _ | refine kD ?_ | refine kA ?_ _)); exact BK385.out⟩, ⟨by repeat (first | (with_reducible first | exact HB.out | apply bA | apply bN | apply bD | refine bS ?_ GE384.out | refine bS ?_ GE385.out) | exact HB.out)⟩⟩
        case rest =>
          clear HC25
          try clear c1
          try clear c2
          try clear p2
          try clear c3
          try clear c9
          try clear c11
          try clear c18
          try clear c22
          try clear c26
          try clear c29
          try clear c29b0
          try clear c29b1
          try clear c31
          try clear c31b0
          try clear c31b1
          try clear c32
          try clear c35
          try clear z12
          try clear z13
          try clear z15
          try clear z16
          try clear z19
          try clear z20
          try clear z27
          try clear z33
          try clear z36
          try clear z12
          try clear z13
          try clear z15
          try clear z16
          try clear z19
          try clear z20
          try clear z27
          try clear z33
          try clear z36
          try clear p2
          obtain ⟨kq, x51_24, rfl, HA, HJ24, BK384, BK385, HB⟩ := hcut
          cases kq with
          | zero => exact absurd HA.out (by simp [spec_MayMeet.j1])
          | succ kj24 =>
            have H := HA.out
            clear HA
            simp only [spec_MayMeet.j1] at H
            by_cases c38 : x51_24 = true
            · subst c38
              rw [if_pos rfl] at H
              obtain rfl := Option.some.inj H
              go_wp2
              repeat (go_quiet (fail); try go_wp2)
              go_ret
              exact ⟨by first | rfl | (simp [errW_none, errW_some] <;> rfl) | (simp [*, errW_none, errW_some] <;> rfl), by repeat (first | (with_reducible first | exact HB.out | apply bA | apply bN | apply bD | refine bS ?_ GE384.out | refine bS ?_ GE385.out) | exact HB.out)⟩
            · replace c38 := Bool.eq_false_iff.mpr c38
              subst c38
              rw [if_neg (show ¬ (false = true) by decide)] at H
              replace H := Option.bind_eq_some_iff.mp H
              obtain ⟨⟨t391, t392⟩, A390, H⟩ := H
              replace H : ((spec_l11Rest.f kj24 a1_0 l1_1 a2).bind fun bt396 => ((spec_Least.f kj24 t391 t392 l3).bind fun bt401 => ((spec_Most.f kj24 t391 t392 l3).bind fun bt403 => ((spec_Least.f kj24 bt396.1 bt396.2 l3).bind fun bt405 => ((spec_Most.f kj24 bt396.1 bt396.2 l3).bind fun bt407 => (spec_MayMeet.l0 kj24 l3 t388 t389 bt401.1 bt403.1 bt405.1 bt407.1 1)))))) = some r := H
              have A39 := mk0 A390
              clear A390
              replace H := Option.bind_eq_some_iff.mp H
              obtain ⟨⟨t396, t397⟩, A400, H⟩ := H
              replace H : ((spec_Least.f kj24 t391 t392 l3).bind fun bt401 => ((spec_Most.f kj24 t391 t392 l3).bind fun bt403 => ((spec_Least.f kj24 t396 t397 l3).bind fun bt405 => ((spec_Most.f kj24 t396 t397 l3).bind fun bt407 => (spec_MayMeet.l0 kj24 l3 t388 t389 bt401.1 bt403.1 bt405.1 bt407.1 1))))) = some r := H
              have A40 := mk0 A400
              clear A400
              replace H := Option.bind_eq_some_iff.mp H
              obtain ⟨⟨t401, t402⟩, A410, H⟩ := H
              replace H : ((spec_Most.f kj24 t391 t392 l3).bind fun bt403 => ((spec_Least.f kj24 t396 t397 l3).bind fun bt405 => ((spec_Most.f kj24 t396 t397 l3).bind fun bt407 => (spec_MayMeet.l0 kj24 l3 t388 t389 t401 bt403.1 bt405.1 bt407.1 1)))) = some r := H
              have A41 := mk0 A410
              clear A410
              replace H := Option.bind_eq_some_iff.mp H
              obtain ⟨⟨t403, t404⟩, A420, H⟩ := H
              replace H : ((spec_Least.f kj24 t396 t397 l3).bind fun bt405 => ((spec_Most.f kj24 t396 t397 l3).bind fun bt407 => (spec_MayMeet.l0 kj24 l3 t388 t389 t401 t403 bt405.1 bt407.1 1))) = some r := H
              have A42 := mk0 A420
              clear A420
              replace H := Option.bind_eq_some_iff.mp H
              obtain ⟨⟨t405, t406⟩, A430, H⟩ := H
              replace H : ((spec_Most.f kj24 t396 t397 l3).bind fun bt407 => (spec_MayMeet.l0 kj24 l3 t388 t389 t401 t403 t405 bt407.1 1)) = some r := H
              have A43 := mk0 A430
              clear A430
              replace H := Option.bind_eq_some_iff.mp H
              obtain ⟨⟨t407, t408⟩, A440, H⟩ := H
              replace H : (spec_MayMeet.l0 kj24 l3 t388 t389 t401 t403 t405 t407 1) = some r := H
              have A44 := mk0 A440
              clear A440
              have H' := mk0 H
              clear H
              have hnb45 := NB384_385.out
              have hnc45 := NB385_384.out
              have z46 := bc2 BK384.out
              go_wp2_with (first | (go_at_call 64; (with_reducible refine (spec_l11Rest.calls kj24 a0_0 _ _ l0_1 a2 t391 t392 _ ?side1 ?side2 A39.out).mono ?_); (case side1 => repeat (first | exact (Kd.C_below HR0_1.out HB.out) | (with_reducible refine cA ?_ _) | (with_reducible refine cN ?_ _) | (with_reducible refine cD ?_))); (case side2 => exact HC0_1.out); rintro e w47 ⟨v393, rfl, ho0, hb⟩; have q_ := qB (by repeat (first | (with_reducible first | exact HB.out | apply bA | apply bN | apply bD | refine bS ?_ GE384.out | refine bS ?_ GE385.out) | exact HB.out)) hb; have n0_ := mk0 (Kd.R_lower ho0 (below_size q_)); have n1_ := mk0 (blk_below (by (with_reducible repeat (first | refine kN ?_ _ | refine kD ?_ | refine kA ?_ _)); exact BK384.out) hb); have n2_ := mk0 (blk_below (by (with_reducible repeat (first | refine kN ?_ _ | refine kD ?_ | refine kA ?_ _)); exact BK385.out) hb); have n3_ := mk0 (below_step q_ hb); clear BK384; clear BK385; clear HB; have HO394 := n0_; have BK384 := n1_; have BK385 := n2_; have HB := n3_; clear q_ n0_ n1_ n2_ n3_; (try clear hb); (try clear hb2); (try clear hk); (try clear hi); (try clear ho0)) | ((with_reducible refine gate_dst (N := 11) rfl ?_); refine box_event ?hg (N := 11) ?hd (cs := #[.int .i64 0, .slice none 0 0]) (t := 28) ?hr ?_; (case hd => rfl); (case hg => rfl); (case hr => first | (go_simp; done) | (go_simp; rfl)); intro gb395 hg w48 hbox hb; have q_ := qB (by repeat (first | (with_reducible first | exact HB.out | apply bA | apply bN | apply bD | refine bS ?_ GE384.out | refine bS ?_ GE385.out) | exact HB.out)) hb; have n0_ := mk0 (Kd.R_below (by (with_reducible repeat (first | apply Kd.R_alloc | apply Kd.R_drewN | apply Kd.R_drew)); exact HO394.out) hb); have n1_ := mk0 (blk_below (by (with_reducible repeat (first | refine kN ?_ _ | refine kD ?_ | refine kA ?_ _)); exact BK384.out) hb); have n2_ := mk0 (blk_below (by (with_reducible repeat (first | refine kN ?_ _ | refine kD ?_ | refine kA ?_ _)); exact BK385.out) hb); have n3_ := mk0 (below_step q_ hb); have n4_ := mk0 (hbox); have n5_ := mk0 ((by rw [hg]; exact (below_size q_) : w.heap.size ≤ gb395)); have n6_ := n5_; have n7_ := mk0 ((by rw [hg]; exact Nat.ne_of_lt (blk_lt (by (with_reducible repeat (first | refine kN ?_ _ | refine kD ?_ | refine kA ?_ _)); exact BK384.out)) : gb384 ≠ gb395)); have n8_ := mk0 ((by rw [hg]; exact Nat.ne_of_gt (blk_lt (by (with_reducible repeat (first | refine kN ?_ _ | refine kD ?_ | refine kA ?_ _)); exact BK384.out)) : gb395 ≠ gb384)); have n9_ := mk0 ((by rw [hg]; exact Nat.ne_of_lt (blk_lt (by (with_reducible repeat (first | refine kN ?_ _ | refine kD ?_ | refine kA ?_ _)); exact BK385.out)) : gb385 ≠ gb395)); have n10_ := mk0 ((by rw [hg]; exact Nat.ne_of_gt (blk_lt (by (with_reducible repeat (first | refine kN ?_ _ | refine kD ?_ | refine kA ?_ _)); exact BK385.out)) : gb395 ≠ gb385)); clear HO394; clear BK384; clear BK385; clear HB; have HO394 := n0_; have BK384 := n1_; have BK385 := n2_; have HB := n3_; have BK395 := n4_; have GW395 := n5_; have GE395 := n6_; have NB384_395 := n7_; have NB395_384 := n8_; have NB385_395 := n9_; have NB395_385 := n10_; clear q_ n0_ n1_ n2_ n3_ n4_ n5_ n6_ n7_ n8_ n9_ n10_; clear hb hbox hg; have hnb49 := NB395_384.out; have hnc49 := NB384_395.out; have hnb50 := NB395_385.out; have hnc50 := NB385_395.out; have z51 := bc2 BK395.out; obtain ⟨Ao52, co52, eo52⟩ := Kd.R_slice HO394.out; subst eo52; have z53 := bc2 BK385.out) | (go_at_call 64; (with_reducible refine (spec_l11Rest.calls kj24 a1_0 _ _ l1_1 a2 t396 t397 _ ?side1 ?side2 A40.out).mono ?_); (case side1 => exact Kd.C_below HR1_1.out (by repeat (first | (with_reducible first | exact HB.out | apply bA | apply bN | apply bD | refine bS ?_ GE384.out | refine bS ?_ GE385.out | refine bS ?_ GE395.out) | exact HB.out))); (case side2 => exact HC1_1.out); rintro e w54 ⟨v398, rfl, ho0, hb⟩; have q_ := qB (by repeat (first | (with_reducible first | exact HB.out | apply bA | apply bN | apply bD | refine bS ?_ GE384.out | refine bS ?_ GE385.out | refine bS ?_ GE395.out) | exact HB.out)) hb; have n0_ := mk0 (Kd.R_elder' (by (with_reducible repeat (first | apply Kd.R_alloc | apply Kd.R_drewN | apply Kd.R_drew)); exact (Kd.R_mono (Kd.R_far (p := ⟨gb395, 1, none⟩) (Kd.R_far (p := ⟨gb395, 0, none⟩) (Kd.R_types HO394.out BK395.out (by decide)) (fun _ hk => hk.2) (.int .i64 t391)) (fun _ hk => hk.2) (.slice Ao52 t392.length co52)) (fun _ h_ => h_.1))) (Kd.R_base ho0) hb); have n1_ := mk0 (Kd.R_lower (Kd.R_new' ho0 (Kd.R_lt (by (with_reducible repeat (first | apply Kd.R_alloc | apply Kd.R_drewN | apply Kd.R_drew)); exact (Kd.R_mono (Kd.R_far (p := ⟨gb395, 1, none⟩) (Kd.R_far (p := ⟨gb395, 0, none⟩) (Kd.R_types HO394.out BK395.out (by decide)) (fun _ hk => hk.2) (.int .i64 t391)) (fun _ hk => hk.2) (.slice Ao52 t392.length co52)) (fun _ h_ => h_.1))))) (below_size q_)); have n2_ := mk0 (blk_below (g := gb384) (o := .cells #[.int .i64 a0_0, .slice A0_1 l0_1.length c0_1] 28 (0, 0)) (by (with_reducible repeat (first | refine kN ?_ _ | refine kD ?_ | refine kA ?_ _)); refine blk_far ?_ NB384_395.out _; (with_reducible repeat (first | refine kN ?_ _ | refine kD ?_ | refine kA ?_ _)); refine blk_far ?_ NB384_395.out _; (with_reducible repeat (first | refine kN ?_ _ | refine kD ?_ | refine kA ?_ _)); exact BK384.out) hb); have n3_ := mk0 (blk_below (g := gb385) (o := .cells #[.int .i64 a1_0, .slice A1_1 l1_1.length c1_1] 28 (0, 0)) (by (with_reducible repeat (first | refine kN ?_ _ | refine kD ?_ | refine kA ?_ _)); refine blk_far ?_ NB385_395.out _; (with_reducible repeat (first | refine kN ?_ _ | refine kD ?_ | refine kA ?_ _)); refine blk_far ?_ NB385_395.out _; (with_reducible repeat (first | refine kN ?_ _ | refine kD ?_ | refine kA ?_ _)); exact BK385.out) hb); have n4_ := mk0 (blk_below (g := gb395) (o := .cells #[.int .i64 t391, .slice Ao52 t392.length co52] 28 (0, 0)) (by (with_reducible repeat (first | refine kN ?_ _ | refine kD ?_ | refine kA ?_ _)); refine blk_put (cs := #[.int .i64 t391, .slice none 0 0]) ?_ 1 _ rfl; (with_reducible repeat (first | refine kN ?_ _ | refine kD ?_ | refine kA ?_ _)); refine blk_put (cs := #[.int .i64 0, .slice none 0 0]) ?_ 0 _ rfl; (with_reducible repeat (first | refine kN ?_ _ | refine kD ?_ | refine kA ?_ _)); exact BK395.out) hb); have n5_ := mk0 (below_step q_ hb); clear HO394; clear BK384; clear BK385; clear BK395; clear HB; have HO394 := n0_; have HO399 := n1_; have BK384 := n2_; have BK385 := n3_; have BK395 := n4_; have HB := n5_; clear q_ n0_ n1_ n2_ n3_ n4_ n5_; (try clear hb); (try clear hb2); (try clear hk); (try clear hi); (try clear ho0)) | ((with_reducible refine gate_dst (N := 12) rfl ?_); refine box_event ?hg (N := 12) ?hd (cs := #[.int .i64 0, .slice none 0 0]) (t := 28) ?hr ?_; (case hd => rfl); (case hg => rfl); (case hr => first | (go_simp; done) | (go_simp; rfl)); intro gb400 hg w55 hbox hb; have q_ := qB (by repeat (first | (with_reducible first | exact HB.out | apply bA | apply bN | apply bD | refine bS ?_ GE384.out | refine bS ?_ GE385.out | refine bS ?_ GE395.out) | exact HB.out)) hb; have n0_ := mk0 (Kd.R_below (by (with_reducible repeat (first | apply Kd.R_alloc | apply Kd.R_drewN | apply Kd.R_drew)); exact HO394.out) hb); have n1_ := mk0 (Kd.R_below (by (with_reducible repeat (first | apply Kd.R_alloc | apply Kd.R_drewN | apply Kd.R_drew)); exact HO399.out) hb); have n2_ := mk0 (blk_below (by (with_reducible repeat (first | refine kN ?_ _ | refine kD ?_ | refine kA ?_ _)); exact BK384.out) hb); have n3_ := mk0 (blk_below (by (with_reducible repeat (first | refine kN ?_ _ | refine kD ?_ | refine kA ?_ _)); exact BK385.out) hb); have n4_ := mk0 (blk_below (by (with_reducible repeat (first | refine kN ?_ _ | refine kD ?_ | refine kA ?_ _)); exact BK395.out) hb); have n5_ := mk0 (below_step q_ hb); have n6_ := mk0 (hbox); have n7_ := mk0 ((by rw [hg]; exact (below_size q_) : w.heap.size ≤ gb400)); have n8_ := n7_; have n9_ := mk0 ((by rw [hg]; exact Nat.ne_of_lt (blk_lt (by (with_reducible repeat (first | refine kN ?_ _ | refine kD ?_ | refine kA ?_ _)); exact BK384.out)) : gb384 ≠ gb400)); have n10_ := mk0 ((by rw [hg]; exact Nat.ne_of_gt (blk_lt (by (with_reducible repeat (first | refine kN ?_ _ | refine kD ?_ | refine kA ?_ _)); exact BK384.out)) : gb400 ≠ gb384)); have n11_ := mk0 ((by rw [hg]; exact Nat.ne_of_lt (blk_lt (by (with_reducible repeat (first | refine kN ?_ _ | refine kD ?_ | refine kA ?_ _)); exact BK385.out)) : gb385 ≠ gb400)); have n12_ := mk0 ((by rw [hg]; exact Nat.ne_of_gt (blk_lt (by (with_reducible repeat (first | refine kN ?_ _ | refine kD ?_ | refine kA ?_ _)); exact BK385.out)) : gb400 ≠ gb385)); have n13_ := mk0 ((by rw [hg]; exact Nat.ne_of_lt (blk_lt (by (with_reducible repeat (first | refine kN ?_ _ | refine kD ?_ | refine kA ?_ _)); exact BK395.out)) : gb395 ≠ gb400)); have n14_ := mk0 ((by rw [hg]; exact Nat.ne_of_gt (blk_lt (by (with_reducible repeat (first | refine kN ?_ _ | refine kD ?_ | refine kA ?_ _)); exact BK395.out)) : gb400 ≠ gb395)); clear HO394; clear HO399; clear BK384; clear BK385; clear BK395; clear HB; have HO394 := n0_; have HO399 := n1_; have BK384 := n2_; have BK385 := n3_; have BK395 := n4_; have HB := n5_; have BK400 := n6_; have GW400 := n7_; have GE400 := n8_; have NB384_400 := n9_; have NB400_384 := n10_; have NB385_400 := n11_; have NB400_385 := n12_; have NB395_400 := n13_; have NB400_395 := n14_; clear q_ n0_ n1_ n2_ n3_ n4_ n5_ n6_ n7_ n8_ n9_ n10_ n11_ n12_ n13_ n14_; clear hb hbox hg; have hnb56 := NB400_384.out; have hnc56 := NB384_400.out; have hnb57 := NB400_385.out; have hnc57 := NB385_400.out; have hnb58 := NB400_395.out; have hnc58 := NB395_400.out; have z59 := bc2 BK400.out; obtain ⟨Ao60, co60, eo60⟩ := Kd.R_slice HO399.out; subst eo60; have z61 := bc2 BK395.out) | (go_at_call 65; (with_reducible refine (spec_Least.calls kj24 t391 _ _ t392 _ _ l3 t401 t402 _ ?side1 ?side2 ?side3 ?side4 A41.out).mono ?_); (case side1 => refine (Kd.R_reads' (e := 70) (base := w.heap.size) (ok := fun k_ => (True ∧ some k_ ≠ (.slice Ao60 t397.length co60 : Value).ownBlock)) (n := t392.length) (c := co52) ?_).2.2; exact (by (with_reducible repeat (first | apply Kd.R_alloc | apply Kd.R_drewN | apply Kd.R_drew)); exact (Kd.R_mono (Kd.R_far (p := ⟨gb400, 1, none⟩) (Kd.R_far (p := ⟨gb400, 0, none⟩) (Kd.R_types HO394.out BK400.out (by decide)) (fun _ hk => hk.2) (.int .i64 t396)) (fun _ hk => hk.2) (.slice Ao60 t397.length co60)) (fun _ h_ => h_.1)))); (case side2 => exact (Kd.R_reads' HO394.out).2.1); (case side3 => exact Kd.C_below HR3.out (by repeat (first | (with_reducible first | exact HB.out | apply bA | apply bN | apply bD | refine bS ?_ GE384.out | refine bS ?_ GE385.out | refine bS ?_ GE395.out | refine bS ?_ GE400.out) | exact HB.out))); (case side4 => exact HC3.out); rintro e w62 ⟨rfl, hb⟩; have n0_ := mk0 (Kd.R_below (by (with_reducible repeat (first | apply Kd.R_alloc | apply Kd.R_drewN | apply Kd.R_drew)); exact (Kd.R_mono (Kd.R_far (p := ⟨gb400, 1, none⟩) (Kd.R_far (p := ⟨gb400, 0, none⟩) (Kd.R_types HO394.out BK400.out (by decide)) (fun _ hk => hk.2) (.int .i64 t396)) (fun _ hk => hk.2) (.slice Ao60 t397.length co60)) (fun _ h_ => h_.1))) hb); have n1_ := mk0 (Kd.R_below (by (with_reducible repeat (first | apply Kd.R_alloc | apply Kd.R_drewN | apply Kd.R_drew)); exact (Kd.R_mono (Kd.R_far (p := ⟨gb400, 1, none⟩) (Kd.R_far (p := ⟨gb400, 0, none⟩) (Kd.R_types HO399.out BK400.out (by decide)) (fun _ hk => hk.2) (.int .i64 t396)) (fun _ hk => hk.2) (.slice Ao60 t397.length co60)) (fun _ h_ => h_.1))) hb); have n2_ := mk0 (blk_below (g := gb384) (o := .cells #[.int .i64 a0_0, .slice A0_1 l0_1.length c0_1] 28 (0, 0)) (by (with_reducible repeat (first | refine kN ?_ _ | refine kD ?_ | refine kA ?_ _)); refine blk_far ?_ NB384_400.out _; (with_reducible repeat (first | refine kN ?_ _ | refine kD ?_ | refine kA ?_ _)); refine blk_far ?_ NB384_400.out _; (with_reducible repeat (first | refine kN ?_ _ | refine kD ?_ | refine kA ?_ _)); exact BK384.out) hb); have n3_ := mk0 (blk_below (g := gb385) (o := .cells #[.int .i64 a1_0, .slice A1_1 l1_1.length c1_1] 28 (0, 0)) (by (with_reducible repeat (first | refine kN ?_ _ | refine kD ?_ | refine kA ?_ _)); refine blk_far ?_ NB385_400.out _; (with_reducible repeat (first | refine kN ?_ _ | refine kD ?_ | refine kA ?_ _)); refine blk_far ?_ NB385_400.out _; (with_reducible repeat (first | refine kN ?_ _ | refine kD ?_ | refine kA ?_ _)); exact BK385.out) hb); have n4_ := mk0 (blk_below (g := gb395) (o := .cells #[.int .i64 t391, .slice Ao52 t392.length co52] 28 (0, 0)) (by (with_reducible repeat (first | refine kN ?_ _ | refine kD ?_ | refine kA ?_ _)); refine blk_far ?_ NB395_400.out _; (with_reducible repeat (first | refine kN ?_ _ | refine kD ?_ | refine kA ?_ _)); refine blk_far ?_ NB395_400.out _; (with_reducible repeat (first | refine kN ?_ _ | refine kD ?_ | refine kA ?_ _)); exact BK395.out) hb); have n5_ := mk0 (blk_below (g := gb400) (o := .cells #[.int .i64 t396, .slice Ao60 t397.length co60] 28 (0, 0)) (by (with_reducible repeat (first | refine kN ?_ _ | refine kD ?_ | refine kA ?_ _)); refine blk_put (cs := #[.int .i64 t396, .slice none 0 0]) ?_ 1 _ rfl; (with_reducible repeat (first | refine kN ?_ _ | refine kD ?_ | refine kA ?_ _)); refine blk_put (cs := #[.int .i64 0, .slice none 0 0]) ?_ 0 _ rfl; (with_reducible repeat (first | refine kN ?_ _ | refine kD ?_ | refine kA ?_ _)); exact BK400.out) hb); have n6_ := mk0 (below_step (by repeat (first | (with_reducible first | exact HB.out | apply bA | apply bN | apply bD | refine bS ?_ GE384.out | refine bS ?_ GE385.out | refine bS ?_ GE395.out | refine bS ?_ GE400.out) | exact HB.out)) hb); clear HO394; clear HO399; clear BK384; clear BK385; clear BK395; clear BK400; clear HB; have HO394 := n0_; have HO399 := n1_; have BK384 := n2_; have BK385 := n3_; have BK395 := n4_; have BK400 := n5_; have HB := n6_; clear n0_ n1_ n2_ n3_ n4_ n5_ n6_; (try clear hb); (try clear hb2); (try clear hk); (try clear hi); have z63 := bc2 BK395.out) | (go_at_call 66; (with_reducible refine (spec_Most.calls kj24 t391 _ _ t392 _ _ l3 t403 t404 _ ?side1 ?side2 ?side3 ?side4 A42.out).mono ?_); (case side1 => repeat (first | exact (Kd.R_reads' HO394.out).2.2 | (with_reducible refine cA ?_ _) | (with_reducible refine cN ?_ _) | (with_reducible refine cD ?_))); (case side2 => exact (Kd.R_reads' HO394.out).2.1); (case side3 => repeat (first | exact (Kd.C_below HR3.out HB.out) | (with_reducible refine cA ?_ _) | (with_reducible refine cN ?_ _) | (with_reducible refine cD ?_))); (case side4 => exact HC3.out); rintro e w64 ⟨rfl, hb⟩; have n0_ := mk0 (Kd.R_below (by (with_reducible repeat (first | apply Kd.R_alloc | apply Kd.R_drewN | apply Kd.R_drew)); exact HO394.out) hb); have n1_ := mk0 (Kd.R_below (by (with_reducible repeat (first | apply Kd.R_alloc | apply Kd.R_drewN | apply Kd.R_drew)); exact HO399.out) hb); have n2_ := mk0 (blk_below (by (with_reducible repeat (first | refine kN ?_ _ | refine kD ?_ | refine kA ?_ _)); exact BK384.out) hb); have n3_ := mk0 (blk_below (by (with_reducible repeat (first | refine kN ?_ _ | refine kD ?_ | refine kA ?_ _)); exact BK385.out) hb); have n4_ := mk0 (blk_below (by (with_reducible repeat (first | refine kN ?_ _ | refine kD ?_ | refine kA ?_ _)); exact BK395.out) hb); have n5_ := mk0 (blk_below (by (with_reducible repeat (first | refine kN ?_ _ | refine kD ?_ | refine kA ?_ _)); exact BK400.out) hb); have n6_ := mk0 (below_step (by repeat (first | (with_reducible first | exact HB.out | apply bA | apply bN | apply bD | refine bS ?_ GE384.out | refine bS ?_ GE385.out | refine bS ?_ GE395.out | refine bS ?_ GE400.out) | exact HB.out)) hb); clear HO394; clear HO399; clear BK384; clear BK385; clear BK395; clear BK400; clear HB; have HO394 := n0_; have HO399 := n1_; have BK384 := n2_; have BK385 := n3_; have BK395 := n4_; have BK400 := n5_; have HB := n6_; clear n0_ n1_ n2_ n3_ n4_ n5_ n6_; (try clear hb); (try clear hb2); (try clear hk); (try clear hi); have z65 := bc2 BK400.out) | (go_at_call 65; (with_reducible refine (spec_Least.calls kj24 t396 _ _ t397 _ _ l3 t405 t406 _ ?side1 ?side2 ?side3 ?side4 A43.out).mono ?_); (case side1 => repeat (first | exact (Kd.R_reads' HO399.out).2.2 | (with_reducible refine cA ?_ _) | (with_reducible refine cN ?_ _) | (with_reducible refine cD ?_))); (case side2 => exact (Kd.R_reads' HO399.out).2.1); (case side3 => repeat (first | exact (Kd.C_below HR3.out HB.out) | (with_reducible refine cA ?_ _) | (with_reducible refine cN ?_ _) | (with_reducible refine cD ?_))); (case side4 => exact HC3.out); rintro e w66 ⟨rfl, hb⟩; have n0_ := mk0 (Kd.R_below (by (with_reducible repeat (first | apply Kd.R_alloc | apply Kd.R_drewN | apply Kd.R_drew)); exact HO394.out) hb); have n1_ := mk0 (Kd.R_below (by (with_reducible repeat (first | apply Kd.R_alloc | apply Kd.R_drewN | apply Kd.R_drew)); exact HO399.out) hb); have n2_ := mk0 (blk_below (by (with_reducible repeat (first | refine kN ?_ _ | refine kD ?_ | refine kA ?_ _)); exact BK384.out) hb); have n3_ := mk0 (blk_below (by (with_reducible repeat (first | refine kN ?_ _ | refine kD ?_ | refine kA ?_ _)); exact BK385.out) hb); have n4_ := mk0 (blk_below (by (with_reducible repeat (first | refine kN ?_ _ | refine kD ?_ | refine kA ?_ _)); exact BK395.out) hb); have n5_ := mk0 (blk_below (by (with_reducible repeat (first | refine kN ?_ _ | refine kD ?_ | refine kA ?_ _)); exact BK400.out) hb); have n6_ := mk0 (below_step (by repeat (first | (with_reducible first | exact HB.out | apply bA | apply bN | apply bD | refine bS ?_ GE384.out | refine bS ?_ GE385.out | refine bS ?_ GE395.out | refine bS ?_ GE400.out) | exact HB.out)) hb); clear HO394; clear HO399; clear BK384; clear BK385; clear BK395; clear BK400; clear HB; have HO394 := n0_; have HO399 := n1_; have BK384 := n2_; have BK385 := n3_; have BK395 := n4_; have BK400 := n5_; have HB := n6_; clear n0_ n1_ n2_ n3_ n4_ n5_ n6_; (try clear hb); (try clear hb2); (try clear hk); (try clear hi); have z67 := bc2 BK400.out) | (go_at_call 66; (with_reducible refine (spec_Most.calls kj24 t396 _ _ t397 _ _ l3 t407 t408 _ ?side1 ?side2 ?side3 ?side4 A44.out).mono ?_); (case side1 => repeat (first | exact (Kd.R_reads' HO399.out).2.2 | (with_reducible refine cA ?_ _) | (with_reducible refine cN ?_ _) | (with_reducible refine cD ?_))); (case side2 => exact (Kd.R_reads' HO399.out).2.1); (case side3 => repeat (first | exact (Kd.C_below HR3.out HB.out) | (with_reducible refine cA ?_ _) | (with_reducible refine cN ?_ _) | (with_reducible refine cD ?_))); (case side4 => exact HC3.out); rintro e w68 ⟨rfl, hb⟩; have n0_ := mk0 (Kd.R_below (by (with_reducible repeat (first | apply Kd.R_alloc | apply Kd.R_drewN | apply Kd.R_drew)); exact HO394.out) hb); have n1_ := mk0 (Kd.R_below (by (with_reducible repeat (first | apply Kd.R_alloc | apply Kd.R_drewN | apply Kd.R_drew)); exact HO399.out) hb); have n2_ := mk0 (blk_below (by (with_reducible repeat (first | refine kN ?_ _ | refine kD ?_ | refine kA ?_ _)); exact BK384.out) hb); have n3_ := mk0 (blk_below (by (with_reducible repeat (first | refine kN ?_ _ | refine kD ?_ | refine kA ?_ _)); exact BK385.out) hb); have n4_ := mk0 (blk_below (by (with_reducible repeat (first | refine kN ?_ _ | refine kD ?_ | refine kA ?_ _)); exact BK395.out) hb); have n5_ := mk0 (blk_below (by (with_reducible repeat (first | refine kN ?_ _ | refine kD ?_ | refine kA ?_ _)); exact BK400.out) hb); have n6_ := mk0 (below_step (by repeat (first | (with_reducible first | exact HB.out | apply bA | apply bN | apply bD | refine bS ?_ GE384.out | refine bS ?_ GE385.out | refine bS ?_ GE395.out | refine bS ?_ GE400.out) | exact HB.out)) hb); clear HO394; clear HO399; clear BK384; clear BK385; clear BK395; clear BK400; clear HB; have HO394 := n0_; have HO399 := n1_; have BK384 := n2_; have BK385 := n3_; have BK395 := n4_; have BK400 := n5_; have HB := n6_; clear n0_ n1_ n2_ n3_ n4_ n5_ n6_; (try clear hb); (try clear hb2); (try clear hk); (try clear hi)))
              repeat (go_quiet (first | (go_at_call 64; (with_reducible refine (spec_l11Rest.calls kj24 a0_0 _ _ l0_1 a2 t391 t392 _ ?side1 ?side2 A39.out).mono ?_); (case side1 => repeat (first | exact (Kd.C_below HR0_1.out HB.out) | (with_reducible refine cA ?_ _) | (with_reducible refine cN ?_ _) | (with_reducible refine cD ?_))); (case side2 => exact HC0_1.out); rintro e w47 ⟨v393, rfl, ho0, hb⟩; have q_ := qB (by repeat (first | (with_reducible first | exact HB.out | apply bA | apply bN | apply bD | refine bS ?_ GE384.out | refine bS ?_ GE385.out) | exact HB.out)) hb; have n0_ := mk0 (Kd.R_lower ho0 (below_size q_)); have n1_ := mk0 (blk_below (by (with_reducible repeat (first | refine kN ?_ _ | refine kD ?_ | refine kA ?_ _)); exact BK384.out) hb); have n2_ := mk0 (blk_below (by (with_reducible repeat (first | refine kN ?_ _ | refine kD ?_ | refine kA ?_ _)); exact BK385.out) hb); have n3_ := mk0 (below_step q_ hb); clear BK384; clear BK385; clear HB; have HO394 := n0_; have BK384 := n1_; have BK385 := n2_; have HB := n3_; clear q_ n0_ n1_ n2_ n3_; (try clear hb); (try clear hb2); (try clear hk); (try clear hi); (try clear ho0)) | ((with_reducible refine gate_dst (N := 11) rfl ?_); refine box_event ?hg (N := 11) ?hd (cs := #[.int .i64 0, .slice none 0 0]) (t := 28) ?hr ?_; (case hd => rfl); (case hg => rfl); (case hr => first | (go_simp; done) | (go_simp; rfl)); intro gb395 hg w48 hbox hb; have q_ := qB (by repeat (first | (with_reducible first | exact HB.out | apply bA | apply bN | apply bD | refine bS ?_ GE384.out | refine bS ?_ GE385.out) | exact HB.out)) hb; have n0_ := mk0 (Kd.R_below (by (with_reducible repeat (first | apply Kd.R_alloc | apply Kd.R_drewN | apply Kd.R_drew)); exact HO394.out) hb); have n1_ := mk0 (blk_below (by (with_reducible repeat (first | refine kN ?_ _ | refine kD ?_ | refine kA ?_ _)); exact BK384.out) hb); have n2_ := mk0 (blk_below (by (with_reducible repeat (first | refine kN ?_ _ | refine kD ?_ | refine kA ?_ _)); exact BK385.out) hb); have n3_ := mk0 (below_step q_ hb); have n4_ := mk0 (hbox); have n5_ := mk0 ((by rw [hg]; exact (below_size q_) : w.heap.size ≤ gb395)); have n6_ := n5_; have n7_ := mk0 ((by rw [hg]; exact Nat.ne_of_lt (blk_lt (by (with_reducible repeat (first | refine kN ?_ _ | refine kD ?_ | refine kA ?_ _)); exact BK384.out)) : gb384 ≠ gb395)); have n8_ := mk0 ((by rw [hg]; exact Nat.ne_of_gt (blk_lt (by (with_reducible repeat (first | refine kN ?_ _ | refine kD ?_ | refine kA ?_ _)); exact BK384.out)) : gb395 ≠ gb384)); have n9_ := mk0 ((by rw [hg]; exact Nat.ne_of_lt (blk_lt (by (with_reducible repeat (first | refine kN ?_ _ | refine kD ?_ | refine kA ?_ _)); exact BK385.out)) : gb385 ≠ gb395)); have n10_ := mk0 ((by rw [hg]; exact Nat.ne_of_gt (blk_lt (by (with_reducible repeat (first | refine kN ?_ _ | refine kD ?_ | refine kA ?_ _)); exact BK385.out)) : gb395 ≠ gb385)); clear HO394; clear BK384; clear BK385; clear HB; have HO394 := n0_; have BK384 := n1_; have BK385 := n2_; have HB := n3_; have BK395 := n4_; have GW395 := n5_; have GE395 := n6_; have NB384_395 := n7_; have NB395_384 := n8_; have NB385_395 := n9_; have NB395_385 := n10_; clear q_ n0_ n1_ n2_ n3_ n4_ n5_ n6_ n7_ n8_ n9_ n10_; clear hb hbox hg; have hnb49 := NB395_384.out; have hnc49 := NB384_395.out; have hnb50 := NB395_385.out; have hnc50 := NB385_395.out; have z51 := bc2 BK395.out; obtain ⟨Ao52, co52, eo52⟩ := Kd.R_slice HO394.out; subst eo52; have z53 := bc2 BK385.out) | (go_at_call 64; (with_reducible refine (spec_l11Rest.calls kj24 a1_0 _ _ l1_1 a2 t396 t397 _ ?side1 ?side2 A40.out).mono ?_); (case side1 => exact Kd.C_below HR1_1.out (by repeat (first | (with_reducible first | exact HB.out | apply bA | apply bN | apply bD | refine bS ?_ GE384.out | refine bS ?_ GE385.out | refine bS ?_ GE395.out) | exact HB.out))); (case side2 => exact HC1_1.out); rintro e w54 ⟨v398, rfl, ho0, hb⟩; have q_ := qB (by repeat (first | (with_reducible first | exact HB.out | apply bA | apply bN | apply bD | refine bS ?_ GE384.out | refine bS ?_ GE385.out | refine bS ?_ GE395.out) | exact HB.out)) hb; have n0_ := mk0 (Kd.R_elder' (by (with_reducible repeat (first | apply Kd.R_alloc | apply Kd.R_drewN | apply Kd.R_drew)); exact (Kd.R_mono (Kd.R_far (p := ⟨gb395, 1, none⟩) (Kd.R_far (p := ⟨gb395, 0, none⟩) (Kd.R_types HO394.out BK395.out (by decide)) (fun _ hk => hk.2) (.int .i64 t391)) (fun _ hk => hk.2) (.slice Ao52 t392.length co52)) (fun _ h_ => h_.1))) (Kd.R_base ho0) hb); have n1_ := mk0 (Kd.R_lower (Kd.R_new' ho0 (Kd.R_lt (by (with_reducible repeat (first | apply Kd.R_alloc | apply Kd.R_drewN | apply Kd.R_drew)); exact (Kd.R_mono (Kd.R_far (p := ⟨gb395, 1, none⟩) (Kd.R_far (p := ⟨gb395, 0, none⟩) (Kd.R_types HO394.out BK395.out (by decide)) (fun _ hk => hk.2) (.int .i64 t391)) (fun _ hk => hk.2) (.slice Ao52 t392.length co52)) (fun _ h_ => h_.1))))) (below_size q_)); have n2_ := mk0 (blk_below (g := gb384) (o := .cells #[.int .i64 a0_0, .slice A0_1 l0_1.length c0_1] 28 (0, 0)) (by (with_reducible repeat (first | refine kN ?_ _ | refine kD ?_ | refine kA ?_ _)); refine blk_far ?_ NB384_395.out _; (with_reducible repeat (first | refine kN ?_ _ | refine kD ?_ | refine kA ?_ _)); refine blk_far ?_ NB384_395.out _; (with_reducible repeat (first | refine kN ?_ _ | refine kD ?_ | refine kA ?_ _)); exact BK384.out) hb); have n3_ := mk0 (blk_below (g := gb385) (o := .cells #[.int .i64 a1_0, .slice A1_1 l1_1.length c1_1] 28 (0, 0)) (by (with_reducible repeat (first | refine kN ?_ _ | refine kD ?_ | refine kA ?_ _)); refine blk_far ?_ NB385_395.out _; (with_reducible repeat (first | refine kN ?_ _ | refine kD ?_ | refine kA ?_ _)); refine blk_far ?_ NB385_395.out _; (with_reducible repeat (first | refine kN ?_ _ | refine kD ?_ | refine kA ?_ _)); exact BK385.out) hb); have n4_ := mk0 (blk_below (g := gb395) (o := .cells #[.int .i64 t391, .slice Ao52 t392.length co52] 28 (0, 0)) (by (with_reducible repeat (first | refine kN ?_ _ | refine kD ?_ | refine kA ?_ _)); refine blk_put (cs := #[.int .i64 t391, .slice none 0 0]) ?_ 1 _ rfl; (with_reducible repeat (first | refine kN ?_ _ | refine kD ?_ | refine kA ?_ _)); refine blk_put (cs := #[.int .i64 0, .slice none 0 0]) ?_ 0 _ rfl; (with_reducible repeat (first | refine kN ?_ _ | refine kD ?_ | refine kA ?_ _)); exact BK395.out) hb); have n5_ := mk0 (below_step q_ hb); clear HO394; clear BK384; clear BK385; clear BK395; clear HB; have HO394 := n0_; have HO399 := n1_; have BK384 := n2_; have BK385 := n3_; have BK395 := n4_; have HB := n5_; clear q_ n0_ n1_ n2_ n3_ n4_ n5_; (try clear hb); (try clear hb2); (try clear hk); (try clear hi); (try clear ho0)) | ((with_reducible refine gate_dst (N := 12) rfl ?_); refine box_event ?hg (N := 12) ?hd (cs := #[.int .i64 0, .slice none 0 0]) (t := 28) ?hr ?_; (case hd => rfl); (case hg => rfl); (case hr => first | (go_simp; done) | (go_simp; rfl)); intro gb400 hg w55 hbox hb; have q_ := qB (by repeat (first | (with_reducible first | exact HB.out | apply bA | apply bN | apply bD | refine bS ?_ GE384.out | refine bS ?_ GE385.out | refine bS ?_ GE395.out) | exact HB.out)) hb; have n0_ := mk0 (Kd.R_below (by (with_reducible repeat (first | apply Kd.R_alloc | apply Kd.R_drewN | apply Kd.R_drew)); exact HO394.out) hb); have n1_ := mk0 (Kd.R_below (by (with_reducible repeat (first | apply Kd.R_alloc | apply Kd.R_drewN | apply Kd.R_drew)); exact HO399.out) hb); have n2_ := mk0 (blk_below (by (with_reducible repeat (first | refine kN ?_ _ | refine kD ?_ | refine kA ?_ _)); exact BK384.out) hb); have n3_ := mk0 (blk_below (by (with_reducible repeat (first | refine kN ?_ _ | refine kD ?_ | refine kA ?_ _)); exact BK385.out) hb); have n4_ := mk0 (blk_below (by (with_reducible repeat (first | refine kN ?_ _ | refine kD ?_ | refine kA ?_ _)); exact BK395.out) hb); have n5_ := mk0 (below_step q_ hb); have n6_ := mk0 (hbox); have n7_ := mk0 ((by rw [hg]; exact (below_size q_) : w.heap.size ≤ gb400)); have n8_ := n7_; have n9_ := mk0 ((by rw [hg]; exact Nat.ne_of_lt (blk_lt (by (with_reducible repeat (first | refine kN ?_ _ | refine kD ?_ | refine kA ?_ _)); exact BK384.out)) : gb384 ≠ gb400)); have n10_ := mk0 ((by rw [hg]; exact Nat.ne_of_gt (blk_lt (by (with_reducible repeat (first | refine kN ?_ _ | refine kD ?_ | refine kA ?_ _)); exact BK384.out)) : gb400 ≠ gb384)); have n11_ := mk0 ((by rw [hg]; exact Nat.ne_of_lt (blk_lt (by (with_reducible repeat (first | refine kN ?_ _ | refine kD ?_ | refine kA ?_ _)); exact BK385.out)) : gb385 ≠ gb400)); have n12_ := mk0 ((by rw [hg]; exact Nat.ne_of_gt (blk_lt (by (with_reducible repeat (first | refine kN ?_ _ | refine kD ?_ | refine kA ?_ _)); exact BK385.out)) : gb400 ≠ gb385)); have n13_ := mk0 ((by rw [hg]; exact Nat.ne_of_lt (blk_lt (by (with_reducible repeat (first | refine kN ?_ _ | refine kD ?_ | refine kA ?_ _)); exact BK395.out)) : gb395 ≠ gb400)); have n14_ := mk0 ((by rw [hg]; exact Nat.ne_of_gt (blk_lt (by (with_reducible repeat (first | refine kN ?_ _ | refine kD ?_ | refine kA ?_ _)); exact BK395.out)) : gb400 ≠ gb395)); clear HO394; clear HO399; clear BK384; clear BK385; clear BK395; clear HB; have HO394 := n0_; have HO399 := n1_; have BK384 := n2_; have BK385 := n3_; have BK395 := n4_; have HB := n5_; have BK400 := n6_; have GW400 := n7_; have GE400 := n8_; have NB384_400 := n9_; have NB400_384 := n10_; have NB385_400 := n11_; have NB400_385 := n12_; have NB395_400 := n13_; have NB400_395 := n14_; clear q_ n0_ n1_ n2_ n3_ n4_ n5_ n6_ n7_ n8_ n9_ n10_ n11_ n12_ n13_ n14_; clear hb hbox hg; have hnb56 := NB400_384.out; have hnc56 := NB384_400.out; have hnb57 := NB400_385.out; have hnc57 := NB385_400.out; have hnb58 := NB400_395.out; have hnc58 := NB395_400.out; have z59 := bc2 BK400.out; obtain ⟨Ao60, co60, eo60⟩ := Kd.R_slice HO399.out; subst eo60; have z61 := bc2 BK395.out) | (go_at_call 65; (with_reducible refine (spec_Least.calls kj24 t391 _ _ t392 _ _ l3 t401 t402 _ ?side1 ?side2 ?side3 ?side4 A41.out).mono ?_); (case side1 => refine (Kd.R_reads' (e := 70) (base := w.heap.size) (ok := fun k_ => (True ∧ some k_ ≠ (.slice Ao60 t397.length co60 : Value).ownBlock)) (n := t392.length) (c := co52) ?_).2.2; exact (by (with_reducible repeat (first | apply Kd.R_alloc | apply Kd.R_drewN | apply Kd.R_drew)); exact (Kd.R_mono (Kd.R_far (p := ⟨gb400, 1, none⟩) (Kd.R_far (p := ⟨gb400, 0, none⟩) (Kd.R_types HO394.out BK400.out (by decide)) (fun _ hk => hk.2) (.int .i64 t396)) (fun _ hk => hk.2) (.slice Ao60 t397.length co60)) (fun _ h_ => h_.1)))); (case side2 => exact (Kd.R_reads' HO394.out).2.1); (case side3 => exact Kd.C_below HR3.out (by repeat (first | (with_reducible first | exact HB.out | apply bA | apply bN | apply bD | refine bS ?_ GE384.out | refine bS ?_ GE385.out | refine bS ?_ GE395.out | refine bS ?_ GE400.out) | exact HB.out))); (case side4 => exact HC3.out); rintro e w62 ⟨rfl, hb⟩; have n0_ := mk0 (Kd.R_below (by (with_reducible repeat (first | apply Kd.R_alloc | apply Kd.R_drewN | apply Kd.R_drew)); exact (Kd.R_mono (Kd.R_far (p := ⟨gb400, 1, none⟩) (Kd.R_far (p := ⟨gb400, 0, none⟩) (Kd.R_types HO394.out BK400.out (by decide)) (fun _ hk => hk.2) (.int .i64 t396)) (fun _ hk => hk.2) (.slice Ao60 t397.length co60)) (fun _ h_ => h_.1))) hb); have n1_ := mk0 (Kd.R_below (by (with_reducible repeat (first | apply Kd.R_alloc | apply Kd.R_drewN | apply Kd.R_drew)); exact (Kd.R_mono (Kd.R_far (p := ⟨gb400, 1, none⟩) (Kd.R_far (p := ⟨gb400, 0, none⟩) (Kd.R_types HO399.out BK400.out (by decide)) (fun _ hk => hk.2) (.int .i64 t396)) (fun _ hk => hk.2) (.slice Ao60 t397.length co60)) (fun _ h_ => h_.1))) hb); have n2_ := mk0 (blk_below (g := gb384) (o := .cells #[.int .i64 a0_0, .slice A0_1 l0_1.length c0_1] 28 (0, 0)) (by (with_reducible repeat (first | refine kN ?_ _ | refine kD ?_ | refine kA ?_ _)); refine blk_far ?_ NB384_400.out _; (with_reducible repeat (first | refine kN ?_ _ | refine kD ?_ | refine kA ?_ _)); refine blk_far ?_ NB384_400.out _; (with_reducible repeat (first | refine kN ?_ _ | refine kD ?_ | refine kA ?_ _)); exact BK384.out) hb); have n3_ := mk0 (blk_below (g := gb385) (o := .cells #[.int .i64 a1_0, .slice A1_1 l1_1.length c1_1] 28 (0, 0)) (by (with_reducible repeat (first | refine kN ?_ _ | refine kD ?_ | refine kA ?_ _)); refine blk_far ?_ NB385_400.out _; (with_reducible repeat (first | refine kN ?_ _ | refine kD ?_ | refine kA ?_ _)); refine blk_far ?_ NB385_400.out _; (with_reducible repeat (first | refine kN ?_ _ | refine kD ?_ | refine kA ?_ _)); exact BK385.out) hb); have n4_ := mk0 (blk_below (g := gb395) (o := .cells #[.int .i64 t391, .slice Ao52 t392.length co52] 28 (0, 0)) (by (with_reducible repeat (first | refine kN ?_ _ | refine kD ?_ | refine kA ?_ _)); refine blk_far ?_ NB395_400.out _; (with_reducible repeat (first | refine kN ?_ _ | refine kD ?_ | refine kA ?_ _)); refine blk_far ?_ NB395_400.out _; (with_reducible repeat (first | refine kN ?_ _ | refine kD ?_ | refine kA ?_ _)); exact BK395.out) hb); have n5_ := mk0 (blk_below (g := gb400) (o := .cells #[.int .i64 t396, .slice Ao60 t397.length co60] 28 (0, 0)) (by (with_reducible repeat (first | refine kN ?_ _ | refine kD ?_ | refine kA ?_ _)); refine blk_put (cs := #[.int .i64 t396, .slice none 0 0]) ?_ 1 _ rfl; (with_reducible repeat (first | refine kN ?_ _ | refine kD ?_ | refine kA ?_ _)); refine blk_put (cs := #[.int .i64 0, .slice none 0 0]) ?_ 0 _ rfl; (with_reducible repeat (first | refine kN ?_ _ | refine kD ?_ | refine kA ?_ _)); exact BK400.out) hb); have n6_ := mk0 (below_step (by repeat (first | (with_reducible first | exact HB.out | apply bA | apply bN | apply bD | refine bS ?_ GE384.out | refine bS ?_ GE385.out | refine bS ?_ GE395.out | refine bS ?_ GE400.out) | exact HB.out)) hb); clear HO394; clear HO399; clear BK384; clear BK385; clear BK395; clear BK400; clear HB; have HO394 := n0_; have HO399 := n1_; have BK384 := n2_; have BK385 := n3_; have BK395 := n4_; have BK400 := n5_; have HB := n6_; clear n0_ n1_ n2_ n3_ n4_ n5_ n6_; (try clear hb); (try clear hb2); (try clear hk); (try clear hi); have z63 := bc2 BK395.out) | (go_at_call 66; (with_reducible refine (spec_Most.calls kj24 t391 _ _ t392 _ _ l3 t403 t404 _ ?side1 ?side2 ?side3 ?side4 A42.out).mono ?_); (case side1 => repeat (first | exact (Kd.R_reads' HO394.out).2.2 | (with_reducible refine cA ?_ _) | (with_reducible refine cN ?_ _) | (with_reducible refine cD ?_))); (case side2 => exact (Kd.R_reads' HO394.out).2.1); (case side3 => repeat (first | exact (Kd.C_below HR3.out HB.out) | (with_reducible refine cA ?_ _) | (with_reducible refine cN ?_ _) | (with_reducible refine cD ?_))); (case side4 => exact HC3.out); rintro e w64 ⟨rfl, hb⟩; have n0_ := mk0 (Kd.R_below (by (with_reducible repeat (first | apply Kd.R_alloc | apply Kd.R_drewN | apply Kd.R_drew)); exact HO394.out) hb); have n1_ := mk0 (Kd.R_below (by (with_reducible repeat (first | apply Kd.R_alloc | apply Kd.R_drewN | apply Kd.R_drew)); exact HO399.out) hb); have n2_ := mk0 (blk_below (by (with_reducible repeat (first | refine kN ?_ _ | refine kD ?_ | refine kA ?_ _)); exact BK384.out) hb); have n3_ := mk0 (blk_below (by (with_reducible repeat (first | refine kN ?_ _ | refine kD ?_ | refine kA ?_ _)); exact BK385.out) hb); have n4_ := mk0 (blk_below (by (with_reducible repeat (first | refine kN ?_ _ | refine kD ?_ | refine kA ?_ _)); exact BK395.out) hb); have n5_ := mk0 (blk_below (by (with_reducible repeat (first | refine kN ?_ _ | refine kD ?_ | refine kA ?_ _)); exact BK400.out) hb); have n6_ := mk0 (below_step (by repeat (first | (with_reducible first | exact HB.out | apply bA | apply bN | apply bD | refine bS ?_ GE384.out | refine bS ?_ GE385.out | refine bS ?_ GE395.out | refine bS ?_ GE400.out) | exact HB.out)) hb); clear HO394; clear HO399; clear BK384; clear BK385; clear BK395; clear BK400; clear HB; have HO394 := n0_; have HO399 := n1_; have BK384 := n2_; have BK385 := n3_; have BK395 := n4_; have BK400 := n5_; have HB := n6_; clear n0_ n1_ n2_ n3_ n4_ n5_ n6_; (try clear hb); (try clear hb2); (try clear hk); (try clear hi); have z65 := bc2 BK400.out) | (go_at_call 65; (with_reducible refine (spec_Least.calls kj24 t396 _ _ t397 _ _ l3 t405 t406 _ ?side1 ?side2 ?side3 ?side4 A43.out).mono ?_); (case side1 => repeat (first | exact (Kd.R_reads' HO399.out).2.2 | (with_reducible refine cA ?_ _) | (with_reducible refine cN ?_ _) | (with_reducible refine cD ?_))); (case side2 => exact (Kd.R_reads' HO399.out).2.1); (case side3 => repeat (first | exact (Kd.C_below HR3.out HB.out) | (with_reducible refine cA ?_ _) | (with_reducible refine cN ?_ _) | (with_reducible refine cD ?_))); (case side4 => exact HC3.out); rintro e w66 ⟨rfl, hb⟩; have n0_ := mk0 (Kd.R_below (by (with_reducible repeat (first | apply Kd.R_alloc | apply Kd.R_drewN | apply Kd.R_drew)); exact HO394.out) hb); have n1_ := mk0 (Kd.R_below (by (with_reducible repeat (first | apply Kd.R_alloc | apply Kd.R_drewN | apply Kd.R_drew)); exact HO399.out) hb); have n2_ := mk0 (blk_below (by (with_reducible repeat (first | refine kN ?_ _ | refine kD ?_ | refine kA ?_ _)); exact BK384.out) hb); have n3_ := mk0 (blk_below (by (with_reducible repeat (first | refine kN ?_ _ | refine kD ?_ | refine kA ?_ _)); exact BK385.out) hb); have n4_ := mk0 (blk_below (by (with_reducible repeat (first | refine kN ?_ _ | refine kD ?_ | refine kA ?_ _)); exact BK395.out) hb); have n5_ := mk0 (blk_below (by (with_reducible repeat (first | refine kN ?_ _ | refine kD ?_ | refine kA ?_ _)); exact BK400.out) hb); have n6_ := mk0 (below_step (by repeat (first | (with_reducible first | exact HB.out | apply bA | apply bN | apply bD | refine bS ?_ GE384.out | refine bS ?_ GE385.out | refine bS ?_ GE395.out | refine bS ?_ GE400.out) | exact HB.out)) hb); clear HO394; clear HO399; clear BK384; clear BK385; clear BK395; clear BK400; clear HB; have HO394 := n0_; have HO399 := n1_; have BK384 := n2_; have BK385 := n3_; have BK395 := n4_; have BK400 := n5_; have HB := n6_; clear n0_ n1_ n2_ n3_ n4_ n5_ n6_; (try clear hb); (try clear hb2); (try clear hk); (try clear hi); have z67 := bc2 BK400.out) | (go_at_call 66; (with_reducible refine (spec_Most.calls kj24 t396 _ _ t397 _ _ l3 t407 t408 _ ?side1 ?side2 ?side3 ?side4 A44.out).mono ?_); (case side1 => repeat (first | exact (Kd.R_reads' HO399.out).2.2 | (with_reducible refine cA ?_ _) | (with_reducible refine cN ?_ _) | (with_reducible refine cD ?_))); (case side2 => exact (Kd.R_reads' HO399.out).2.1); (case side3 => repeat (first | exact (Kd.C_below HR3.out HB.out) | (with_reducible refine cA ?_ _) | (with_reducible refine cN ?_ _) | (with_reducible refine cD ?_))); (case side4 => exact HC3.out); rintro e w68 ⟨rfl, hb⟩; have n0_ := mk0 (Kd.R_below (by (with_reducible repeat (first | apply Kd.R_alloc | apply Kd.R_drewN | apply Kd.R_drew)); exact HO394.out) hb); have n1_ := mk0 (Kd.R_below (by (with_reducible repeat (first | apply Kd.R_alloc | apply Kd.R_drewN | apply Kd.R_drew)); exact HO399.out) hb); have n2_ := mk0 (blk_below (by (with_reducible repeat (first | refine kN ?_ _ | refine kD ?_ | refine kA ?_ _)); exact BK384.out) hb); have n3_ := mk0 (blk_below (by (with_reducible repeat (first | refine kN ?_ _ | refine kD ?_ | refine kA ?_ _)); exact BK385.out) hb); have n4_ := mk0 (blk_below (by (with_reducible repeat (first | refine kN ?_ _ | refine kD ?_ | refine kA ?_ _)); exact BK395.out) hb); have n5_ := mk0 (blk_below (by (with_reducible repeat (first | refine kN ?_ _ | refine kD ?_ | refine kA ?_ _)); exact BK400.out) hb); have n6_ := mk0 (below_step (by repeat (first | (with_reducible first | exact HB.out | apply bA | apply bN | apply bD | refine bS ?_ GE384.out | refine bS ?_ GE385.out | refine bS ?_ GE395.out | refine bS ?_ GE400.out) | exact HB.out)) hb); clear HO394; clear HO399; clear BK384; clear BK385; clear BK395; clear BK400; clear HB; have HO394 := n0_; have HO399 := n1_; have BK384 := n2_; have BK385 := n3_; have BK395 := n4_; have BK400 := n5_; have HB := n6_; clear n0_ n1_ n2_ n3_ n4_ n5_ n6_; (try clear hb); (try clear hb2); (try clear hk); (try clear hi))); try go_wp2_with (first | (go_at_call 64; (with_reducible refine (spec_l11Rest.calls kj24 a0_0 _ _ l0_1 a2 t391 t392 _ ?side1 ?side2 A39.out).mono ?_); (case side1 => repeat (first | exact (Kd.C_below HR0_1.out HB.out) | (with_reducible refine cA ?_ _) | (with_reducible refine cN ?_ _) | (with_reducible refine cD ?_))); (case side2 => exact HC0_1.out); rintro e w47 ⟨v393, rfl, ho0, hb⟩; have q_ := qB (by repeat (first | (with_reducible first | exact HB.out | apply bA | apply bN | apply bD | refine bS ?_ GE384.out | refine bS ?_ GE385.out) | exact HB.out)) hb; have n0_ := mk0 (Kd.R_lower ho0 (below_size q_)); have n1_ := mk0 (blk_below (by (with_reducible repeat (first | refine kN ?_ _ | refine kD ?_ | refine kA ?_ _)); exact BK384.out) hb); have n2_ := mk0 (blk_below (by (with_reducible repeat (first | refine kN ?_ _ | refine kD ?_ | refine kA ?_ _)); exact BK385.out) hb); have n3_ := mk0 (below_step q_ hb); clear BK384; clear BK385; clear HB; have HO394 := n0_; have BK384 := n1_; have BK385 := n2_; have HB := n3_; clear q_ n0_ n1_ n2_ n3_; (try clear hb); (try clear hb2); (try clear hk); (try clear hi); (try clear ho0)) | ((with_reducible refine gate_dst (N := 11) rfl ?_); refine box_event ?hg (N := 11) ?hd (cs := #[.int .i64 0, .slice none 0 0]) (t := 28) ?hr ?_; (case hd => rfl); (case hg => rfl); (case hr => first | (go_simp; done) | (go_simp; rfl)); intro gb395 hg w48 hbox hb; have q_ := qB (by repeat (first | (with_reducible first | exact HB.out | apply bA | apply bN | apply bD | refine bS ?_ GE384.out | refine bS ?_ GE385.out) | exact HB.out)) hb; have n0_ := mk0 (Kd.R_below (by (with_reducible repeat (first | apply Kd.R_alloc | apply Kd.R_drewN | apply Kd.R_drew)); exact HO394.out) hb); have n1_ := mk0 (blk_below (by (with_reducible repeat (first | refine kN ?_ _ | refine kD ?_ | refine kA ?_ _)); exact BK384.out) hb); have n2_ := mk0 (blk_below (by (with_reducible repeat (first | refine kN ?_ _ | refine kD ?_ | refine kA ?_ _)); exact BK385.out) hb); have n3_ := mk0 (below_step q_ hb); have n4_ := mk0 (hbox); have n5_ := mk0 ((by rw [hg]; exact (below_size q_) : w.heap.size ≤ gb395)); have n6_ := n5_; have n7_ := mk0 ((by rw [hg]; exact Nat.ne_of_lt (blk_lt (by (with_reducible repeat (first | refine kN ?_ _ | refine kD ?_ | refine kA ?_ _)); exact BK384.out)) : gb384 ≠ gb395)); have n8_ := mk0 ((by rw [hg]; exact Nat.ne_of_gt (blk_lt (by (with_reducible repeat (first | refine kN ?_ _ | refine kD ?_ | refine kA ?_ _)); exact BK384.out)) : gb395 ≠ gb384)); have n9_ := mk0 ((by rw [hg]; exact Nat.ne_of_lt (blk_lt (by (with_reducible repeat (first | refine kN ?_ _ | refine kD ?_ | refine kA ?_ _)); exact BK385.out)) : gb385 ≠ gb395)); have n10_ := mk0 ((by rw [hg]; exact Nat.ne_of_gt (blk_lt (by (with_reducible repeat (first | refine kN ?_ _ | refine kD ?_ | refine kA ?_ _)); exact BK385.out)) : gb395 ≠ gb385)); clear HO394; clear BK384; clear BK385; clear HB; have HO394 := n0_; have BK384 := n1_; have BK385 := n2_; have HB := n3_; have BK395 := n4_; have GW395 := n5_; have GE395 := n6_; have NB384_395 := n7_; have NB395_384 := n8_; have NB385_395 := n9_; have NB395_385 := n10_; clear q_ n0_ n1_ n2_ n3_ n4_ n5_ n6_ n7_ n8_ n9_ n10_; clear hb hbox hg; have hnb49 := NB395_384.out; have hnc49 := NB384_395.out; have hnb50 := NB395_385.out; have hnc50 := NB385_395.out; have z51 := bc2 BK395.out; obtain ⟨Ao52, co52, eo52⟩ := Kd.R_slice HO394.out; subst eo52; have z53 := bc2 BK385.out) | (go_at_call 64; (with_reducible refine (spec_l11Rest.calls kj24 a1_0 _ _ l1_1 a2 t396 t397 _ ?side1 ?side2 A40.out).mono ?_); (case side1 => exact Kd.C_below HR1_1.out (by repeat (first | (with_reducible first | exact HB.out | apply bA | apply bN | apply bD | refine bS ?_ GE384.out | refine bS ?_ GE385.out | refine bS ?_ GE395.out) | exact HB.out))); (case side2 => exact HC1_1.out); rintro e w54 ⟨v398, rfl, ho0, hb⟩; have q_ := qB (by repeat (first | (with_reducible first | exact HB.out | apply bA | apply bN | apply bD | refine bS ?_ GE384.out | refine bS ?_ GE385.out | refine bS ?_ GE395.out) | exact HB.out)) hb; have n0_ := mk0 (Kd.R_elder' (by (with_reducible repeat (first | apply Kd.R_alloc | apply Kd.R_drewN | apply Kd.R_drew)); exact (Kd.R_mono (Kd.R_far (p := ⟨gb395, 1, none⟩) (Kd.R_far (p := ⟨gb395, 0, none⟩) (Kd.R_types HO394.out BK395.out (by decide)) (fun _ hk => hk.2) (.int .i64 t391)) (fun _ hk => hk.2) (.slice Ao52 t392.length co52)) (fun _ h_ => h_.1))) (Kd.R_base ho0) hb); have n1_ := mk0 (Kd.R_lower (Kd.R_new' ho0 (Kd.R_lt (by (with_reducible repeat (first | apply Kd.R_alloc | apply Kd.R_drewN | apply Kd.R_drew)); exact (Kd.R_mono (Kd.R_far (p := ⟨gb395, 1, none⟩) (Kd.R_far (p := ⟨gb395, 0, none⟩) (Kd.R_types HO394.out BK395.out (by decide)) (fun _ hk => hk.2) (.int .i64 t391)) (fun _ hk => hk.2) (.slice Ao52 t392.length co52)) (fun _ h_ => h_.1))))) (below_size q_)); have n2_ := mk0 (blk_below (g := gb384) (o := .cells #[.int .i64 a0_0, .slice A0_1 l0_1.length c0_1] 28 (0, 0)) (by (with_reducible repeat (first | refine kN ?_ _ | refine kD ?_ | refine kA ?_ _)); refine blk_far ?_ NB384_395.out _; (with_reducible repeat (first | refine kN ?_ _ | refine kD ?_ | refine kA ?_ _)); refine blk_far ?_ NB384_395.out _; (with_reducible repeat (first | refine kN ?_ _ | refine kD ?_ | refine kA ?_ _)); exact BK384.out) hb); have n3_ := mk0 (blk_below (g := gb385) (o := .cells #[.int .i64 a1_0, .slice A1_1 l1_1.length c1_1] 28 (0, 0)) (by (with_reducible repeat (first | refine kN ?_ _ | refine kD ?_ | refine kA ?_ _)); refine blk_far ?_ NB385_395.out _; (with_reducible repeat (first | refine kN ?_ _ | refine kD ?_ | refine kA ?_ _)); refine blk_far ?_ NB385_395.out _; (with_reducible repeat (first | refine kN ?_ _ | refine kD ?_ | refine kA ?_ _)); exact BK385.out) hb); have n4_ := mk0 (blk_below (g := gb395) (o := .cells #[.int .i64 t391, .slice Ao52 t392.length co52] 28 (0, 0)) (by (with_reducible repeat (first | refine kN ?_ _ | refine kD ?_ | refine kA ?_ _)); refine blk_put (cs := #[.int .i64 t391, .slice none 0 0]) ?_ 1 _ rfl; (with_reducible repeat (first | refine kN ?_ _ | refine kD ?_ | refine kA ?_ _)); refine blk_put (cs := #[.int .i64 0, .slice none 0 0]) ?_ 0 _ rfl; (with_reducible repeat (first | refine kN ?_ _ | refine kD ?_ | refine kA ?_ _)); exact BK395.out) hb); have n5_ := mk0 (below_step q_ hb); clear HO394; clear BK384; clear BK385; clear BK395; clear HB; have HO394 := n0_; have HO399 := n1_; have BK384 := n2_; have BK385 := n3_; have BK395 := n4_; have HB := n5_; clear q_ n0_ n1_ n2_ n3_ n4_ n5_; (try clear hb); (try clear hb2); (try clear hk); (try clear hi); (try clear ho0)) | ((with_reducible refine gate_dst (N := 12) rfl ?_); refine box_event ?hg (N := 12) ?hd (cs := #[.int .i64 0, .slice none 0 0]) (t := 28) ?hr ?_; (case hd => rfl); (case hg => rfl); (case hr => first | (go_simp; done) | (go_simp; rfl)); intro gb400 hg w55 hbox hb; have q_ := qB (by repeat (first | (with_reducible first | exact HB.out | apply bA | apply bN | apply bD | refine bS ?_ GE384.out | refine bS ?_ GE385.out | refine bS ?_ GE395.out) | exact HB.out)) hb; have n0_ := mk0 (Kd.R_below (by (with_reducible repeat (first | apply Kd.R_alloc | apply Kd.R_drewN | apply Kd.R_drew)); exact HO394.out) hb); have n1_ := mk0 (Kd.R_below (by (with_reducible repeat (first | apply Kd.R_alloc | apply Kd.R_drewN | apply Kd.R_drew)); exact HO399.out) hb); have n2_ := mk0 (blk_below (by (with_reducible repeat (first | refine kN ?_ _ | refine kD ?_ | refine kA ?_ _)); exact BK384.out) hb); have n3_ := mk0 (blk_below (by (with_reducible repeat (first | refine kN ?_ _ | refine kD ?_ | refine kA ?_ _)); exact BK385.out) hb); have n4_ := mk0 (blk_below (by (with_reducible repeat (first | refine kN ?_ _ | refine kD ?_ | refine kA ?_ _)); exact BK395.out) hb); have n5_ := mk0 (below_step q_ hb); have n6_ := mk0 (hbox); have n7_ := mk0 ((by rw [hg]; exact (below_size q_) : w.heap.size ≤ gb400)); have n8_ := n7_; have n9_ := mk0 ((by rw [hg]; exact Nat.ne_of_lt (blk_lt (by (with_reducible repeat (first | refine kN ?_ _ | refine kD ?_ | refine kA ?_ _)); exact BK384.out)) : gb384 ≠ gb400)); have n10_ := mk0 ((by rw [hg]; exact Nat.ne_of_gt (blk_lt (by (with_reducible repeat (first | refine kN ?_ _ | refine kD ?_ | refine kA ?_ _)); exact BK384.out)) : gb400 ≠ gb384)); have n11_ := mk0 ((by rw [hg]; exact Nat.ne_of_lt (blk_lt (by (with_reducible repeat (first | refine kN ?_ _ | refine kD ?_ | refine kA ?_ _)); exact BK385.out)) : gb385 ≠ gb400)); have n12_ := mk0 ((by rw [hg]; exact Nat.ne_of_gt (blk_lt (by (with_reducible repeat (first | refine kN ?_ _ | refine kD ?_ | refine kA ?_ _)); exact BK385.out)) : gb400 ≠ gb385)); have n13_ := mk0 ((by rw [hg]; exact Nat.ne_of_lt (blk_lt (by (with_reducible repeat (first | refine kN ?_ _ | refine kD ?_ | refine kA ?_ _)); exact BK395.out)) : gb395 ≠ gb400)); have n14_ := mk0 ((by rw [hg]; exact Nat.ne_of_gt (blk_lt (by (with_reducible repeat (first | refine kN ?_ _ | refine kD ?_ | refine kA ?_ _)); exact BK395.out)) : gb400 ≠ gb395)); clear HO394; clear HO399; clear BK384; clear BK385; clear BK395; clear HB; have HO394 := n0_; have HO399 := n1_; have BK384 := n2_; have BK385 := n3_; have BK395 := n4_; have HB := n5_; have BK400 := n6_; have GW400 := n7_; have GE400 := n8_; have NB384_400 := n9_; have NB400_384 := n10_; have NB385_400 := n11_; have NB400_385 := n12_; have NB395_400 := n13_; have NB400_395 := n14_; clear q_ n0_ n1_ n2_ n3_ n4_ n5_ n6_ n7_ n8_ n9_ n10_ n11_ n12_ n13_ n14_; clear hb hbox hg; have hnb56 := NB400_384.out; have hnc56 := NB384_400.out; have hnb57 := NB400_385.out; have hnc57 := NB385_400.out; have hnb58 := NB400_395.out; have hnc58 := NB395_400.out; have z59 := bc2 BK400.out; obtain ⟨Ao60, co60, eo60⟩ := Kd.R_slice HO399.out; subst eo60; have z61 := bc2 BK395.out) | (go_at_call 65; (with_reducible refine (spec_Least.calls kj24 t391 _ _ t392 _ _ l3 t401 t402 _ ?side1 ?side2 ?side3 ?side4 A41.out).mono ?_); (case side1 => refine (Kd.R_reads' (e := 70) (base := w.heap.size) (ok := fun k_ => (True ∧ some k_ ≠ (.slice Ao60 t397.length co60 : Value).ownBlock)) (n := t392.length) (c := co52) ?_).2.2; exact (by (with_reducible repeat (first | apply Kd.R_alloc | apply Kd.R_drewN | apply Kd.R_drew)); exact (Kd.R_mono (Kd.R_far (p := ⟨gb400, 1, none⟩) (Kd.R_far (p := ⟨gb400, 0, none⟩) (Kd.R_types HO394.out BK400.out (by decide)) (fun _ hk => hk.2) (.int .i64 t396)) (fun _ hk => hk.2) (.slice Ao60 t397.length co60)) (fun _ h_ => h_.1)))); (case side2 => exact (Kd.R_reads' HO394.out).2.1); (case side3 => exact Kd.C_below HR3.out (by repeat (first | (with_reducible first | exact HB.out | apply bA | apply bN | apply bD | refine bS ?_ GE384.out | refine bS ?_ GE385.out | refine bS ?_ GE395.out | refine bS ?_ GE400.out) | exact HB.out))); (case side4 => exact HC3.out); rintro e w62 ⟨rfl, hb⟩; have n0_ := mk0 (Kd.R_below (by (with_reducible repeat (first | apply Kd.R_alloc | apply Kd.R_drewN | apply Kd.R_drew)); exact (Kd.R_mono (Kd.R_far (p := ⟨gb400, 1, none⟩) (Kd.R_far (p := ⟨gb400, 0, none⟩) (Kd.R_types HO394.out BK400.out (by decide)) (fun _ hk => hk.2) (.int .i64 t396)) (fun _ hk => hk.2) (.slice Ao60 t397.length co60)) (fun _ h_ => h_.1))) hb); have n1_ := mk0 (Kd.R_below (by (with_reducible repeat (first | apply Kd.R_alloc | apply Kd.R_drewN | apply Kd.R_drew)); exact (Kd.R_mono (Kd.R_far (p := ⟨gb400, 1, none⟩) (Kd.R_far (p := ⟨gb400, 0, none⟩) (Kd.R_types HO399.out BK400.out (by decide)) (fun _ hk => hk.2) (.int .i64 t396)) (fun _ hk => hk.2) (.slice Ao60 t397.length co60)) (fun _ h_ => h_.1))) hb); have n2_ := mk0 (blk_below (g := gb384) (o := .cells #[.int .i64 a0_0, .slice A0_1 l0_1.length c0_1] 28 (0, 0)) (by (with_reducible repeat (first | refine kN ?_ _ | refine kD ?_ | refine kA ?_ _)); refine blk_far ?_ NB384_400.out _; (with_reducible repeat (first | refine kN ?_ _ | refine kD ?_ | refine kA ?_ _)); refine blk_far ?_ NB384_400.out _; (with_reducible repeat (first | refine kN ?_ _ | refine kD ?_ | refine kA ?_ _)); exact BK384.out) hb); have n3_ := mk0 (blk_below (g := gb385) (o := .cells #[.int .i64 a1_0, .slice A1_1 l1_1.length c1_1] 28 (0, 0)) (by (with_reducible repeat (first | refine kN ?_ _ | refine kD ?_ | refine kA ?_ _)); refine blk_far ?_ NB385_400.out _; (with_reducible repeat (first | refine kN ?_ _ | refine kD ?_ | refine kA ?_ _)); refine blk_far ?_ NB385_400.out _; (with_reducible repeat (first | refine kN ?_ _ | refine kD ?_ | refine kA ?_ _)); exact BK385.out) hb); have n4_ := mk0 (blk_below (g := gb395) (o := .cells #[.int .i64 t391, .slice Ao52 t392.length co52] 28 (0, 0)) (by (with_reducible repeat (first | refine kN ?_ _ | refine kD ?_ | refine kA ?_ _)); refine blk_far ?_ NB395_400.out _; (with_reducible repeat (first | refine kN ?_ _ | refine kD ?_ | refine kA ?_ _)); refine blk_far ?_ NB395_400.out _; (with_reducible repeat (first | refine kN ?_ _ | refine kD ?_ | refine kA ?_ _)); exact BK395.out) hb); have n5_ := mk0 (blk_below (g := gb400) (o := .cells #[.int .i64 t396, .slice Ao60 t397.length co60] 28 (0, 0)) (by (with_reducible repeat (first | refine kN ?_ _ | refine kD ?_ | refine kA ?_ _)); refine blk_put (cs := #[.int .i64 t396, .slice none 0 0]) ?_ 1 _ rfl; (with_reducible repeat (first | refine kN ?_ _ | refine kD ?_ | refine kA ?_ _)); refine blk_put (cs := #[.int .i64 0, .slice none 0 0]) ?_ 0 _ rfl; (with_reducible repeat (first | refine kN ?_ _ | refine kD ?_ | refine kA ?_ _)); exact BK400.out) hb); have n6_ := mk0 (below_step (by repeat (first | (with_reducible first | exact HB.out | apply bA | apply bN | apply bD | refine bS ?_ GE384.out | refine bS ?_ GE385.out | refine bS ?_ GE395.out | refine bS ?_ GE400.out) | exact HB.out)) hb); clear HO394; clear HO399; clear BK384; clear BK385; clear BK395; clear BK400; clear HB; have HO394 := n0_; have HO399 := n1_; have BK384 := n2_; have BK385 := n3_; have BK395 := n4_; have BK400 := n5_; have HB := n6_; clear n0_ n1_ n2_ n3_ n4_ n5_ n6_; (try clear hb); (try clear hb2); (try clear hk); (try clear hi); have z63 := bc2 BK395.out) | (go_at_call 66; (with_reducible refine (spec_Most.calls kj24 t391 _ _ t392 _ _ l3 t403 t404 _ ?side1 ?side2 ?side3 ?side4 A42.out).mono ?_); (case side1 => repeat (first | exact (Kd.R_reads' HO394.out).2.2 | (with_reducible refine cA ?_ _) | (with_reducible refine cN ?_ _) | (with_reducible refine cD ?_))); (case side2 => exact (Kd.R_reads' HO394.out).2.1); (case side3 => repeat (first | exact (Kd.C_below HR3.out HB.out) | (with_reducible refine cA ?_ _) | (with_reducible refine cN ?_ _) | (with_reducible refine cD ?_))); (case side4 => exact HC3.out); rintro e w64 ⟨rfl, hb⟩; have n0_ := mk0 (Kd.R_below (by (with_reducible repeat (first | apply Kd.R_alloc | apply Kd.R_drewN | apply Kd.R_drew)); exact HO394.out) hb); have n1_ := mk0 (Kd.R_below (by (with_reducible repeat (first | apply Kd.R_alloc | apply Kd.R_drewN | apply Kd.R_drew)); exact HO399.out) hb); have n2_ := mk0 (blk_below (by (with_reducible repeat (first | refine kN ?_ _ | refine kD ?_ | refine kA ?_ _)); exact BK384.out) hb); have n3_ := mk0 (blk_below (by (with_reducible repeat (first | refine kN ?_ _ | refine kD ?_ | refine kA ?_ _)); exact BK385.out) hb); have n4_ := mk0 (blk_below (by (with_reducible repeat (first | refine kN ?_ _ | refine kD ?_ | refine kA ?_ _)); exact BK395.out) hb); have n5_ := mk0 (blk_below (by (with_reducible repeat (first | refine kN ?_ _ | refine kD ?_ | refine kA ?_ _)); exact BK400.out) hb); have n6_ := mk0 (below_step (by repeat (first | (with_reducible first | exact HB.out | apply bA | apply bN | apply bD | refine bS ?_ GE384.out | refine bS ?_ GE385.out | refine bS ?_ GE395.out | refine bS ?_ GE400.out) | exact HB.out)) hb); clear HO394; clear HO399; clear BK384; clear BK385; clear BK395; clear BK400; clear HB; have HO394 := n0_; have HO399 := n1_; have BK384 := n2_; have BK385 := n3_; have BK395 := n4_; have BK400 := n5_; have HB := n6_; clear n0_ n1_ n2_ n3_ n4_ n5_ n6_; (try clear hb); (try clear hb2); (try clear hk); (try clear hi); have z65 := bc2 BK400.out) | (go_at_call 65; (with_reducible refine (spec_Least.calls kj24 t396 _ _ t397 _ _ l3 t405 t406 _ ?side1 ?side2 ?side3 ?side4 A43.out).mono ?_); (case side1 => repeat (first | exact (Kd.R_reads' HO399.out).2.2 | (with_reducible refine cA ?_ _) | (with_reducible refine cN ?_ _) | (with_reducible refine cD ?_))); (case side2 => exact (Kd.R_reads' HO399.out).2.1); (case side3 => repeat (first | exact (Kd.C_below HR3.out HB.out) | (with_reducible refine cA ?_ _) | (with_reducible refine cN ?_ _) | (with_reducible refine cD ?_))); (case side4 => exact HC3.out); rintro e w66 ⟨rfl, hb⟩; have n0_ := mk0 (Kd.R_below (by (with_reducible repeat (first | apply Kd.R_alloc | apply Kd.R_drewN | apply Kd.R_drew)); exact HO394.out) hb); have n1_ := mk0 (Kd.R_below (by (with_reducible repeat (first | apply Kd.R_alloc | apply Kd.R_drewN | apply Kd.R_drew)); exact HO399.out) hb); have n2_ := mk0 (blk_below (by (with_reducible repeat (first | refine kN ?_ _ | refine kD ?_ | refine kA ?_ _)); exact BK384.out) hb); have n3_ := mk0 (blk_below (by (with_reducible repeat (first | refine kN ?_ _ | refine kD ?_ | refine kA ?_ _)); exact BK385.out) hb); have n4_ := mk0 (blk_below (by (with_reducible repeat (first | refine kN ?_ _ | refine kD ?_ | refine kA ?_ _)); exact BK395.out) hb); have n5_ := mk0 (blk_below (by (with_reducible repeat (first | refine kN ?_ _ | refine kD ?_ | refine kA ?_ _)); exact BK400.out) hb); have n6_ := mk0 (below_step (by repeat (first | (with_reducible first | exact HB.out | apply bA | apply bN | apply bD | refine bS ?_ GE384.out | refine bS ?_ GE385.out | refine bS ?_ GE395.out | refine bS ?_ GE400.out) | exact HB.out)) hb); clear HO394; clear HO399; clear BK384; clear BK385; clear BK395; clear BK400; clear HB; have HO394 := n0_; have HO399 := n1_; have BK384 := n2_; have BK385 := n3_; have BK395 := n4_; have BK400 := n5_; have HB := n6_; clear n0_ n1_ n2_ n3_ n4_ n5_ n6_; (try clear hb); (try clear hb2); (try clear hk); (try clear hi); have z67 := bc2 BK400.out) | (go_at_call 66; (with_reducible refine (spec_Most.calls kj24 t396 _ _ t397 _ _ l3 t407 t408 _ ?side1 ?side2 ?side3 ?side4 A44.out).mono ?_); (case side1 => repeat (first | exact (Kd.R_reads' HO399.out).2.2 | (with_reducible refine cA ?_ _) | (with_reducible refine cN ?_ _) | (with_reducible refine cD ?_))); (case side2 => exact (Kd.R_reads' HO399.out).2.1); (case side3 => repeat (first | exact (Kd.C_below HR3.out HB.out) | (with_reducible refine cA ?_ _) | (with_reducible refine cN ?_ _) | (with_reducible refine cD ?_))); (case side4 => exact HC3.out); rintro e w68 ⟨rfl, hb⟩; have n0_ := mk0 (Kd.R_below (by (with_reducible repeat (first | apply Kd.R_alloc | apply Kd.R_drewN | apply Kd.R_drew)); exact HO394.out) hb); have n1_ := mk0 (Kd.R_below (by (with_reducible repeat (first | apply Kd.R_alloc | apply Kd.R_drewN | apply Kd.R_drew)); exact HO399.out) hb); have n2_ := mk0 (blk_below (by (with_reducible repeat (first | refine kN ?_ _ | refine kD ?_ | refine kA ?_ _)); exact BK384.out) hb); have n3_ := mk0 (blk_below (by (with_reducible repeat (first | refine kN ?_ _ | refine kD ?_ | refine kA ?_ _)); exact BK385.out) hb); have n4_ := mk0 (blk_below (by (with_reducible repeat (first | refine kN ?_ _ | refine kD ?_ | refine kA ?_ _)); exact BK395.out) hb); have n5_ := mk0 (blk_below (by (with_reducible repeat (first | refine kN ?_ _ | refine kD ?_ | refine kA ?_ _)); exact BK400.out) hb); have n6_ := mk0 (below_step (by repeat (first | (with_reducible first | exact HB.out | apply bA | apply bN | apply bD | refine bS ?_ GE384.out | refine bS ?_ GE385.out | refine bS ?_ GE395.out | refine bS ?_ GE400.out) | exact HB.out)) hb); clear HO394; clear HO399; clear BK384; clear BK385; clear BK395; clear BK400; clear HB; have HO394 := n0_; have HO399 := n1_; have BK384 := n2_; have BK385 := n3_; have BK395 := n4_; have BK400 := n5_; have HB := n6_; clear n0_ n1_ n2_ n3_ n4_ n5_ n6_; (try clear hb); (try clear hb2); (try clear hk); (try clear hi))))
              go_loopg [21] kj24 (fun kq v21 w' => ∃ (x21_3 : Int), v21 = .int .i64 x21_3 ∧ Aside0 (spec_MayMeet.l0 kq l3 t388 t389 t401 t403 t405 t407 x21_3 = some r) ∧ Aside0 (kq ≤ kj24) ∧ Aside0 (Kd.R k70 70 w' w.heap.size (fun k_ => some k_ ≠ ((.slice Ao60 t397.length co60) : Value).ownBlock) (.slice Ao52 t392.length co52) t392) ∧ Aside0 (Kd.R k70 70 w' w.heap.size (fun k_ => some k_ ≠ ((.slice Ao52 t392.length co52) : Value).ownBlock) (.slice Ao60 t397.length co60) t397) ∧ Aside0 (w'.heap[gb384]? = some (.cells #[.int .i64 a0_0, (.slice A0_1 l0_1.length c0_1)] 28 (0, 0))) ∧ Aside0 (w'.heap[gb385]? = some (.cells #[.int .i64 a1_0, (.slice A1_1 l1_1.length c1_1)] 28 (0, 0))) ∧ Aside0 (w'.heap[gb395]? = some (.cells #[.int .i64 t391, (.slice Ao52 t392.length co52)] 28 (0, 0))) ∧ Aside0 (w'.heap[gb400]? = some (.cells #[.int .i64 t396, (.slice Ao60 t397.length co60)] 28 (0, 0))) ∧ Aside0 (Below w.heap.size w w'))
              case atStart => exact ⟨(1), (by first | rfl | (simp; done) | (simp [*]; done)), H', ⟨Nat.le_refl _⟩, ⟨by (with_reducible repeat (first | apply Kd.R_alloc | apply Kd.R_drewN | apply Kd.R_drew)); exact Kd.R_mono HO394.out (fun _ hk => hk.2)⟩, ⟨by (with_reducible repeat (first | apply Kd.R_alloc | apply Kd.R_drewN | apply Kd.R_drew)); exact Kd.R_mono HO399.out (fun _ hk => hk.2)⟩, ⟨by (with_reducible repeat (first | refine kN ?_ _ | refine kD ?_ | refine kA ?_ _)); exact BK384.out⟩, ⟨by (with_reducible repeat (first | refine kN ?_ _ | refine kD ?_ | refine kA ?_ _)); exact BK385.out⟩, ⟨by (with_reducible repeat (first | refine kN ?_ _ | refine kD ?_ | refine kA ?_ _)); exact BK395.out⟩, ⟨by (with_reducible repeat (first | refine kN ?_ _ | refine kD ?_ | refine kA ?_ _)); exact BK400.out⟩, ⟨by repeat (first | (with_reducible first | exact HB.out | apply bA | apply bN | apply bD | refine bS ?_ GE384.out | refine bS ?_ GE385.out | refine bS ?_ GE395.out | refine bS ?_ GE400.out) | exact HB.out)⟩⟩
              case round =>
                clear H'
                try clear c1
                try clear c2
                try clear p2
                try clear c3
                try clear c4
                try clear c5
                try clear c9
                try clear c11
                try clear c18
                try clear c22
                try clear c26
                try clear c29
                try clear c29b0
                try clear c29b1
                try clear c31
                try clear c31b0
                try clear c31b1
                try clear c32
                try clear c35
                try clear c38
                try clear c45
                try clear c49
                try clear c50
                try clear c56
                try clear c57
                try clear c58
                try clear z12
                try clear z13
                try clear z15
                try clear z16
                try clear z19
                try clear z20
                try clear z27
                try clear z33
                try clear z36
                try clear z46
                try clear z51
                try clear z53
                try clear z59
                try clear z61
                try clear z63
                try clear z65
                try clear z67
                try clear z12
                try clear z13
                try clear z15
                try clear z16
                try clear z19
                try clear z20
                try clear z27
                try clear z33
                try clear z36
                try clear z46
                try clear z51
                try clear z53
                try clear z59
                try clear z61
                try clear z63
                try clear z65
                try clear z67
                try clear p2
                obtain ⟨x21_3, rfl, HA, HK3, HO_396001, HO_401001, BK384, BK385, BK395, BK400, HB⟩ := hrel
                cases gk with
                | zero => exact absurd HA.out (by simp [spec_MayMeet.l0])
                | succ k3 =>
                  have H := HA.out
                  clear HA
                  simp only [spec_MayMeet.l0] at H
                  by_cases c69 : 0 ≤ t389
                  · rw [if_pos c69] at H
                    have c69b0 : decide (0 ≤ t389) = true := decide_eq_true c69
                    clear c69
                    by_cases c70 : t389 < (l3.length : Int)
                    · rw [if_pos c70] at H
                      have c70b0 : decide (t389 < (l3.length : Int)) = true := decide_eq_true c70
                      clear c70
                      by_cases c71 : x21_3 ≤ (wrap64 (((rd_T56 l3 t389).f2) - ((rd_T56 l3 t389).f1)))
                      · rw [if_pos c71] at H
                        have c71b0 : decide (x21_3 ≤ (wrap64 (((rd_T56 l3 t389).f2) - ((rd_T56 l3 t389).f1)))) = true := decide_eq_true c71
                        clear c71
                        obtain ⟨t411, A72, H⟩ := bindA H
                        by_cases c73 : t411 = true
                        · subst c73
                          rw [if_pos rfl] at H
                          obtain rfl := Option.some.inj H
                          have p409 : 0 ≤ (t389 : Int) := of_decide_eq_true (by first | (with_reducible assumption) | assumption)
                          have q409 : t389 < (l3.length : Int) := of_decide_eq_true (by first | (with_reducible assumption) | assumption)
                          obtain ⟨ad409, e409, hx409_0, hx409_1, hx409_2⟩ := at_T56 HR3.out t389 p409 q409
                          cases e409
                          replace hx409_0 := hbc HB.out hx409_0
                          replace hx409_1 := hbc HB.out hx409_1
                          replace hx409_2 := hbc HB.out hx409_2
                          replace p409 := eq_true p409
                          replace q409 := eq_true q409
                          have p410 : 0 ≤ (t389 : Int) := of_decide_eq_true (by first | (with_reducible assumption) | assumption)
                          have q410 : t389 < (l3.length : Int) := of_decide_eq_true (by first | (with_reducible assumption) | assumption)
                          obtain ⟨ad410, e410, hx410_0, hx410_1, hx410_2⟩ := at_T56 HR3.out t389 p410 q410
                          obtain rfl : ad409 = ad410 := (by injection e410)
                          replace hx410_0 := hbc HB.out hx410_0
                          replace hx410_1 := hbc HB.out hx410_1
                          replace hx410_2 := hbc HB.out hx410_2
                          replace p410 := eq_true p410
                          replace q410 := eq_true q410
                          go_wp2_with (first | (go_at_call 67; (with_reducible refine (spec_l1In.calls (wrap64 (t388 * x21_3)) (wrap64 (t405 - t403)) (wrap64 (t407 - t401)) true _ A72.out).mono ?_); rintro e w' ⟨rfl, ⟨nd, rfl⟩⟩; (try first | exact ⟨rfl, _, World.drewN_drewN _ _ _⟩ | exact ⟨rfl, _, Eq.trans (World.drewN_drewN _ _ _) (congrArg (World.drewN _) (Nat.add_assoc _ _ _))⟩)))
                          repeat (go_quiet (first | (go_at_call 67; (with_reducible refine (spec_l1In.calls (wrap64 (t388 * x21_3)) (wrap64 (t405 - t403)) (wrap64 (t407 - t401)) true _ A72.out).mono ?_); rintro e w' ⟨rfl, ⟨nd, rfl⟩⟩; (try first | exact ⟨rfl, _, World.drewN_drewN _ _ _⟩ | exact ⟨rfl, _, Eq.trans (World.drewN_drewN _ _ _) (congrArg (World.drewN _) (Nat.add_assoc _ _ _))⟩))); try go_wp2_with (first | (go_at_call 67; (with_reducible refine (spec_l1In.calls (wrap64 (t388 * x21_3)) (wrap64 (t405 - t403)) (wrap64 (t407 - t401)) true _ A72.out).mono ?_); rintro e w' ⟨rfl, ⟨nd, rfl⟩⟩; (try first | exact ⟨rfl, _, World.drewN_drewN _ _ _⟩ | exact ⟨rfl, _, Eq.trans (World.drewN_drewN _ _ _) (congrArg (World.drewN _) (Nat.add_assoc _ _ _))⟩))))
                          go_ret
                          exact ⟨by first | rfl | (simp [errW_none, errW_some] <;> rfl) | (simp [*, errW_none, errW_some] <;> rfl), by repeat (first | (with_reducible first | exact HB.out | apply bA | apply bN | apply bD | refine bS ?_ GE384.out | refine bS ?_ GE385.out | refine bS ?_ GE395.out | refine bS ?_ GE400.out) | exact HB.out)⟩
                        · replace c73 := Bool.eq_false_iff.mpr c73
                          subst c73
                          rw [if_neg (show ¬ (false = true) by decide)] at H
                          obtain ⟨t412, A74, H⟩ := bindA H
                          by_cases c75 : t412 = true
                          · subst c75
                            rw [if_pos rfl] at H
                            obtain rfl := Option.some.inj H
                            have p409 : 0 ≤ (t389 : Int) := of_decide_eq_true (by first | (with_reducible assumption) | assumption)
                            have q409 : t389 < (l3.length : Int) := of_decide_eq_true (by first | (with_reducible assumption) | assumption)
                            obtain ⟨ad409, e409, hx409_0, hx409_1, hx409_2⟩ := at_T56 HR3.out t389 p409 q409
                            cases e409
                            replace hx409_0 := hbc HB.out hx409_0
                            replace hx409_1 := hbc HB.out hx409_1
                            replace hx409_2 := hbc HB.out hx409_2
                            replace p409 := eq_true p409
                            replace q409 := eq_true q409
                            have p410 : 0 ≤ (t389 : Int) := of_decide_eq_true (by first | (with_reducible assumption) | assumption)
                            have q410 : t389 < (l3.length : Int) := of_decide_eq_true (by first | (with_reducible assumption) | assumption)
                            obtain ⟨ad410, e410, hx410_0, hx410_1, hx410_2⟩ := at_T56 HR3.out t389 p410 q410
                            obtain rfl : ad409 = ad410 := (by injection e410)
                            replace hx410_0 := hbc HB.out hx410_0
                            replace hx410_1 := hbc HB.out hx410_1
                            replace hx410_2 := hbc HB.out hx410_2
                            replace p410 := eq_true p410
                            replace q410 := eq_true q410
                            go_wp2_with (first | (go_at_call 67; (with_reducible refine (spec_l1In.calls (wrap64 (t388 * x21_3)) (wrap64 (t405 - t403)) (wrap64 (t407 - t401)) false _ A72.out).mono ?_); rintro e w' ⟨rfl, ⟨nd, rfl⟩⟩; (try first | exact ⟨rfl, _, World.drewN_drewN _ _ _⟩ | exact ⟨rfl, _, Eq.trans (World.drewN_drewN _ _ _) (congrArg (World.drewN _) (Nat.add_assoc _ _ _))⟩)) | (go_at_call 67; (with_reducible refine (spec_l1In.calls (wrap64 ((wrap64 (-t388)) * x21_3)) (wrap64 (t405 - t403)) (wrap64 (t407 - t401)) true _ A74.out).mono ?_); rintro e w' ⟨rfl, ⟨nd, rfl⟩⟩; (try first | exact ⟨rfl, _, World.drewN_drewN _ _ _⟩ | exact ⟨rfl, _, Eq.trans (World.drewN_drewN _ _ _) (congrArg (World.drewN _) (Nat.add_assoc _ _ _))⟩)))
                            repeat (go_quiet (first | (go_at_call 67; (with_reducible refine (spec_l1In.calls (wrap64 (t388 * x21_3)) (wrap64 (t405 - t403)) (wrap64 (t407 - t401)) false _ A72.out).mono ?_); rintro e w' ⟨rfl, ⟨nd, rfl⟩⟩; (try first | exact ⟨rfl, _, World.drewN_drewN _ _ _⟩ | exact ⟨rfl, _, Eq.trans (World.drewN_drewN _ _ _) (congrArg (World.drewN _) (Nat.add_assoc _ _ _))⟩)) | (go_at_call 67; (with_reducible refine (spec_l1In.calls (wrap64 ((wrap64 (-t388)) * x21_3)) (wrap64 (t405 - t403)) (wrap64 (t407 - t401)) true _ A74.out).mono ?_); rintro e w' ⟨rfl, ⟨nd, rfl⟩⟩; (try first | exact ⟨rfl, _, World.drewN_drewN _ _ _⟩ | exact ⟨rfl, _, Eq.trans (World.drewN_drewN _ _ _) (congrArg (World.drewN _) (Nat.add_assoc _ _ _))⟩))); try go_wp2_with (first | (go_at_call 67; (with_reducible refine (spec_l1In.calls (wrap64 (t388 * x21_3)) (wrap64 (t405 - t403)) (wrap64 (t407 - t401)) false _ A72.out).mono ?_); rintro e w' ⟨rfl, ⟨nd, rfl⟩⟩; (try first | exact ⟨rfl, _, World.drewN_drewN _ _ _⟩ | exact ⟨rfl, _, Eq.trans (World.drewN_drewN _ _ _) (congrArg (World.drewN _) (Nat.add_assoc _ _ _))⟩)) | (go_at_call 67; (with_reducible refine (spec_l1In.calls (wrap64 ((wrap64 (-t388)) * x21_3)) (wrap64 (t405 - t403)) (wrap64 (t407 - t401)) true _ A74.out).mono ?_); rintro e w' ⟨rfl, ⟨nd, rfl⟩⟩; (try first | exact ⟨rfl, _, World.drewN_drewN _ _ _⟩ | exact ⟨rfl, _, Eq.trans (World.drewN_drewN _ _ _) (congrArg (World.drewN _) (Nat.add_assoc _ _ _))⟩))))
                            go_ret
                            exact ⟨by first | rfl | (simp [errW_none, errW_some] <;> rfl) | (simp [*, errW_none, errW_some] <;> rfl), by repeat (first | (with_reducible first | exact HB.out | apply bA | apply bN | apply bD | refine bS ?_ GE384.out | refine bS ?_ GE385.out | refine bS ?_ GE395.out | refine bS ?_ GE400.out) | exact HB.out)⟩
                          · replace c75 := Bool.eq_false_iff.mpr c75
                            subst c75
                            rw [if_neg (show ¬ (false = true) by decide)] at H
                            have H' := mk0 H
                            clear H
                            have p409 : 0 ≤ (t389 : Int) := of_decide_eq_true (by first | (with_reducible assumption) | assumption)
                            have q409 : t389 < (l3.length : Int) := of_decide_eq_true (by first | (with_reducible assumption) | assumption)
                            obtain ⟨ad409, e409, hx409_0, hx409_1, hx409_2⟩ := at_T56 HR3.out t389 p409 q409
                            cases e409
                            replace hx409_0 := hbc HB.out hx409_0
                            replace hx409_1 := hbc HB.out hx409_1
                            replace hx409_2 := hbc HB.out hx409_2
                            replace p409 := eq_true p409
                            replace q409 := eq_true q409
                            have p410 : 0 ≤ (t389 : Int) := of_decide_eq_true (by first | (with_reducible assumption) | assumption)
                            have q410 : t389 < (l3.length : Int) := of_decide_eq_true (by first | (with_reducible assumption) | assumption)
                            obtain ⟨ad410, e410, hx410_0, hx410_1, hx410_2⟩ := at_T56 HR3.out t389 p410 q410
                            obtain rfl : ad409 = ad410 := (by injection e410)
                            replace hx410_0 := hbc HB.out hx410_0
                            replace hx410_1 := hbc HB.out hx410_1
                            replace hx410_2 := hbc HB.out hx410_2
                            replace p410 := eq_true p410
                            replace q410 := eq_true q410
                            go_wp2_with (first | (go_at_call 67; (with_reducible refine (spec_l1In.calls (wrap64 (t388 * x21_3)) (wrap64 (t405 - t403)) (wrap64 (t407 - t401)) false _ A72.out).mono ?_); rintro e w' ⟨rfl, ⟨nd, rfl⟩⟩; (try first | exact ⟨rfl, _, World.drewN_drewN _ _ _⟩ | exact ⟨rfl, _, Eq.trans (World.drewN_drewN _ _ _) (congrArg (World.drewN _) (Nat.add_assoc _ _ _))⟩)) | (go_at_call 67; (with_reducible refine (spec_l1In.calls (wrap64 ((wrap64 (-t388)) * x21_3)) (wrap64 (t405 - t403)) (wrap64 (t407 - t401)) false _ A74.out).mono ?_); rintro e w' ⟨rfl, ⟨nd, rfl⟩⟩; (try first | exact ⟨rfl, _, World.drewN_drewN _ _ _⟩ | exact ⟨rfl, _, Eq.trans (World.drewN_drewN _ _ _) (congrArg (World.drewN _) (Nat.add_assoc _ _ _))⟩)))
                            repeat (go_quiet (first | (go_at_call 67; (with_reducible refine (spec_l1In.calls (wrap64 (t388 * x21_3)) (wrap64 (t405 - t403)) (wrap64 (t407 - t401)) false _ A72.out).mono ?_); rintro e w' ⟨rfl, ⟨nd, rfl⟩⟩; (try first | exact ⟨rfl, _, World.drewN_drewN _ _ _⟩ | exact ⟨rfl, _, Eq.trans (World.drewN_drewN _ _ _) (congrArg (World.drewN _) (Nat.add_assoc _ _ _))⟩)) | (go_at_call 67; (with_reducible refine (spec_l1In.calls (wrap64 ((wrap64 (-t388)) * x21_3)) (wrap64 (t405 - t403)) (wrap64 (t407 - t401)) false _ A74.out).mono ?_); rintro e w' ⟨rfl, ⟨nd, rfl⟩⟩; (try first | exact ⟨rfl, _, World.drewN_drewN _ _ _⟩ | exact ⟨rfl, _, Eq.trans (World.drewN_drewN _ _ _) (congrArg (World.drewN _) (Nat.add_assoc _ _ _))⟩))); try go_wp2_with (first | (go_at_call 67; (with_reducible refine (spec_l1In.calls (wrap64 (t388 * x21_3)) (wrap64 (t405 - t403)) (wrap64 (t407 - t401)) false _ A72.out).mono ?_); rintro e w' ⟨rfl, ⟨nd, rfl⟩⟩; (try first | exact ⟨rfl, _, World.drewN_drewN _ _ _⟩ | exact ⟨rfl, _, Eq.trans (World.drewN_drewN _ _ _) (congrArg (World.drewN _) (Nat.add_assoc _ _ _))⟩)) | (go_at_call 67; (with_reducible refine (spec_l1In.calls (wrap64 ((wrap64 (-t388)) * x21_3)) (wrap64 (t405 - t403)) (wrap64 (t407 - t401)) false _ A74.out).mono ?_); rintro e w' ⟨rfl, ⟨nd, rfl⟩⟩; (try first | exact ⟨rfl, _, World.drewN_drewN _ _ _⟩ | exact ⟨rfl, _, Eq.trans (World.drewN_drewN _ _ _) (congrArg (World.drewN _) (Nat.add_assoc _ _ _))⟩))))
                            go_roundg k3
                            case measure => have := HJ4.out; have := HJ24.out; have := HK3.out; omega
                            case rel => exact ⟨(wrap64 (x21_3 + 1)), (by first | rfl | (simp; done) | (simp [*]; done)), H', ⟨by have := HJ4.out; have := HJ24.out; have := HK3.out; omega⟩, ⟨by (with_reducible repeat (first | apply Kd.R_alloc | apply Kd.R_drewN | apply Kd.R_drew)); exact HO_396001.out⟩, ⟨by (with_reducible repeat (first | apply Kd.R_alloc | apply Kd.R_drewN | apply Kd.R_drew)); exact HO_401001.out⟩, ⟨by (with_reducible repeat (first | refine kN ?_ _ | refine kD ?_ | refine kA ?_ _)); exact BK384.out⟩, ⟨by (with_reducible repeat (first | refine kN ?_ _ | refine kD ?_ | refine kA ?_ _)); exact BK385.out⟩, ⟨by (with_reducible repeat (first | refine kN ?_ _ | refine kD ?_ | refine kA ?_ _)); exact BK395.out⟩, ⟨by (with_reducible repeat (first | refine kN ?_ _ | refine kD ?_ | refine kA ?_ _)); exact BK400.out⟩, ⟨by repeat (first | (with_reducible first | exact HB.out | apply bA | apply bN | apply bD | refine bS ?_ GE384.out | refine bS ?_ GE385.out | refine bS ?_ GE395.out | refine bS ?_ GE400.out) | exact HB.out)⟩⟩
                      · rw [if_neg c71] at H
                        have c71b0 : decide (x21_3 ≤ (wrap64 (((rd_T56 l3 t389).f2) - ((rd_T56 l3 t389).f1)))) = false := decide_eq_false c71
                        clear c71
                        obtain rfl := Option.some.inj H
                        have p409 : 0 ≤ (t389 : Int) := of_decide_eq_true (by first | (with_reducible assumption) | assumption)
                        have q409 : t389 < (l3.length : Int) := of_decide_eq_true (by first | (with_reducible assumption) | assumption)
                        obtain ⟨ad409, e409, hx409_0, hx409_1, hx409_2⟩ := at_T56 HR3.out t389 p409 q409
                        cases e409
                        replace hx409_0 := hbc HB.out hx409_0
                        replace hx409_1 := hbc HB.out hx409_1
                        replace hx409_2 := hbc HB.out hx409_2
                        replace p409 := eq_true p409
                        replace q409 := eq_true q409
                        have p410 : 0 ≤ (t389 : Int) := of_decide_eq_true (by first | (with_reducible assumption) | assumption)
                        have q410 : t389 < (l3.length : Int) := of_decide_eq_true (by first | (with_reducible assumption) | assumption)
                        obtain ⟨ad410, e410, hx410_0, hx410_1, hx410_2⟩ := at_T56 HR3.out t389 p410 q410
                        obtain rfl : ad409 = ad410 := (by injection e410)
                        replace hx410_0 := hbc HB.out hx410_0
                        replace hx410_1 := hbc HB.out hx410_1
                        replace hx410_2 := hbc HB.out hx410_2
                        replace p410 := eq_true p410
                        replace q410 := eq_true q410
                        go_wp2
                        repeat (go_quiet (fail); try go_wp2)
                        go_ret
                        exact ⟨by first | rfl | (simp [errW_none, errW_some] <;> rfl) | (simp [*, errW_none, errW_some] <;> rfl), by repeat (first | (with_reducible first | exact HB.out | apply bA | apply bN | apply bD | refine bS ?_ GE384.out | refine bS ?_ GE385.out | refine bS ?_ GE395.out | refine bS ?_ GE400.out) | exact HB.out)⟩
                    · rw [if_neg c70] at H
                      exact absurd H (by simp)
                  · rw [if_neg c69] at H
                    exact absurd H (by simp)

/-! ### impl_Rounds: function 68 -/
def impl_Rounds.l0 : Nat → Int → List (S56) → Int → Int → Option (Int)
  | 0, _, _, _, _ => none
  | k + 1, x3, x9, x10, x11 => if x11 < x10 then (if 0 ≤ x11 then (if x11 < (x9.length : Int) then (impl_Rounds.l0 k (mn (wrap64 (x3 * (wrap64 ((wrap64 (((rd_T56 x9 x11).f2) - ((rd_T56 x9 x11).f1))) + 1)))) 1000000) x9 x10 (wrap64 (x11 + 1))) else (none)) else (none)) else (some x3)
def impl_Rounds.f (k : Nat) (l0 : List (S56)) : Option (Int) := (impl_isRight.f k l0).bind fun t413 => (if t413 = true then (impl_Rounds.l0 k 1 l0 (l0.length : Int) 0) else (some 0))
theorem impl_Rounds.mono_l : ∀ k, (∀ y0 y1 y2 y3, LeO (impl_Rounds.l0 k y0 y1 y2 y3) (impl_Rounds.l0 (k + 1) y0 y1 y2 y3))
  | 0 => fun _ _ _ _ r h => by simp [impl_Rounds.l0] at h
  | k + 1 => by
    have ih0 := impl_Rounds.mono_l k
    · intro y0 y1 y2 y3
      unfold impl_Rounds.l0
      repeat' first
      | (with_reducible exact ih0 _ _ _ _)
      | (with_reducible exact impl_isRight.mono _ _)
      | (with_reducible exact LeO.refl _)
      | (with_reducible exact LeO.none _)
      | (with_reducible refine LeO.ite ?_ ?_)
      | (with_reducible refine LeO.bind ?_ (fun _ => ?_))
      | exact ih0 _ _ _ _
      | exact impl_isRight.mono _ _
      | exact LeO.none _
      | refine LeO.ite ?_ ?_
      | refine LeO.bind ?_ (fun _ => ?_)
theorem impl_Rounds.mono : ∀ a0 k, LeO (impl_Rounds.f k a0) (impl_Rounds.f (k + 1) a0) := by
  intro a0 k
  have ih0 := impl_Rounds.mono_l k
  unfold impl_Rounds.f
  repeat' first
      | (with_reducible exact ih0 _ _ _ _)
      | (with_reducible exact impl_isRight.mono _ _)
      | (with_reducible exact LeO.refl _)
      | (with_reducible exact LeO.none _)
      | (with_reducible refine LeO.ite ?_ ?_)
      | (with_reducible refine LeO.bind ?_ (fun _ => ?_))
      | exact ih0 _ _ _ _
      | exact impl_isRight.mono _ _
      | exact LeO.none _
      | refine LeO.ite ?_ ?_
      | refine LeO.bind ?_ (fun _ => ?_)
set_option maxHeartbeats 8000000 in
set_option maxRecDepth 100000 in
theorem impl_Rounds.calls (k : Nat) (A0 : Option Addr) (c0 : Nat) (l0 : List (S56)) (r : Int) (w : World) (hr0 : Kd.C k56 w A0 l0.length l0) (hc0 : l0.length ≤ c0) (h : impl_Rounds.f k l0 = some r) :
    Calls Try.prog 68 #[.slice A0 l0.length c0] w fun e w' => e = .returned (.int .i64 r) ∧ Below w.heap.size w w' := by
  have hu56 := Try.underlying56
  have HR0 := mk0 hr0
  have HC0 := mk0 hc0
  clear hr0 hc0
  have HB := mk0 (Below.refl w.heap.size w)
  have H : ((impl_isRight.f k l0).bind fun t413 => (if t413 = true then (impl_Rounds.l0 k 1 l0 (l0.length : Int) 0) else (some 0))) = some r := h
  clear h
  obtain ⟨t413, A2, H⟩ := bindA H
  by_cases c3 : t413 = true
  · subst c3
    rw [if_pos rfl] at H
    have H' := mk0 H
    clear H
    go_enter Try.func68, Try.ntmps68
    go_wp2_with (first | ((with_reducible refine gate_callee (f := 88) rfl ?_); refine goesL_ (some 7) rfl rfl Try.func88 (by kernel_rfl) rfl #[.slice A0 l0.length c0] rfl (by (try simp only [List.map_toArray, List.map_cons, List.map_nil]); first | done | rfl) ?_; (with_reducible refine (impl_isRight.calls k _ _ l0 true _ ?side1 ?side2 A2.out).mono ?_); (case side1 => repeat (first | exact HR0.out | (with_reducible refine cA ?_ _) | (with_reducible refine cN ?_ _) | (with_reducible refine cD ?_))); (case side2 => exact HC0.out); rintro e w4 ⟨rfl, hb⟩; refine ⟨_, rfl, ?_⟩; have n0_ := mk0 (below_step (by repeat (first | (with_reducible first | exact HB.out | apply bA | apply bN | apply bD) | exact HB.out)) hb); clear HB; have HB := n0_; clear n0_; (try clear hb); (try clear hb2); (try clear hk); (try clear hi)))
    go_loopg [3, 11] k (fun kq v3 v11 w' => ∃ (x3_1 : Int) (x11_1 : Int), v3 = .int .i64 x3_1 ∧ v11 = .int .i64 x11_1 ∧ Aside0 (impl_Rounds.l0 kq x3_1 l0 (l0.length : Int) x11_1 = some r) ∧ Aside0 (kq ≤ k) ∧ Aside0 (Below w.heap.size w w'))
    case atStart => exact ⟨(1), (0), (by first | rfl | (simp; done) | (simp [*]; done)), (by first | rfl | (simp; done) | (simp [*]; done)), H', ⟨Nat.le_refl _⟩, ⟨by repeat (first | (with_reducible first | exact HB.out | apply bA | apply bN | apply bD) | exact HB.out)⟩⟩
    case round =>
      clear H'
      try clear p2
      try clear c3
      obtain ⟨x3_1, x11_1, rfl, rfl, HA, HK1, HB⟩ := hrel
      cases gk with
      | zero => exact absurd HA.out (by simp [impl_Rounds.l0])
      | succ k1 =>
        have H := HA.out
        clear HA
        simp only [impl_Rounds.l0] at H
        by_cases c5 : x11_1 < (l0.length : Int)
        · rw [if_pos c5] at H
          have c5b0 : decide (x11_1 < (l0.length : Int)) = true := decide_eq_true c5
          clear c5
          by_cases c6 : 0 ≤ x11_1
          · rw [if_pos c6] at H
            have c6b0 : decide (0 ≤ x11_1) = true := decide_eq_true c6
            clear c6
            by_cases c7 : x11_1 < (l0.length : Int)
            · rw [if_pos c7] at H
              have c7b0 : decide (x11_1 < (l0.length : Int)) = true := decide_eq_true c7
              clear c7
              obtain ⟨ji8, hji8⟩ : ∃ j_ : Int, (mn (wrap64 (x3_1 * (wrap64 ((wrap64 (((rd_T56 l0 x11_1).f2) - ((rd_T56 l0 x11_1).f1))) + 1)))) 1000000) = j_ := ⟨_, rfl⟩
              replace H : (impl_Rounds.l0 k1 ji8 l0 (l0.length : Int) (wrap64 (x11_1 + 1))) = some r := by first | (rw [hji8] at H; exact H) | (simp only [hji8] at H ⊢; exact H)
              have hji8_ : (if 1000000 < (wrap64 (x3_1 * (wrap64 ((wrap64 (((rd_T56 l0 x11_1).f2) - ((rd_T56 l0 x11_1).f1))) + 1)))) then 1000000 else (wrap64 (x3_1 * (wrap64 ((wrap64 (((rd_T56 l0 x11_1).f2) - ((rd_T56 l0 x11_1).f1))) + 1))))) = ji8 := hji8
              have H' := mk0 H
              clear H
              have p414 : 0 ≤ (x11_1 : Int) := of_decide_eq_true (by first | (with_reducible assumption) | assumption)
              have q414 : x11_1 < (l0.length : Int) := of_decide_eq_true (by first | (with_reducible assumption) | assumption)
              obtain ⟨ad414, e414, hx414_0, hx414_1, hx414_2⟩ := at_T56 HR0.out x11_1 p414 q414
              cases e414
              replace hx414_0 := hbc HB.out hx414_0
              replace hx414_1 := hbc HB.out hx414_1
              replace hx414_2 := hbc HB.out hx414_2
              replace p414 := eq_true p414
              replace q414 := eq_true q414
              go_wp2_with (first | ((with_reducible refine gate_dst (N := 5) rfl ?_); refine box_event ?hg (N := 5) ?hd (cs := #[.string (⟨#[]⟩ : ByteArray), .int .i64 0, .int .i64 0]) (t := 56) ?hr ?_; (case hd => rfl); (case hg => rfl); (case hr => first | (go_simp; done) | (go_simp; rfl)); intro gb415 hg w9 hbox hb; have q_ := qB (by repeat (first | (with_reducible first | exact HB.out | apply bA | apply bN | apply bD) | exact HB.out)) hb; have n0_ := mk0 (below_step q_ hb); have n1_ := mk0 (hbox); have n2_ := mk0 (below_size2 q_ hg); have n3_ := n2_; clear HB; have HB := n0_; have BK415 := n1_; have GW415 := n2_; have GE415 := n3_; clear q_ n0_ n1_ n2_ n3_; clear hb hbox hg; have z10 := bc3 BK415.out))
              go_roundg k1
              case measure => have := HK1.out; omega
              case rel => exact ⟨(ji8), (wrap64 (x11_1 + 1)), (by first | rfl | (simp; done) | (simp only [← hji8] <;> (first | rfl | simp)) | (simp [*]; done)), (by first | rfl | (simp; done) | (simp [*]; done)), H', ⟨by have := HK1.out; omega⟩, ⟨by repeat (first | (with_reducible first | exact HB.out | apply bA | apply bN | apply bD | refine bS ?_ GE415.out) | exact HB.out)⟩⟩
            · rw [if_neg c7] at H
              exact absurd H (by simp)
          · rw [if_neg c6] at H
            exact absurd H (by simp)
        · rw [if_neg c5] at H
          have c5b0 : decide (x11_1 < (l0.length : Int)) = false := decide_eq_false c5
          clear c5
          obtain rfl := Option.some.inj H
          go_wp2
          go_ret
          exact ⟨by first | rfl | (simp [errW_none, errW_some] <;> rfl) | (simp [*, errW_none, errW_some] <;> rfl), by repeat (first | (with_reducible first | exact HB.out | apply bA | apply bN | apply bD) | exact HB.out)⟩
  · replace c3 := Bool.eq_false_iff.mpr c3
    subst c3
    rw [if_neg (show ¬ (false = true) by decide)] at H
    obtain rfl := Option.some.inj H
    go_enter Try.func68, Try.ntmps68
    go_wp2_with (first | ((with_reducible refine gate_callee (f := 88) rfl ?_); refine goesL_ (some 7) rfl rfl Try.func88 (by kernel_rfl) rfl #[.slice A0 l0.length c0] rfl (by (try simp only [List.map_toArray, List.map_cons, List.map_nil]); first | done | rfl) ?_; (with_reducible refine (impl_isRight.calls k _ _ l0 false _ ?side1 ?side2 A2.out).mono ?_); (case side1 => repeat (first | exact HR0.out | (with_reducible refine cA ?_ _) | (with_reducible refine cN ?_ _) | (with_reducible refine cD ?_))); (case side2 => exact HC0.out); rintro e w11 ⟨rfl, hb⟩; refine ⟨_, rfl, ?_⟩; have n0_ := mk0 (below_step (by repeat (first | (with_reducible first | exact HB.out | apply bA | apply bN | apply bD) | exact HB.out)) hb); clear HB; have HB := n0_; clear n0_; (try clear hb); (try clear hb2); (try clear hk); (try clear hi)))
    go_ret
    exact ⟨by first | rfl | (simp [errW_none, errW_some] <;> rfl) | (simp [*, errW_none, errW_some] <;> rfl), by repeat (first | (with_reducible first | exact HB.out | apply bA | apply bN | apply bD) | exact HB.out)⟩
end Go.Proofs.Ytmomablfmhkppaa.PFnMeets
