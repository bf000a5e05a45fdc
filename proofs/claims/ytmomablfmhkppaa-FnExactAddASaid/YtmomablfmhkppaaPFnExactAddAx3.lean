-- The functions of a law as plain Lean functions, each with its contract: written by a program of this session.
import Derived.Test.YtmomablfmhkppaaPFnExactAddAx0
import Derived.Test.YtmomablfmhkppaaPFnExactAddAx1
import Derived.Test.YtmomablfmhkppaaPFnExactAddAx2
namespace Go.Proofs.Ytmomablfmhkppaa.PFnExactAddA
open Go.RowKit Go.Proofs.YtmomablfmhkppaaW.PrintWords Go.Proofs.YtmomablfmhkppaaW.PrintLast Go.Proofs.YtmomablfmhkppaaW.PrintMore
attribute [local go_sem] max2_int min2_int max_two min_two max_three min_three max_four min_four   -- for this text's walks alone
set_option linter.unusedVariables false
set_option linter.unusedSimpArgs false

/-! ### spec_l8Sum: function 38 -/
mutual
def spec_l8Sum.j0 : Nat → Int → Bool → Int → List (S70) → Int → List (S70) → Option (Int × (List (S70)) × Bool)
 | 0, _, _, _, _, _, _ => none
 | k + 1, x2, x19, x153000, x153001, x154000, x154001 => if x19 = true then (some (0, ([] : List (S70)), false)) else ((spec_l8Names.f k x153000 x153001 x154000 x154001).bind fun t158 => (spec_l8Sum.l0 k x2 t158 0 x153000 x153001 x154000 x154001 (wrap64 (x153000 + (wrap64 (x2 * x154000)))) ([] : List (S70))))
def spec_l8Sum.l0 : Nat → Int → List ByteArray → Int → Int → List (S70) → Int → List (S70) → Int → List (S70) → Option (Int × (List (S70)) × Bool)
 | 0, _, _, _, _, _, _, _, _, _ => none
 | k + 1, x2, x9, x10, x153000, x153001, x154000, x154001, x158000, x158001 => if x10 < (x9.length : Int) then (if 0 ≤ x10 then ((spec_CoefOf.f k x153000 x153001 (rdOf ByteArray.empty x9 x10)).bind fun t163 => ((spec_CoefOf.f k x154000 x154001 (rdOf ByteArray.empty x9 x10)).bind fun t165 => (if (wrap64 (t163 + (wrap64 (x2 * t165)))) = 0 then (spec_l8Sum.l0 k x2 x9 (wrap64 (x10 + 1)) x153000 x153001 x154000 x154001 x158000 x158001) else (if x158001.length < 5864062014805 then (spec_l8Sum.l0 k x2 x9 (wrap64 (x10 + 1)) x153000 x153001 x154000 x154001 x158000 (x158001 ++ [(⟨rdOf ByteArray.empty x9 x10, wrap64 (t163 + (wrap64 (x2 * t165)))⟩ : S70)])) else (none))))) else (none)) else ((spec_AffOk.f k x158000 x158001).bind fun t161 => (if t161 = true then (some (x158000, x158001, true)) else (some (0, ([] : List (S70)), false))))
end
def spec_l8Sum.f (k : Nat) (a0_0 : Int) (l0_1 : List (S70)) (a1_0 : Int) (l1_1 : List (S70)) (a2 : Int) : Option (Int × (List (S70)) × Bool) := (spec_AffOk.f k a0_0 l0_1).bind fun t155 => (if t155 = true then ((spec_AffOk.f k a1_0 l1_1).bind fun t156 => (spec_l8Sum.j0 k a2 (!t156) a0_0 l0_1 a1_0 l1_1)) else (spec_l8Sum.j0 k a2 true a0_0 l0_1 a1_0 l1_1))
theorem spec_l8Sum.mono_l : ∀ k, (∀ y0 y1 y2 y3 y4 y5, LeO (spec_l8Sum.j0 k y0 y1 y2 y3 y4 y5) (spec_l8Sum.j0 (k + 1) y0 y1 y2 y3 y4 y5)) ∧ (∀ y0 y1 y2 y3 y4 y5 y6 y7 y8, LeO (spec_l8Sum.l0 k y0 y1 y2 y3 y4 y5 y6 y7 y8) (spec_l8Sum.l0 (k + 1) y0 y1 y2 y3 y4 y5 y6 y7 y8))
 | 0 => ⟨fun _ _ _ _ _ _ r h => by simp [spec_l8Sum.j0] at h, fun _ _ _ _ _ _ _ _ _ r h => by simp [spec_l8Sum.l0] at h⟩
 | k + 1 => by
  obtain ⟨ih0, ih1⟩ := spec_l8Sum.mono_l k
  refine ⟨?_, ?_⟩
  ·intro y0 y1 y2 y3 y4 y5
   unfold spec_l8Sum.j0
   repeat' first
   | (with_reducible exact ih0 _ _ _ _ _ _)
   | (with_reducible exact ih1 _ _ _ _ _ _ _ _ _)
   | (with_reducible exact spec_AffOk.mono _ _ _)
   | (with_reducible exact spec_CoefOf.mono _ _ _ _)
   | (with_reducible exact spec_l8Names.mono _ _ _ _ _)
   | (with_reducible exact LeO.refl _)
   | (with_reducible exact LeO.none _)
   | (with_reducible refine LeO.ite ?_ ?_)
   | (with_reducible refine LeO.bind ?_ (fun _ => ?_))
   | exact ih0 _ _ _ _ _ _
   | exact ih1 _ _ _ _ _ _ _ _ _
   | exact spec_AffOk.mono _ _ _
   | exact spec_CoefOf.mono _ _ _ _
   | exact spec_l8Names.mono _ _ _ _ _
   | exact LeO.none _
   | refine LeO.ite ?_ ?_
   | refine LeO.bind ?_ (fun _ => ?_)
  ·intro y0 y1 y2 y3 y4 y5 y6 y7 y8
   unfold spec_l8Sum.l0
   repeat' first
   | (with_reducible exact ih0 _ _ _ _ _ _)
   | (with_reducible exact ih1 _ _ _ _ _ _ _ _ _)
   | (with_reducible exact spec_AffOk.mono _ _ _)
   | (with_reducible exact spec_CoefOf.mono _ _ _ _)
   | (with_reducible exact spec_l8Names.mono _ _ _ _ _)
   | (with_reducible exact LeO.refl _)
   | (with_reducible exact LeO.none _)
   | (with_reducible refine LeO.ite ?_ ?_)
   | (with_reducible refine LeO.bind ?_ (fun _ => ?_))
   | exact ih0 _ _ _ _ _ _
   | exact ih1 _ _ _ _ _ _ _ _ _
   | exact spec_AffOk.mono _ _ _
   | exact spec_CoefOf.mono _ _ _ _
   | exact spec_l8Names.mono _ _ _ _ _
   | exact LeO.none _
   | refine LeO.ite ?_ ?_
   | refine LeO.bind ?_ (fun _ => ?_)
theorem spec_l8Sum.mono : ∀ a0 a1 a2 a3 a4 k, LeO (spec_l8Sum.f k a0 a1 a2 a3 a4) (spec_l8Sum.f (k + 1) a0 a1 a2 a3 a4) := by
 intro a0 a1 a2 a3 a4 k
 obtain ⟨ih0, ih1⟩ := spec_l8Sum.mono_l k
 unfold spec_l8Sum.f
 repeat' first
   | (with_reducible exact ih0 _ _ _ _ _ _)
   | (with_reducible exact ih1 _ _ _ _ _ _ _ _ _)
   | (with_reducible exact spec_AffOk.mono _ _ _)
   | (with_reducible exact spec_CoefOf.mono _ _ _ _)
   | (with_reducible exact spec_l8Names.mono _ _ _ _ _)
   | (with_reducible exact LeO.refl _)
   | (with_reducible exact LeO.none _)
   | (with_reducible refine LeO.ite ?_ ?_)
   | (with_reducible refine LeO.bind ?_ (fun _ => ?_))
   | exact ih0 _ _ _ _ _ _
   | exact ih1 _ _ _ _ _ _ _ _ _
   | exact spec_AffOk.mono _ _ _
   | exact spec_CoefOf.mono _ _ _ _
   | exact spec_l8Names.mono _ _ _ _ _
   | exact LeO.none _
   | refine LeO.ite ?_ ?_
   | refine LeO.bind ?_ (fun _ => ?_)
def spec_l8Sum.T8 : Bool × List (List Nat × List Nat) := (true, [([], []), ([], []), ([], []), ([1, 2], [1, 2]), ([3], [3]), ([0, 4], [0, 4]), ([], []), ([], []), ([], []), ([], []), ([8, 9], [8, 9]), ([10], [10]), ([7, 11, 5], [7, 11]), ([6, 12], [6, 12]), ([5, 13], [5, 13]), ([14, 12, 0, 1, 2, 3, 4, 5, 6, 7, 8, 9, 10, 11, 12, 13, 14], [14])])
def spec_l8Sum.B8 : List Nat := [0, 0, 0, 6, 14, 31, 0, 0, 0, 0, 768, 1792, 4031, 8191, 16383, 32767]
theorem spec_l8Sum.tab8 : rtab .any (opsOf Try.f38 8) = spec_l8Sum.T8 := by kernel_rfl
theorem spec_l8Sum.bits8 : waitsOk spec_l8Sum.T8.2 spec_l8Sum.B8 = true := by kernel_rfl
def spec_l8Sum.T10 : Bool × List (List Nat × List Nat) := (true, [([], []), ([0], [0]), ([], []), ([], []), ([2, 3], [2, 3]), ([4], [4]), ([], []), ([5, 6], [5, 6]), ([7], [7]), ([1, 8], [1, 8]), ([0, 1, 2, 3, 4, 5, 6, 7, 8, 9], []), ([10, 9, 9, 0, 1, 2, 3, 4, 5, 6, 7, 8, 9], [9, 10])])
def spec_l8Sum.B10 : List Nat := [0, 1, 0, 0, 12, 28, 0, 124, 252, 511, 1023, 2047]
theorem spec_l8Sum.tab10 : rtab .any (opsOf Try.f38 10) = spec_l8Sum.T10 := by kernel_rfl
theorem spec_l8Sum.bits10 : waitsOk spec_l8Sum.T10.2 spec_l8Sum.B10 = true := by kernel_rfl
set_option maxHeartbeats 8000000 in
set_option maxRecDepth 100000 in
theorem spec_l8Sum.calls (k : Nat) (a0_0 : Int) (A0_1 : Option Addr) (c0_1 : Nat) (l0_1 : List (S70)) (a1_0 : Int) (A1_1 : Option Addr) (c1_1 : Nat) (l1_1 : List (S70)) (a2 : Int) (r1 : Int) (r2 : List (S70)) (r3 : Bool) (w : World) (hr0_1 : Kd.C k70 w A0_1 l0_1.length l0_1) (hc0_1 : l0_1.length ≤ c0_1) (hr1_1 : Kd.C k70 w A1_1 l1_1.length l1_1) (hc1_1 : l1_1.length ≤ c1_1) (h : spec_l8Sum.f k a0_0 l0_1 a1_0 l1_1 a2 = some (r1, r2, r3)) :
  Calls Try.prog 38 #[.agg #[.int .i64 a0_0, .slice A0_1 l0_1.length c0_1], .agg #[.int .i64 a1_0, .slice A1_1 l1_1.length c1_1], .int .i64 a2] w fun e w' => ∃ v1_ : Value, e = .returned (.tuple #[.agg #[.int .i64 r1, v1_], .bool r3]) ∧ Kd.R k70 70 w' w.heap.size (fun _ => True) v1_ r2 ∧ Below w.heap.size w w' := by
 have hu28 := Try.underlying28
 have hu70 := Try.underlying70
 have HR0_1 := mk0 hr0_1
 have HC0_1 := mk0 hc0_1
 clear hr0_1 hc0_1
 have HR1_1 := mk0 hr1_1
 have HC1_1 := mk0 hc1_1
 clear hr1_1 hc1_1
 have HB := mk0 (Below.refl w.heap.size w)
 have H : ((spec_AffOk.f k a0_0 l0_1).bind fun t155 => (if t155 = true then ((spec_AffOk.f k a1_0 l1_1).bind fun t156 => (spec_l8Sum.j0 k a2 (!t156) a0_0 l0_1 a1_0 l1_1)) else (spec_l8Sum.j0 k a2 true a0_0 l0_1 a1_0 l1_1))) = some (r1,r2,r3) := h
 clear h
 have HC4 := mk0 H
 clear H
 go_enter Try.func38,Try.ntmps38
 go_upto_region 1 with (first|((with_reducible refine gate_dst (N := 3) rfl ?_);refine box_event ?hg (N := 3) ?hd (cs := #[.int .i64 a0_0,.slice A0_1 l0_1.length c0_1]) (t := 28) ?hr ?_;(case hd => rfl);(case hg => rfl);(case hr => first|(go_simp;done)|(go_simp;rfl));intro gb152 hg w5 hbox hb;have q_ := qB (by repeat (first|(with_reducible first|exact HB.out|apply bA|apply bN|apply bD)|exact HB.out)) hb;have n0_ := mk0 (below_step q_ hb);have n1_ := mk0 (hbox);have n2_ := mk0 (below_size2 q_ hg);have n3_ := n2_;clear HB;have HB := n0_;have BK152 := n1_;have GW152 := n2_;have GE152 := n3_;clear q_ n0_ n1_ n2_ n3_;clear hb hbox hg)|((with_reducible refine gate_dst (N := 4) rfl ?_);refine box_event ?hg (N := 4) ?hd (cs := #[.int .i64 a1_0,.slice A1_1 l1_1.length c1_1]) (t := 28) ?hr ?_;(case hd => rfl);(case hg => rfl);(case hr => first|(go_simp;done)|(go_simp;rfl));intro gb153 hg w6 hbox hb;have q_ := qB (by repeat (first|(with_reducible first|exact HB.out|apply bA|apply bN|apply bD|refine bS ?_ GE152.out)|exact HB.out)) hb;have n0_ := mk0 (blk_below (by exact kX BK152.out) hb);have n1_ := mk0 (below_step q_ hb);have n2_ := mk0 (hbox);have n3_ := mk0 (below_size2 q_ hg);have n4_ := n3_;have n5_ := mk0 ((by rw [hg];exact Nat.ne_of_lt (blk_lt (by exact kX BK152.out)) : gb152 ≠ gb153));have n6_ := mk0 ((by rw [hg];exact Nat.ne_of_gt (blk_lt (by exact kX BK152.out)) : gb153 ≠ gb152));clear BK152;clear HB;have BK152 := n0_;have HB := n1_;have BK153 := n2_;have GW153 := n3_;have GE153 := n4_;have NB152_153 := n5_;have NB153_152 := n6_;clear q_ n0_ n1_ n2_ n3_ n4_ n5_ n6_;clear hb hbox hg)|((with_reducible refine gate_dst (N := 6) rfl ?_);refine box_event ?hg (N := 6) ?hd (cs := #[.int .i64 0,.slice none 0 0]) (t := 28) ?hr ?_;(case hd => rfl);(case hg => rfl);(case hr => first|(go_simp;done)|(go_simp;rfl));intro gb154 hg w7 hbox hb;have q_ := qB (by repeat (first|(with_reducible first|exact HB.out|apply bA|apply bN|apply bD|refine bS ?_ GE152.out|refine bS ?_ GE153.out)|exact HB.out)) hb;have n0_ := mk0 (blk_below (by exact kX BK152.out) hb);have n1_ := mk0 (blk_below (by exact kX BK153.out) hb);have n2_ := mk0 (below_step q_ hb);have n3_ := mk0 (hbox);have n4_ := mk0 (below_size2 q_ hg);have n5_ := n4_;have n6_ := mk0 ((by rw [hg];exact Nat.ne_of_lt (blk_lt (by exact kX BK152.out)) : gb152 ≠ gb154));have n7_ := mk0 ((by rw [hg];exact Nat.ne_of_gt (blk_lt (by exact kX BK152.out)) : gb154 ≠ gb152));have n8_ := mk0 ((by rw [hg];exact Nat.ne_of_lt (blk_lt (by exact kX BK153.out)) : gb153 ≠ gb154));have n9_ := mk0 ((by rw [hg];exact Nat.ne_of_gt (blk_lt (by exact kX BK153.out)) : gb154 ≠ gb153));clear BK152;clear BK153;clear HB;have BK152 := n0_;have BK153 := n1_;have HB := n2_;have BK154 := n3_;have GW154 := n4_;have GE154 := n5_;have NB152_154 := n6_;have NB154_152 := n7_;have NB153_154 := n8_;have NB154_153 := n9_;clear q_ n0_ n1_ n2_ n3_ n4_ n5_ n6_ n7_ n8_ n9_;clear hb hbox hg))
 (try simp only [Act.put,List.setIfInBounds_toArray,List.set_cons_zero,List.set_cons_succ])
 go_cut [19] (fun v19 wc => ∃ (kq : Nat) (x19_3 : Bool),v19 = .bool x19_3 ∧ Aside0 (spec_l8Sum.j0 kq a2 x19_3 a0_0 l0_1 a1_0 l1_1 = some (r1,r2,r3)) ∧ Aside0 (kq ≤ k) ∧ Aside0 (wc.heap[gb152]? = some (.cells #[.int .i64 a0_0,(.slice A0_1 l0_1.length c0_1)] 28 (0,0))) ∧ Aside0 (wc.heap[gb153]? = some (.cells #[.int .i64 a1_0,(.slice A1_1 l1_1.length c1_1)] 28 (0,0))) ∧ Aside0 (wc.heap[gb154]? = some (.cells #[.int .i64 0,(.slice none 0 0)] 28 (0,0))) ∧ Aside0 (Below w.heap.size w wc))
 case first =>
  have H := HC4.out
  clear HC4
  obtain ⟨t155,A8,H⟩ := bindA H
  by_cases c9 : t155 = true
  ·subst c9
   rw [if_pos rfl] at H
   obtain ⟨t156,A10,H⟩ := bindA H
   have H' := mk0 H
   clear H
   have hnb11 := NB152_153.out
   have hnc11 := NB153_152.out
   have hnb12 := NB152_154.out
   have hnc12 := NB154_152.out
   have z13 := bc2 BK152.out
   go_wp2_with (first|((with_reducible refine gate_callee (f := 27) rfl ?_);refine goesL_ (some 13) rfl rfl Try.func27 (by kernel_rfl) rfl #[.agg #[.int .i64 a0_0,.slice A0_1 l0_1.length c0_1]] rfl (by (try simp only [List.map_toArray,List.map_cons,List.map_nil]);first|done|rfl) ?_;(with_reducible refine (spec_AffOk.calls k a0_0 _ _ l0_1 true _ ?side1 ?side2 A8.out).mono ?_);(case side1 => repeat (first|exact (Kd.C_below HR0_1.out HB.out)|(with_reducible refine cA ?_ _)|(with_reducible refine cN ?_ _)|(with_reducible refine cD ?_)));(case side2 => exact HC0_1.out);rintro e w14 ⟨rfl,hb⟩;refine ⟨_,rfl,?_⟩;have n0_ := mk0 (blk_below (by exact kX BK152.out) hb);have n1_ := mk0 (blk_below (by exact kX BK153.out) hb);have n2_ := mk0 (blk_below (by exact kX BK154.out) hb);have n3_ := mk0 (below_step (by repeat (first|(with_reducible first|exact HB.out|apply bA|apply bN|apply bD|refine bS ?_ GE152.out|refine bS ?_ GE153.out|refine bS ?_ GE154.out)|exact HB.out)) hb);clear BK152;clear BK153;clear BK154;clear HB;have BK152 := n0_;have BK153 := n1_;have BK154 := n2_;have HB := n3_;clear n0_ n1_ n2_ n3_;(try clear hb);(try clear hb2);(try clear hk);(try clear hi);have hnb15 := NB153_154.out;have hnc15 := NB154_153.out;have z16 := bc2 BK153.out)|(go_at_call 27;(with_reducible refine (spec_AffOk.calls k a1_0 _ _ l1_1 t156 _ ?side1 ?side2 A10.out).mono ?_);(case side1 => repeat (first|exact (Kd.C_below HR1_1.out HB.out)|(with_reducible refine cA ?_ _)|(with_reducible refine cN ?_ _)|(with_reducible refine cD ?_)));(case side2 => exact HC1_1.out);rintro e w17 ⟨rfl,hb⟩;have n0_ := mk0 (blk_below (by exact kX BK152.out) hb);have n1_ := mk0 (blk_below (by exact kX BK153.out) hb);have n2_ := mk0 (blk_below (by exact kX BK154.out) hb);have n3_ := mk0 (below_step (by repeat (first|(with_reducible first|exact HB.out|apply bA|apply bN|apply bD|refine bS ?_ GE152.out|refine bS ?_ GE153.out|refine bS ?_ GE154.out)|exact HB.out)) hb);clear BK152;clear BK153;clear BK154;clear HB;have BK152 := n0_;have BK153 := n1_;have BK154 := n2_;have HB := n3_;clear n0_ n1_ n2_ n3_;(try clear hb);(try clear hb2);(try clear hk);(try clear hi)))
   go_meet
   case rel => exact ⟨_,(!t156),(by first|rfl|(simp;done)|(simp [*];done)),H',⟨by first|omega|exact Nat.le_refl _⟩,⟨by refine kX ?_;exact BK152.out⟩,⟨by refine kX ?_;exact BK153.out⟩,⟨by refine kX ?_;exact BK154.out⟩,⟨by repeat (first|(with_reducible first|exact HB.out|apply bA|apply bN|apply bD|refine bS ?_ GE152.out|refine bS ?_ GE153.out|refine bS ?_ GE154.out)|exact HB.out)⟩⟩
  ·replace c9 := Bool.eq_false_iff.mpr c9
   subst c9
   rw [if_neg (show ¬ (false = true) by decide)] at H
   have H' := mk0 H
   clear H
   have hnb18 := NB152_153.out
   have hnc18 := NB153_152.out
   have hnb19 := NB152_154.out
   have hnc19 := NB154_152.out
   have z20 := bc2 BK152.out
   go_wp2_with (first|((with_reducible refine gate_callee (f := 27) rfl ?_);refine goesL_ (some 13) rfl rfl Try.func27 (by kernel_rfl) rfl #[.agg #[.int .i64 a0_0,.slice A0_1 l0_1.length c0_1]] rfl (by (try simp only [List.map_toArray,List.map_cons,List.map_nil]);first|done|rfl) ?_;(with_reducible refine (spec_AffOk.calls k a0_0 _ _ l0_1 false _ ?side1 ?side2 A8.out).mono ?_);(case side1 => repeat (first|exact (Kd.C_below HR0_1.out HB.out)|(with_reducible refine cA ?_ _)|(with_reducible refine cN ?_ _)|(with_reducible refine cD ?_)));(case side2 => exact HC0_1.out);rintro e w21 ⟨rfl,hb⟩;refine ⟨_,rfl,?_⟩;have n0_ := mk0 (blk_below (by exact kX BK152.out) hb);have n1_ := mk0 (blk_below (by exact kX BK153.out) hb);have n2_ := mk0 (blk_below (by exact kX BK154.out) hb);have n3_ := mk0 (below_step (by repeat (first|(with_reducible first|exact HB.out|apply bA|apply bN|apply bD|refine bS ?_ GE152.out|refine bS ?_ GE153.out|refine bS ?_ GE154.out)|exact HB.out)) hb);clear BK152;clear BK153;clear BK154;clear HB;have BK152 := n0_;have BK153 := n1_;have BK154 := n2_;have HB := n3_;clear n0_ n1_ n2_ n3_;(try clear hb);(try clear hb2);(try clear hk);(try clear hi)))
   go_meet
   case rel => exact ⟨_,(true),(by first|rfl|(simp;done)|(simp [*];done)),H',⟨by first|omega|exact Nat.le_refl _⟩,⟨by refine kX ?_;exact BK152.out⟩,⟨by refine kX ?_;exact BK153.out⟩,⟨by refine kX ?_;exact BK154.out⟩,⟨by repeat (first|(with_reducible first|exact HB.out|apply bA|apply bN|apply bD|refine bS ?_ GE152.out|refine bS ?_ GE153.out|refine bS ?_ GE154.out)|exact HB.out)⟩⟩
 case rest =>
  clear HC4
  try clear c1
  try clear c2
  try clear p2
  try clear c3
  try clear c9
  try clear c11
  try clear c12
  try clear c15
  try clear c18
  try clear c19
  try clear z13
  try clear z16
  try clear z20
  try clear z13
  try clear z16
  try clear z20
  obtain ⟨kq,x19_3,rfl,HA,HJ3,BK152,BK153,BK154,HB⟩ := hcut
  cases kq with
   |zero => exact absurd HA.out (by simp [spec_l8Sum.j0])
   |succ kj3 =>
   have H := HA.out
   clear HA
   simp only [spec_l8Sum.j0] at H
   by_cases c22 : x19_3 = true
   ·subst c22
    rw [if_pos rfl] at H
    simp only [Option.some.injEq,Prod.mk.injEq] at H
    obtain ⟨rfl,rfl,rfl⟩ := H
    have hnb23 := NB154_152.out
    have hnc23 := NB152_154.out
    have hnb24 := NB154_153.out
    have hnc24 := NB153_154.out
    have z25 := bc2 BK154.out
    go_wp2
    refine bodyPost_ret (results_ct rfl _ _ gb154 28 #[.int .i64 0,.slice none 0 0] (0,0) _ rfl (by refine kX ?_;refine blk_put (cs := #[.int .i64 0,.slice none 0 0]) ?_ 1 _ rfl;refine kX ?_;refine blk_put (cs := #[.int .i64 0,.slice none 0 0]) ?_ 0 _ rfl;exact kX BK154.out) Try.underlying28 rfl (by kernel_rfl)) rfl ?_
    exact ⟨_,by first|rfl|(simp [errW_none,errW_some] <;> rfl)|(simp [*,errW_none,errW_some] <;> rfl),by first|exact Kd.R_nil _ _ _ _ _|exact Kd.N_nil _ _ _ _ _|exact Kd.V_nil _ _ _ _ _|exact Kd.Q_nil _ _ _ _ _|exact Kd.S_nil _ _ _ _ _,by repeat (first|(with_reducible first|exact HB.out|apply bA|apply bN|apply bD|refine bS ?_ GE152.out|refine bS ?_ GE153.out|refine bS ?_ GE154.out)|exact HB.out)⟩
   ·replace c22 := Bool.eq_false_iff.mpr c22
    subst c22
    rw [if_neg (show ¬ (false = true) by decide)] at H
    obtain ⟨t158,A26,H⟩ := bindA H
    have H' := mk0 H
    clear H
    have hnb27 := NB152_153.out
    have hnc27 := NB153_152.out
    have hnb28 := NB152_154.out
    have hnc28 := NB154_152.out
    have z29 := bc2 BK152.out
    have hnb30 := NB153_154.out
    have hnc30 := NB154_153.out
    have z31 := bc2 BK153.out
    go_wp2_with (first|((with_reducible refine gate_dst (N := 8) rfl ?_);refine box_event ?hg (N := 8) ?hd (cs := #[.int .i64 0,.slice none 0 0]) (t := 28) ?hr ?_;(case hd => rfl);(case hg => rfl);(case hr => first|(go_simp;done)|(go_simp;rfl));intro gb157 hg w32 hbox hb;have q_ := qB (by repeat (first|(with_reducible first|exact HB.out|apply bA|apply bN|apply bD|refine bS ?_ GE152.out|refine bS ?_ GE153.out|refine bS ?_ GE154.out)|exact HB.out)) hb;have n0_ := mk0 (blk_below (by exact kX BK152.out) hb);have n1_ := mk0 (blk_below (by exact kX BK153.out) hb);have n2_ := mk0 (blk_below (by exact kX BK154.out) hb);have n3_ := mk0 (below_step q_ hb);have n4_ := mk0 (hbox);have n5_ := mk0 (below_size2 q_ hg);have n6_ := n5_;have n7_ := mk0 ((by rw [hg];exact Nat.ne_of_lt (blk_lt (by exact kX BK152.out)) : gb152 ≠ gb157));have n8_ := mk0 ((by rw [hg];exact Nat.ne_of_gt (blk_lt (by exact kX BK152.out)) : gb157 ≠ gb152));have n9_ := mk0 ((by rw [hg];exact Nat.ne_of_lt (blk_lt (by exact kX BK153.out)) : gb153 ≠ gb157));have n10_ := mk0 ((by rw [hg];exact Nat.ne_of_gt (blk_lt (by exact kX BK153.out)) : gb157 ≠ gb153));have n11_ := mk0 ((by rw [hg];exact Nat.ne_of_lt (blk_lt (by exact kX BK154.out)) : gb154 ≠ gb157));have n12_ := mk0 ((by rw [hg];exact Nat.ne_of_gt (blk_lt (by exact kX BK154.out)) : gb157 ≠ gb154));clear BK152;clear BK153;clear BK154;clear HB;have BK152 := n0_;have BK153 := n1_;have BK154 := n2_;have HB := n3_;have BK157 := n4_;have GW157 := n5_;have GE157 := n6_;have NB152_157 := n7_;have NB157_152 := n8_;have NB153_157 := n9_;have NB157_153 := n10_;have NB154_157 := n11_;have NB157_154 := n12_;clear q_ n0_ n1_ n2_ n3_ n4_ n5_ n6_ n7_ n8_ n9_ n10_ n11_ n12_;clear hb hbox hg;have hnb33 := NB157_152.out;have hnc33 := NB152_157.out;have hnb34 := NB157_153.out;have hnc34 := NB153_157.out;have hnb35 := NB157_154.out;have hnc35 := NB154_157.out;have z36 := bc2 BK157.out;have z37 := bc2 BK152.out;have z38 := bc2 BK153.out)|((with_reducible refine gate_callee (f := 73) rfl ?_);refine goesL_ (some 31) rfl rfl Try.func73 (by kernel_rfl) rfl #[.agg #[.int .i64 a0_0,.slice A0_1 l0_1.length c0_1],.agg #[.int .i64 a1_0,.slice A1_1 l1_1.length c1_1]] rfl (by (try simp only [List.map_toArray,List.map_cons,List.map_nil]);first|done|rfl) ?_;(with_reducible refine (spec_l8Names.calls kj3 a0_0 _ _ l0_1 a1_0 _ _ l1_1 t158 _ ?side1 ?side2 ?side3 ?side4 A26.out).mono ?_);(case side1 => exact Kd.C_below HR0_1.out (by repeat (first|(with_reducible first|exact HB.out|apply bA|apply bN|apply bD|refine bS ?_ GE152.out|refine bS ?_ GE153.out|refine bS ?_ GE154.out|refine bS ?_ GE157.out)|exact HB.out)));(case side2 => exact HC0_1.out);(case side3 => exact Kd.C_below HR1_1.out (by repeat (first|(with_reducible first|exact HB.out|apply bA|apply bN|apply bD|refine bS ?_ GE152.out|refine bS ?_ GE153.out|refine bS ?_ GE154.out|refine bS ?_ GE157.out)|exact HB.out)));(case side4 => exact HC1_1.out);rintro e w39 ⟨v159,rfl,ho0,hb⟩;refine ⟨_,rfl,?_⟩;have q_ := qB (by repeat (first|(with_reducible first|exact HB.out|apply bA|apply bN|apply bD|refine bS ?_ GE152.out|refine bS ?_ GE153.out|refine bS ?_ GE154.out|refine bS ?_ GE157.out)|exact HB.out)) hb;have n0_ := mk0 (Kd.R_lower ho0 (below_size q_));have n1_ := mk0 (blk_below (g := gb152) (o := .cells #[.int .i64 a0_0,.slice A0_1 l0_1.length c0_1] 28 (0,0)) (by refine kX ?_;refine blk_far ?_ NB152_157.out _;refine kX ?_;refine blk_far ?_ NB152_157.out _;exact kX BK152.out) hb);have n2_ := mk0 (blk_below (g := gb153) (o := .cells #[.int .i64 a1_0,.slice A1_1 l1_1.length c1_1] 28 (0,0)) (by refine kX ?_;refine blk_far ?_ NB153_157.out _;refine kX ?_;refine blk_far ?_ NB153_157.out _;exact kX BK153.out) hb);have n3_ := mk0 (blk_below (g := gb154) (o := .cells #[.int .i64 0,.slice none 0 0] 28 (0,0)) (by refine kX ?_;refine blk_far ?_ NB154_157.out _;refine kX ?_;refine blk_far ?_ NB154_157.out _;exact kX BK154.out) hb);have n4_ := mk0 (blk_below (g := gb157) (o := .cells #[.int .i64 (wrap64 (a0_0 + (wrap64 (a2 * a1_0)))),.slice none 0 0] 28 (0,0)) (by refine kX ?_;refine blk_put (cs := #[.int .i64 (wrap64 (a0_0 + (wrap64 (a2 * a1_0)))),.slice none 0 0]) ?_ 1 _ rfl;refine kX ?_;refine blk_put (cs := #[.int .i64 0,.slice none 0 0]) ?_ 0 _ rfl;exact kX BK157.out) hb);have n5_ := mk0 (below_step q_ hb);clear BK152;clear BK153;clear BK154;clear BK157;clear HB;have HO160 := n0_;have BK152 := n1_;have BK153 := n2_;have BK154 := n3_;have BK157 := n4_;have HB := n5_;clear q_ n0_ n1_ n2_ n3_ n4_ n5_;(try clear hb);(try clear hb2);(try clear hk);(try clear hi);(try clear ho0)))
    go_loopg [10] kj3 (fun kq v10 w' => ∃ (x10_2 : Int) (x158001_2 : List (S70)) (u158001 : Value),v10 = .int .i64 x10_2 ∧ Aside0 (spec_l8Sum.l0 kq a2 t158 x10_2 a0_0 l0_1 a1_0 l1_1 (wrap64 (a0_0 + (wrap64 (a2 * a1_0)))) x158001_2 = some (r1,r2,r3)) ∧ Aside0 (kq ≤ kj3) ∧ Aside0 (Kd.R Kd.string 9 w' w.heap.size (fun _ => True) v159 t158) ∧ Aside0 (Kd.R k70 70 w' w.heap.size (fun _ => True) u158001 x158001_2) ∧ Aside0 (w'.heap[gb152]? = some (.cells #[.int .i64 a0_0,(.slice A0_1 l0_1.length c0_1)] 28 (0,0))) ∧ Aside0 (w'.heap[gb153]? = some (.cells #[.int .i64 a1_0,(.slice A1_1 l1_1.length c1_1)] 28 (0,0))) ∧ Aside0 (w'.heap[gb154]? = some (.cells #[.int .i64 0,(.slice none 0 0)] 28 (0,0))) ∧ Aside0 (w'.heap[gb157]? = some (.cells #[.int .i64 (wrap64 (a0_0 + (wrap64 (a2 * a1_0)))),u158001] 28 (0,0))) ∧ Aside0 (Below w.heap.size w w'))
    case atStart => exact ⟨(0),(([] : List (S70))),(.slice none 0 0),(by first|rfl|(simp;done)|(simp [*];done)),H',⟨Nat.le_refl _⟩,⟨by refine rX ?_;exact HO160.out⟩,⟨by first|exact Kd.R_nil _ _ _ _ _|exact Kd.N_nil _ _ _ _ _|exact Kd.V_nil _ _ _ _ _|exact Kd.Q_nil _ _ _ _ _|exact Kd.S_nil _ _ _ _ _⟩,⟨by refine kX ?_;exact BK152.out⟩,⟨by refine kX ?_;exact BK153.out⟩,⟨by refine kX ?_;exact BK154.out⟩,⟨by refine kX ?_;exact BK157.out⟩,⟨by repeat (first|(with_reducible first|exact HB.out|apply bA|apply bN|apply bD|refine bS ?_ GE152.out|refine bS ?_ GE153.out|refine bS ?_ GE154.out|refine bS ?_ GE157.out)|exact HB.out)⟩⟩
    case round =>
     clear H'
     try clear c1
     try clear c2
     try clear p2
     try clear c3
     try clear p6
     try clear c7
     try clear c9
     try clear c11
     try clear c12
     try clear c15
     try clear c18
     try clear c19
     try clear c22
     try clear c23
     try clear c24
     try clear c27
     try clear c28
     try clear c30
     try clear c33
     try clear c34
     try clear c35
     try clear c38
     try clear z13
     try clear z16
     try clear z20
     try clear z25
     try clear z29
     try clear z31
     try clear z36
     try clear z37
     try clear z38
     try clear z13
     try clear z16
     try clear z20
     try clear z25
     try clear z29
     try clear z31
     try clear z36
     try clear z37
     try clear z38
     try clear p2
     obtain ⟨x10_2,x158001_2,u158001,rfl,HA,HK2,HO_9,HO_158001,BK152,BK153,BK154,BK157,HB⟩ := hrel
     cases gk with
         |zero => exact absurd HA.out (by simp [spec_l8Sum.l0])
         |succ k2 =>
      have H := HA.out
      clear HA
      simp only [spec_l8Sum.l0] at H
      by_cases c40 : x10_2 < (t158.length : Int)
      ·rw [if_pos c40] at H
       have c40b0 : decide (x10_2 < (t158.length : Int)) = true := decide_eq_true c40
       clear c40
       by_cases c41 : 0 ≤ x10_2
       ·rw [if_pos c41] at H
        have c41b0 : decide (0 ≤ x10_2) = true := decide_eq_true c41
        clear c41
        obtain ⟨t163,A42,H⟩ := bindA H
        obtain ⟨t165,A43,H⟩ := bindA H
        by_cases c44 : (wrap64 (t163 + (wrap64 (a2 * t165)))) = 0
        ·rw [if_pos c44] at H
         have c44b0 : ((wrap64 (t163 + (wrap64 (a2 * t165)))) == 0) = true := beq_iff_eq.mpr c44
         have c44b1 : ((wrap64 (t163 + (wrap64 (a2 * t165)))) != 0) = false := bne_eq_false_iff_eq.mpr c44
         clear c44
         have H' := mk0 H
         clear H
         obtain ⟨Ao45,co45,eo45⟩ := Kd.R_slice HO_9.out
         subst eo45
         try go_wp2
         have n0_ := mk0 (Kd.R_drew HO_9.out)
         have n1_ := mk0 (Kd.R_drew HO_158001.out)
         have n2_ := mk0 (kD BK152.out)
         have n3_ := mk0 (kD BK153.out)
         have n4_ := mk0 (kD BK154.out)
         have n5_ := mk0 (kD BK157.out)
         have n6_ := mk0 (bD HB.out)
         clear HO_9
         clear HO_158001
         clear BK152
         clear BK153
         clear BK154
         clear BK157
         clear HB
         have HO_9 := n0_
         have HO_158001 := n1_
         have BK152 := n2_
         have BK153 := n3_
         have BK154 := n4_
         have BK157 := n5_
         have HB := n6_
         clear n0_ n1_ n2_ n3_ n4_ n5_ n6_
         have p162 : 0 ≤ (x10_2 : Int) := of_decide_eq_true (by first|(with_reducible assumption)|assumption)
         have q162 : x10_2 < (t158.length : Int) := of_decide_eq_true (by first|(with_reducible assumption)|assumption)
         obtain ⟨ad162,e162,hx162_0⟩ := Kd.at_string (Kd.R_reads' HO_9.out).2.2 x10_2 p162 q162
         cases e162
         replace p162 := eq_true p162
         replace q162 := eq_true q162
         have p164 : 0 ≤ (x10_2 : Int) := of_decide_eq_true (by first|(with_reducible assumption)|assumption)
         have q164 : x10_2 < (t158.length : Int) := of_decide_eq_true (by first|(with_reducible assumption)|assumption)
         obtain ⟨ad164,e164,hx164_0⟩ := Kd.at_string (Kd.R_reads' HO_9.out).2.2 x10_2 p164 q164
         obtain rfl : ad162 = ad164 := (by injection e164)
         replace p164 := eq_true p164
         replace q164 := eq_true q164
         refine start_ (n := 16) (S := fun w' => w'.cell? ⟨gb152,0,none⟩ = some (.int .i64 a0_0) ∧ w'.cell? ⟨gb152,1,none⟩ = some (.slice A0_1 l0_1.length c0_1) ∧ w'.cell? ⟨gb153,0,none⟩ = some (.int .i64 a1_0) ∧ w'.cell? ⟨gb153,1,none⟩ = some (.slice A1_1 l1_1.length c1_1) ∧ w'.cell? (ad162.add (x10_2).toNat) = some (.string (rdOf ByteArray.empty t158 x10_2)) ∧ w'.cell? (ad162.add (x10_2).toNat) = some (.string (rdOf ByteArray.empty t158 x10_2))) (ds := []) #[false,false,false,false,false,false,false,false,false,false,false,false,false,false,false,false] (by kernel_rfl) rfl rfl ⟨(blk_cell BK152.out 0).trans rfl,(blk_cell BK152.out 1).trans rfl,(blk_cell BK153.out 0).trans rfl,(blk_cell BK153.out 1).trans rfl,hx162_0,hx164_0⟩ (fun hHeld => ?_);refine with_tabW spec_l8Sum.tab8 spec_l8Sum.bits8 (fun HT_ HW_ => ?_)
         generalize wr.drew = w46 at HO_9 HO_158001 BK152 BK153 BK154 BK157 HB hx162_0 hx164_0 hHeld ⊢
         refine pure_ (i := 1) (N := some 39) (v := ?_) (a' := ?_) #[false,true,false,false,false,false,false,false,false,false,false,false,false,false,false,false] rfl rfl (any_of HT_.out (by kernel_rfl)) (fun _ _ _ h => h) (Or.inl ⟨by rfl,?_⟩) ?_ ?_
         rotate_left
         ·intro w'
          go_simp
          with_reducible rfl
         rotate_left
         ·simp only [Act.put,List.setIfInBounds_toArray,List.set_cons_zero,List.set_cons_succ,i64_w,i32_w]
          rfl
         refine pure_ (i := 2) (N := some 40) (v := ?_) (a' := ?_) #[false,true,true,false,false,false,false,false,false,false,false,false,false,false,false,false] rfl rfl (any_of HT_.out (by kernel_rfl)) (fun _ _ _ h => h) (Or.inl ⟨by rfl,?_⟩) ?_ ?_
         rotate_left
         ·intro w'
          go_simp
          with_reducible rfl
         rotate_left
         ·simp only [Act.put,List.setIfInBounds_toArray,List.set_cons_zero,List.set_cons_succ,i64_w,i32_w]
          rfl
         refine pure_ (i := 3) (N := some 41) (v := ?_) (a' := ?_) #[false,true,true,true,false,false,false,false,false,false,false,false,false,false,false,false] rfl rfl (any_of HT_.out (by kernel_rfl)) (fun _ _ _ h => h) (Or.inl ⟨by rfl,?_⟩) ?_ ?_
         rotate_left
         ·intro w'
          go_simp
          with_reducible rfl
         rotate_left
         ·simp only [Act.put,List.setIfInBounds_toArray,List.set_cons_zero,List.set_cons_succ,i64_w,i32_w]
          rfl
         refine pure_ (i := 6) (N := some 44) (v := ?_) (a' := ?_) #[false,true,true,true,false,false,true,false,false,false,false,false,false,false,false,false] rfl rfl (any_of HT_.out (by kernel_rfl)) (fun _ _ _ h => h) (Or.inl ⟨by rfl,?_⟩) ?_ ?_
         rotate_left
         ·intro w'
          go_simp
          with_reducible rfl
         rotate_left
         ·simp only [Act.put,List.setIfInBounds_toArray,List.set_cons_zero,List.set_cons_succ,i64_w,i32_w]
          rfl
         refine pure_ (i := 8) (N := some 46) (v := ?_) (a' := ?_) #[false,true,true,true,false,false,true,false,true,false,false,false,false,false,false,false] rfl rfl (any_of HT_.out (by kernel_rfl)) (fun _ _ _ h => h) (Or.inl ⟨by rfl,?_⟩) ?_ ?_
         rotate_left
         ·intro w'
          go_simp
          with_reducible rfl
         rotate_left
         ·simp only [Act.put,List.setIfInBounds_toArray,List.set_cons_zero,List.set_cons_succ,i64_w,i32_w]
          rfl
         refine pure_ (i := 9) (N := some 47) (v := ?_) (a' := ?_) #[false,true,true,true,false,false,true,false,true,true,false,false,false,false,false,false] rfl rfl (any_of HT_.out (by kernel_rfl)) (fun _ _ _ h => h) (Or.inl ⟨by rfl,?_⟩) ?_ ?_
         rotate_left
         ·intro w'
          go_simp
          with_reducible rfl
         rotate_left
         ·simp only [Act.put,List.setIfInBounds_toArray,List.set_cons_zero,List.set_cons_succ,i64_w,i32_w]
          rfl
         refine pure_ (i := 10) (N := some 48) (v := ?_) (a' := ?_) #[false,true,true,true,false,false,true,false,true,true,true,false,false,false,false,false] rfl rfl (any_of HT_.out (by kernel_rfl)) (fun _ _ _ h => h) (Or.inl ⟨by rfl,?_⟩) ?_ ?_
         rotate_left
         ·intro w'
          go_simp
          with_reducible rfl
         rotate_left
         ·simp only [Act.put,List.setIfInBounds_toArray,List.set_cons_zero,List.set_cons_succ,i64_w,i32_w]
          rfl
         refine take_ (i := 0) (N := some 38) (v := ?_) (a' := ?_) #[true,true,true,true,false,false,true,false,true,true,true,false,false,false,false,false] rfl rfl (take_ofW HT_.out HW_.out (by kernel_rfl)) (fun _ _ _ h => h) (Or.inl ⟨by rfl,?_⟩) hHeld ?_ ?_
         rotate_left
         ·rintro w' ⟨s0,s1,s2,s3,s4,s5⟩
          go_simp
          with_reducible rfl
         rotate_left
         ·simp only [Act.put,List.setIfInBounds_toArray,List.set_cons_zero,List.set_cons_succ,i64_w,i32_w]
          rfl
         refine take_ (i := 4) (N := some 42) (v := ?_) (a' := ?_) #[true,true,true,true,true,false,true,false,true,true,true,false,false,false,false,false] rfl rfl (take_ofW HT_.out HW_.out (by kernel_rfl)) (fun _ _ _ h => h) (Or.inl ⟨by rfl,?_⟩) hHeld ?_ ?_
         rotate_left
         ·rintro w' ⟨s0,s1,s2,s3,s4,s5⟩
          go_simp
          with_reducible rfl
         rotate_left
         ·simp only [Act.put,List.setIfInBounds_toArray,List.set_cons_zero,List.set_cons_succ,i64_w,i32_w]
          rfl
         refine take_ (i := 7) (N := some 45) (v := ?_) (a' := ?_) #[true,true,true,true,true,false,true,true,true,true,true,false,false,false,false,false] rfl rfl (take_ofW HT_.out HW_.out (by kernel_rfl)) (fun _ _ _ h => h) (Or.inl ⟨by rfl,?_⟩) hHeld ?_ ?_
         rotate_left
         ·rintro w' ⟨s0,s1,s2,s3,s4,s5⟩
          go_simp
          with_reducible rfl
         rotate_left
         ·simp only [Act.put,List.setIfInBounds_toArray,List.set_cons_zero,List.set_cons_succ,i64_w,i32_w]
          rfl
         refine take_ (i := 11) (N := some 49) (v := ?_) (a' := ?_) #[true,true,true,true,true,false,true,true,true,true,true,true,false,false,false,false] rfl rfl (take_ofW HT_.out HW_.out (by kernel_rfl)) (fun _ _ _ h => h) (Or.inl ⟨by rfl,?_⟩) hHeld ?_ ?_
         rotate_left
         ·rintro w' ⟨s0,s1,s2,s3,s4,s5⟩
          go_simp
          with_reducible rfl
         rotate_left
         ·simp only [Act.put,List.setIfInBounds_toArray,List.set_cons_zero,List.set_cons_succ,i64_w,i32_w]
          rfl
         refine one_ (i := 5) (N := some 43) #[true,true,true,true,true,true,true,true,true,true,true,true,false,false,false,false] rfl rfl (one_of HT_.out (by kernel_rfl)) (by decide) (fun K hK => ?_)
         refine goes_ Try.func29 (by kernel_rfl) rfl #[.agg #[.int .i64 a0_0,.slice A0_1 l0_1.length c0_1],.string (rdOf ByteArray.empty t158 x10_2)] (by rfl) rfl rfl (by (try simp only [List.map_toArray,List.map_cons,List.map_nil]);first|done|rfl) ?_
         with_reducible refine (spec_CoefOf.calls k2 a0_0 _ _ l0_1 (rdOf ByteArray.empty t158 x10_2) t163 _ ?side1 ?side2 A42.out).mono ?_
         (case side1 => repeat (first|exact (Kd.C_below HR0_1.out HB.out)|(with_reducible refine cA ?_ _)|(with_reducible refine cN ?_ _)|(with_reducible refine cD ?_)))
         (case side2 => exact HC0_1.out)
         rintro e w47 ⟨rfl,hb⟩
         have HS4_ := (hb.cell (World.block_lt_of_cell? _ _ (hHeld.2.2.2.2.1))).trans (hHeld.2.2.2.2.1)
         have HS5_ := (hb.cell (World.block_lt_of_cell? _ _ (hHeld.2.2.2.2.2))).trans (hHeld.2.2.2.2.2)
         refine ⟨_,rfl,?_⟩
         have n0_ := mk0 (Kd.R_below (by exact rX HO_9.out) hb)
         have n1_ := mk0 (Kd.R_below (by exact rX HO_158001.out) hb)
         have n2_ := mk0 (blk_below (by exact kX BK152.out) hb)
         have n3_ := mk0 (blk_below (by exact kX BK153.out) hb)
         have n4_ := mk0 (blk_below (by exact kX BK154.out) hb)
         have n5_ := mk0 (blk_below (by exact kX BK157.out) hb)
         have n6_ := mk0 (below_step (by repeat (first|(with_reducible first|exact HB.out|apply bA|apply bN|apply bD|refine bS ?_ GE152.out|refine bS ?_ GE153.out|refine bS ?_ GE154.out|refine bS ?_ GE157.out)|exact HB.out)) hb)
         clear HO_9
         clear HO_158001
         clear BK152
         clear BK153
         clear BK154
         clear BK157
         clear HB
         have HO_9 := n0_
         have HO_158001 := n1_
         have BK152 := n2_
         have BK153 := n3_
         have BK154 := n4_
         have BK157 := n5_
         have HB := n6_
         clear n0_ n1_ n2_ n3_ n4_ n5_ n6_
         (try clear hb)
         (try clear hb2)
         (try clear hk)
         (try clear hi)
         refine hK.out _ _ ⟨(blk_cell BK152.out 0).trans rfl,(blk_cell BK152.out 1).trans rfl,(blk_cell BK153.out 0).trans rfl,(blk_cell BK153.out 1).trans rfl,HS4_,HS5_⟩ (fun hHeld => ?_)
         clear hK K
         refine norm_ (a' := ?_) ?_ ?_
         rotate_left
         ·show Act.put _ (some 43) _ = _
          simp only [Act.put,List.setIfInBounds_toArray,List.set_cons_zero,List.set_cons_succ,i64_w,i32_w]
          rfl
         refine one_ (i := 12) (N := some 50) #[true,true,true,true,true,true,true,true,true,true,true,true,true,false,false,false] rfl rfl (one_of HT_.out (by kernel_rfl)) (by decide) (fun K hK => ?_)
         refine goes_ Try.func29 (by kernel_rfl) rfl #[.agg #[.int .i64 a1_0,.slice A1_1 l1_1.length c1_1],.string (rdOf ByteArray.empty t158 x10_2)] (by rfl) rfl rfl (by (try simp only [List.map_toArray,List.map_cons,List.map_nil]);first|done|rfl) ?_
         with_reducible refine (spec_CoefOf.calls k2 a1_0 _ _ l1_1 (rdOf ByteArray.empty t158 x10_2) t165 _ ?side1 ?side2 A43.out).mono ?_
         (case side1 => repeat (first|exact (Kd.C_below HR1_1.out HB.out)|(with_reducible refine cA ?_ _)|(with_reducible refine cN ?_ _)|(with_reducible refine cD ?_)))
         (case side2 => exact HC1_1.out)
         rintro e w48 ⟨rfl,hb⟩
         have HS4_ := (hb.cell (World.block_lt_of_cell? _ _ (hHeld.2.2.2.2.1))).trans (hHeld.2.2.2.2.1)
         have HS5_ := (hb.cell (World.block_lt_of_cell? _ _ (hHeld.2.2.2.2.2))).trans (hHeld.2.2.2.2.2)
         refine ⟨_,rfl,?_⟩
         have n0_ := mk0 (Kd.R_below (by exact rX HO_9.out) hb)
         have n1_ := mk0 (Kd.R_below (by exact rX HO_158001.out) hb)
         have n2_ := mk0 (blk_below (by exact kX BK152.out) hb)
         have n3_ := mk0 (blk_below (by exact kX BK153.out) hb)
         have n4_ := mk0 (blk_below (by exact kX BK154.out) hb)
         have n5_ := mk0 (blk_below (by exact kX BK157.out) hb)
         have n6_ := mk0 (below_step (by repeat (first|(with_reducible first|exact HB.out|apply bA|apply bN|apply bD|refine bS ?_ GE152.out|refine bS ?_ GE153.out|refine bS ?_ GE154.out|refine bS ?_ GE157.out)|exact HB.out)) hb)
         clear HO_9
         clear HO_158001
         clear BK152
         clear BK153
         clear BK154
         clear BK157
         clear HB
         have HO_9 := n0_
         have HO_158001 := n1_
         have BK152 := n2_
         have BK153 := n3_
         have BK154 := n4_
         have BK157 := n5_
         have HB := n6_
         clear n0_ n1_ n2_ n3_ n4_ n5_ n6_
         (try clear hb)
         (try clear hb2)
         (try clear hk)
         (try clear hi)
         refine hK.out _ _ ⟨(blk_cell BK152.out 0).trans rfl,(blk_cell BK152.out 1).trans rfl,(blk_cell BK153.out 0).trans rfl,(blk_cell BK153.out 1).trans rfl,HS4_,HS5_⟩ (fun hHeld => ?_)
         clear hK K
         refine norm_ (a' := ?_) ?_ ?_
         rotate_left
         ·show Act.put _ (some 50) _ = _
          simp only [Act.put,List.setIfInBounds_toArray,List.set_cons_zero,List.set_cons_succ,i64_w,i32_w]
          rfl
         refine pure_ (i := 13) (N := some 51) (v := ?_) (a' := ?_) #[true,true,true,true,true,true,true,true,true,true,true,true,true,true,false,false] rfl rfl (any_of HT_.out (by kernel_rfl)) (fun _ _ _ h => h) (Or.inl ⟨by rfl,?_⟩) ?_ ?_
         rotate_left
         ·intro w'
          go_simp
          with_reducible rfl
         rotate_left
         ·simp only [Act.put,List.setIfInBounds_toArray,List.set_cons_zero,List.set_cons_succ,i64_w,i32_w]
          rfl
         refine pure_ (i := 14) (N := some 52) (v := ?_) (a' := ?_) #[true,true,true,true,true,true,true,true,true,true,true,true,true,true,true,false] rfl rfl (any_of HT_.out (by kernel_rfl)) (fun _ _ _ h => h) (Or.inl ⟨by rfl,?_⟩) ?_ ?_
         rotate_left
         ·intro w'
          go_simp
          with_reducible rfl
         rotate_left
         ·simp only [Act.put,List.setIfInBounds_toArray,List.set_cons_zero,List.set_cons_succ,i64_w,i32_w]
          rfl
         refine pure_ (i := 15) (N := some 11) (v := ?_) (a' := ?_) #[true,true,true,true,true,true,true,true,true,true,true,true,true,true,true,true] rfl rfl (any_of HT_.out (by kernel_rfl)) (fun _ _ _ h => h) (Or.inl ⟨by rfl,?_⟩) ?_ ?_
         rotate_left
         ·intro w'
          go_simp
          with_reducible rfl
         rotate_left
         ·simp only [Act.put,List.setIfInBounds_toArray,List.set_cons_zero,List.set_cons_succ,i64_w,i32_w]
          rfl
         refine done_ (done_of HT_.out (by kernel_rfl)) ?_
         try go_wp2
         go_roundg k2
         case measure => have := HJ3.out;have := HK2.out;omega
         case rel => exact ⟨(wrap64 (x10_2 + 1)),(x158001_2),(u158001),(by first|rfl|(simp;done)|(simp [*];done)),H',⟨by have := HJ3.out;have := HK2.out;omega⟩,⟨by refine rX ?_;exact HO_9.out⟩,⟨by refine rX ?_;exact HO_158001.out⟩,⟨by refine kX ?_;exact BK152.out⟩,⟨by refine kX ?_;exact BK153.out⟩,⟨by refine kX ?_;exact BK154.out⟩,⟨by refine kX ?_;exact BK157.out⟩,⟨by repeat (first|(with_reducible first|exact HB.out|apply bA|apply bN|apply bD|refine bS ?_ GE152.out|refine bS ?_ GE153.out|refine bS ?_ GE154.out|refine bS ?_ GE157.out)|exact HB.out)⟩⟩
        ·rw [if_neg c44] at H
         have c44b0 : ((wrap64 (t163 + (wrap64 (a2 * t165)))) == 0) = false := beq_eq_false_iff_ne.mpr c44
         have c44b1 : ((wrap64 (t163 + (wrap64 (a2 * t165)))) != 0) = true := bne_iff_ne.mpr c44
         by_cases c49 : x158001_2.length < 5864062014805
         ·rw [if_pos c49] at H
          have LMc49 := mk0 c49
          clear c49
          obtain ⟨y167,hy167⟩ : ∃ y_ : List (S70),y_ = (x158001_2 ++ [(⟨rdOf ByteArray.empty t158 x10_2,wrap64 (t163 + (wrap64 (a2 * t165)))⟩ : S70)]) := ⟨_,rfl⟩
          replace H : (spec_l8Sum.l0 k2 a2 t158 (wrap64 (x10_2 + 1)) a0_0 l0_1 a1_0 l1_1 (wrap64 (a0_0 + (wrap64 (a2 * a1_0)))) y167) = some (r1,r2,r3) := by first|(rw [hy167];with_reducible exact H)|(have H2_ := (Option.bind_some _ _).symm.trans H;rw [hy167];with_reducible exact H2_)|(have H2_ := (Option.bind_some _ _).symm.trans H;with_reducible exact H2_)|with_reducible exact H|(rw [hy167];exact H)|exact H
          have Ny167 := mk0 hy167
          clear hy167
          have H' := mk0 H
          clear H
          obtain ⟨Ao50,co50,eo50⟩ := Kd.R_slice HO_9.out
          subst eo50
          try go_wp2
          have n0_ := mk0 (Kd.R_drew HO_9.out)
          have n1_ := mk0 (Kd.R_drew HO_158001.out)
          have n2_ := mk0 (kD BK152.out)
          have n3_ := mk0 (kD BK153.out)
          have n4_ := mk0 (kD BK154.out)
          have n5_ := mk0 (kD BK157.out)
          have n6_ := mk0 (bD HB.out)
          clear HO_9
          clear HO_158001
          clear BK152
          clear BK153
          clear BK154
          clear BK157
          clear HB
          have HO_9 := n0_
          have HO_158001 := n1_
          have BK152 := n2_
          have BK153 := n3_
          have BK154 := n4_
          have BK157 := n5_
          have HB := n6_
          clear n0_ n1_ n2_ n3_ n4_ n5_ n6_
          have p162 : 0 ≤ (x10_2 : Int) := of_decide_eq_true (by first|(with_reducible assumption)|assumption)
          have q162 : x10_2 < (t158.length : Int) := of_decide_eq_true (by first|(with_reducible assumption)|assumption)
          obtain ⟨ad162,e162,hx162_0⟩ := Kd.at_string (Kd.R_reads' HO_9.out).2.2 x10_2 p162 q162
          cases e162
          replace p162 := eq_true p162
          replace q162 := eq_true q162
          have p164 : 0 ≤ (x10_2 : Int) := of_decide_eq_true (by first|(with_reducible assumption)|assumption)
          have q164 : x10_2 < (t158.length : Int) := of_decide_eq_true (by first|(with_reducible assumption)|assumption)
          obtain ⟨ad164,e164,hx164_0⟩ := Kd.at_string (Kd.R_reads' HO_9.out).2.2 x10_2 p164 q164
          obtain rfl : ad162 = ad164 := (by injection e164)
          replace p164 := eq_true p164
          replace q164 := eq_true q164
          refine start_ (n := 16) (S := fun w' => w'.cell? ⟨gb152,0,none⟩ = some (.int .i64 a0_0) ∧ w'.cell? ⟨gb152,1,none⟩ = some (.slice A0_1 l0_1.length c0_1) ∧ w'.cell? ⟨gb153,0,none⟩ = some (.int .i64 a1_0) ∧ w'.cell? ⟨gb153,1,none⟩ = some (.slice A1_1 l1_1.length c1_1) ∧ w'.cell? (ad162.add (x10_2).toNat) = some (.string (rdOf ByteArray.empty t158 x10_2)) ∧ w'.cell? (ad162.add (x10_2).toNat) = some (.string (rdOf ByteArray.empty t158 x10_2))) (ds := []) #[false,false,false,false,false,false,false,false,false,false,false,false,false,false,false,false] (by kernel_rfl) rfl rfl ⟨(blk_cell BK152.out 0).trans rfl,(blk_cell BK152.out 1).trans rfl,(blk_cell BK153.out 0).trans rfl,(blk_cell BK153.out 1).trans rfl,hx162_0,hx164_0⟩ (fun hHeld => ?_);refine with_tabW spec_l8Sum.tab8 spec_l8Sum.bits8 (fun HT_ HW_ => ?_)
          generalize wr.drew = w51 at HO_9 HO_158001 BK152 BK153 BK154 BK157 HB hx162_0 hx164_0 hHeld ⊢
          refine pure_ (i := 1) (N := some 39) (v := ?_) (a' := ?_) #[false,true,false,false,false,false,false,false,false,false,false,false,false,false,false,false] rfl rfl (any_of HT_.out (by kernel_rfl)) (fun _ _ _ h => h) (Or.inl ⟨by rfl,?_⟩) ?_ ?_
          rotate_left
          ·intro w'
           go_simp
           with_reducible rfl
          rotate_left
          ·simp only [Act.put,List.setIfInBounds_toArray,List.set_cons_zero,List.set_cons_succ,i64_w,i32_w]
           rfl
          refine pure_ (i := 2) (N := some 40) (v := ?_) (a' := ?_) #[false,true,true,false,false,false,false,false,false,false,false,false,false,false,false,false] rfl rfl (any_of HT_.out (by kernel_rfl)) (fun _ _ _ h => h) (Or.inl ⟨by rfl,?_⟩) ?_ ?_
          rotate_left
          ·intro w'
           go_simp
           with_reducible rfl
          rotate_left
          ·simp only [Act.put,List.setIfInBounds_toArray,List.set_cons_zero,List.set_cons_succ,i64_w,i32_w]
           rfl
          refine pure_ (i := 3) (N := some 41) (v := ?_) (a' := ?_) #[false,true,true,true,false,false,false,false,false,false,false,false,false,false,false,false] rfl rfl (any_of HT_.out (by kernel_rfl)) (fun _ _ _ h => h) (Or.inl ⟨by rfl,?_⟩) ?_ ?_
          rotate_left
          ·intro w'
           go_simp
           with_reducible rfl
          rotate_left
          ·simp only [Act.put,List.setIfInBounds_toArray,List.set_cons_zero,List.set_cons_succ,i64_w,i32_w]
           rfl
          refine pure_ (i := 6) (N := some 44) (v := ?_) (a' := ?_) #[false,true,true,true,false,false,true,false,false,false,false,false,false,false,false,false] rfl rfl (any_of HT_.out (by kernel_rfl)) (fun _ _ _ h => h) (Or.inl ⟨by rfl,?_⟩) ?_ ?_
          rotate_left
          ·intro w'
           go_simp
           with_reducible rfl
          rotate_left
          ·simp only [Act.put,List.setIfInBounds_toArray,List.set_cons_zero,List.set_cons_succ,i64_w,i32_w]
           rfl
          refine pure_ (i := 8) (N := some 46) (v := ?_) (a' := ?_) #[false,true,true,true,false,false,true,false,true,false,false,false,false,false,false,false] rfl rfl (any_of HT_.out (by kernel_rfl)) (fun _ _ _ h => h) (Or.inl ⟨by rfl,?_⟩) ?_ ?_
          rotate_left
          ·intro w'
           go_simp
           with_reducible rfl
          rotate_left
          ·simp only [Act.put,List.setIfInBounds_toArray,List.set_cons_zero,List.set_cons_succ,i64_w,i32_w]
           rfl
          refine pure_ (i := 9) (N := some 47) (v := ?_) (a' := ?_) #[false,true,true,true,false,false,true,false,true,true,false,false,false,false,false,false] rfl rfl (any_of HT_.out (by kernel_rfl)) (fun _ _ _ h => h) (Or.inl ⟨by rfl,?_⟩) ?_ ?_
          rotate_left
          ·intro w'
           go_simp
           with_reducible rfl
          rotate_left
          ·simp only [Act.put,List.setIfInBounds_toArray,List.set_cons_zero,List.set_cons_succ,i64_w,i32_w]
           rfl
          refine pure_ (i := 10) (N := some 48) (v := ?_) (a' := ?_) #[false,true,true,true,false,false,true,false,true,true,true,false,false,false,false,false] rfl rfl (any_of HT_.out (by kernel_rfl)) (fun _ _ _ h => h) (Or.inl ⟨by rfl,?_⟩) ?_ ?_
          rotate_left
          ·intro w'
           go_simp
           with_reducible rfl
          rotate_left
          ·simp only [Act.put,List.setIfInBounds_toArray,List.set_cons_zero,List.set_cons_succ,i64_w,i32_w]
           rfl
          refine take_ (i := 0) (N := some 38) (v := ?_) (a' := ?_) #[true,true,true,true,false,false,true,false,true,true,true,false,false,false,false,false] rfl rfl (take_ofW HT_.out HW_.out (by kernel_rfl)) (fun _ _ _ h => h) (Or.inl ⟨by rfl,?_⟩) hHeld ?_ ?_
          rotate_left
          ·rintro w' ⟨s0,s1,s2,s3,s4,s5⟩
           go_simp
           with_reducible rfl
          rotate_left
          ·simp only [Act.put,List.setIfInBounds_toArray,List.set_cons_zero,List.set_cons_succ,i64_w,i32_w]
           rfl
          refine take_ (i := 4) (N := some 42) (v := ?_) (a' := ?_) #[true,true,true,true,true,false,true,false,true,true,true,false,false,false,false,false] rfl rfl (take_ofW HT_.out HW_.out (by kernel_rfl)) (fun _ _ _ h => h) (Or.inl ⟨by rfl,?_⟩) hHeld ?_ ?_
          rotate_left
          ·rintro w' ⟨s0,s1,s2,s3,s4,s5⟩
           go_simp
           with_reducible rfl
          rotate_left
          ·simp only [Act.put,List.setIfInBounds_toArray,List.set_cons_zero,List.set_cons_succ,i64_w,i32_w]
           rfl
          refine take_ (i := 7) (N := some 45) (v := ?_) (a' := ?_) #[true,true,true,true,true,false,true,true,true,true,true,false,false,false,false,false] rfl rfl (take_ofW HT_.out HW_.out (by kernel_rfl)) (fun _ _ _ h => h) (Or.inl ⟨by rfl,?_⟩) hHeld ?_ ?_
          rotate_left
          ·rintro w' ⟨s0,s1,s2,s3,s4,s5⟩
           go_simp
           with_reducible rfl
          rotate_left
          ·simp only [Act.put,List.setIfInBounds_toArray,List.set_cons_zero,List.set_cons_succ,i64_w,i32_w]
           rfl
          refine take_ (i := 11) (N := some 49) (v := ?_) (a' := ?_) #[true,true,true,true,true,false,true,true,true,true,true,true,false,false,false,false] rfl rfl (take_ofW HT_.out HW_.out (by kernel_rfl)) (fun _ _ _ h => h) (Or.inl ⟨by rfl,?_⟩) hHeld ?_ ?_
          rotate_left
          ·rintro w' ⟨s0,s1,s2,s3,s4,s5⟩
           go_simp
           with_reducible rfl
          rotate_left
          ·simp only [Act.put,List.setIfInBounds_toArray,List.set_cons_zero,List.set_cons_succ,i64_w,i32_w]
           rfl
          refine one_ (i := 5) (N := some 43) #[true,true,true,true,true,true,true,true,true,true,true,true,false,false,false,false] rfl rfl (one_of HT_.out (by kernel_rfl)) (by decide) (fun K hK => ?_)
          refine goes_ Try.func29 (by kernel_rfl) rfl #[.agg #[.int .i64 a0_0,.slice A0_1 l0_1.length c0_1],.string (rdOf ByteArray.empty t158 x10_2)] (by rfl) rfl rfl (by (try simp only [List.map_toArray,List.map_cons,List.map_nil]);first|done|rfl) ?_
          with_reducible refine (spec_CoefOf.calls k2 a0_0 _ _ l0_1 (rdOf ByteArray.empty t158 x10_2) t163 _ ?side1 ?side2 A42.out).mono ?_
          (case side1 => repeat (first|exact (Kd.C_below HR0_1.out HB.out)|(with_reducible refine cA ?_ _)|(with_reducible refine cN ?_ _)|(with_reducible refine cD ?_)))
          (case side2 => exact HC0_1.out)
          rintro e w52 ⟨rfl,hb⟩
          have HS4_ := (hb.cell (World.block_lt_of_cell? _ _ (hHeld.2.2.2.2.1))).trans (hHeld.2.2.2.2.1)
          have HS5_ := (hb.cell (World.block_lt_of_cell? _ _ (hHeld.2.2.2.2.2))).trans (hHeld.2.2.2.2.2)
          refine ⟨_,rfl,?_⟩
          have n0_ := mk0 (Kd.R_below (by exact rX HO_9.out) hb)
          have n1_ := mk0 (Kd.R_below (by exact rX HO_158001.out) hb)
          have n2_ := mk0 (blk_below (by exact kX BK152.out) hb)
          have n3_ := mk0 (blk_below (by exact kX BK153.out) hb)
          have n4_ := mk0 (blk_below (by exact kX BK154.out) hb)
          have n5_ := mk0 (blk_below (by exact kX BK157.out) hb)
          have n6_ := mk0 (below_step (by repeat (first|(with_reducible first|exact HB.out|apply bA|apply bN|apply bD|refine bS ?_ GE152.out|refine bS ?_ GE153.out|refine bS ?_ GE154.out|refine bS ?_ GE157.out)|exact HB.out)) hb)
          clear HO_9
          clear HO_158001
          clear BK152
          clear BK153
          clear BK154
          clear BK157
          clear HB
          have HO_9 := n0_
          have HO_158001 := n1_
          have BK152 := n2_
          have BK153 := n3_
          have BK154 := n4_
          have BK157 := n5_
          have HB := n6_
          clear n0_ n1_ n2_ n3_ n4_ n5_ n6_
          (try clear hb)
          (try clear hb2)
          (try clear hk)
          (try clear hi)
          refine hK.out _ _ ⟨(blk_cell BK152.out 0).trans rfl,(blk_cell BK152.out 1).trans rfl,(blk_cell BK153.out 0).trans rfl,(blk_cell BK153.out 1).trans rfl,HS4_,HS5_⟩ (fun hHeld => ?_)
          clear hK K
          refine norm_ (a' := ?_) ?_ ?_
          rotate_left
          ·show Act.put _ (some 43) _ = _
           simp only [Act.put,List.setIfInBounds_toArray,List.set_cons_zero,List.set_cons_succ,i64_w,i32_w]
           rfl
          refine one_ (i := 12) (N := some 50) #[true,true,true,true,true,true,true,true,true,true,true,true,true,false,false,false] rfl rfl (one_of HT_.out (by kernel_rfl)) (by decide) (fun K hK => ?_)
          refine goes_ Try.func29 (by kernel_rfl) rfl #[.agg #[.int .i64 a1_0,.slice A1_1 l1_1.length c1_1],.string (rdOf ByteArray.empty t158 x10_2)] (by rfl) rfl rfl (by (try simp only [List.map_toArray,List.map_cons,List.map_nil]);first|done|rfl) ?_
          with_reducible refine (spec_CoefOf.calls k2 a1_0 _ _ l1_1 (rdOf ByteArray.empty t158 x10_2) t165 _ ?side1 ?side2 A43.out).mono ?_
          (case side1 => repeat (first|exact (Kd.C_below HR1_1.out HB.out)|(with_reducible refine cA ?_ _)|(with_reducible refine cN ?_ _)|(with_reducible refine cD ?_)))
          (case side2 => exact HC1_1.out)
          rintro e w53 ⟨rfl,hb⟩
          have HS4_ := (hb.cell (World.block_lt_of_cell? _ _ (hHeld.2.2.2.2.1))).trans (hHeld.2.2.2.2.1)
          have HS5_ := (hb.cell (World.block_lt_of_cell? _ _ (hHeld.2.2.2.2.2))).trans (hHeld.2.2.2.2.2)
          refine ⟨_,rfl,?_⟩
          have n0_ := mk0 (Kd.R_below (by exact rX HO_9.out) hb)
          have n1_ := mk0 (Kd.R_below (by exact rX HO_158001.out) hb)
          have n2_ := mk0 (blk_below (by exact kX BK152.out) hb)
          have n3_ := mk0 (blk_below (by exact kX BK153.out) hb)
          have n4_ := mk0 (blk_below (by exact kX BK154.out) hb)
          have n5_ := mk0 (blk_below (by exact kX BK157.out) hb)
          have n6_ := mk0 (below_step (by repeat (first|(with_reducible first|exact HB.out|apply bA|apply bN|apply bD|refine bS ?_ GE152.out|refine bS ?_ GE153.out|refine bS ?_ GE154.out|refine bS ?_ GE157.out)|exact HB.out)) hb)
          clear HO_9
          clear HO_158001
          clear BK152
          clear BK153
          clear BK154
          clear BK157
          clear HB
          have HO_9 := n0_
          have HO_158001 := n1_
          have BK152 := n2_
          have BK153 := n3_
          have BK154 := n4_
          have BK157 := n5_
          have HB := n6_
          clear n0_ n1_ n2_ n3_ n4_ n5_ n6_
          (try clear hb)
          (try clear hb2)
          (try clear hk)
          (try clear hi)
          refine hK.out _ _ ⟨(blk_cell BK152.out 0).trans rfl,(blk_cell BK152.out 1).trans rfl,(blk_cell BK153.out 0).trans rfl,(blk_cell BK153.out 1).trans rfl,HS4_,HS5_⟩ (fun hHeld => ?_)
          clear hK K
          refine norm_ (a' := ?_) ?_ ?_
          rotate_left
          ·show Act.put _ (some 50) _ = _
           simp only [Act.put,List.setIfInBounds_toArray,List.set_cons_zero,List.set_cons_succ,i64_w,i32_w]
           rfl
          refine pure_ (i := 13) (N := some 51) (v := ?_) (a' := ?_) #[true,true,true,true,true,true,true,true,true,true,true,true,true,true,false,false] rfl rfl (any_of HT_.out (by kernel_rfl)) (fun _ _ _ h => h) (Or.inl ⟨by rfl,?_⟩) ?_ ?_
          rotate_left
          ·intro w'
           go_simp
           with_reducible rfl
          rotate_left
          ·simp only [Act.put,List.setIfInBounds_toArray,List.set_cons_zero,List.set_cons_succ,i64_w,i32_w]
           rfl
          refine pure_ (i := 14) (N := some 52) (v := ?_) (a' := ?_) #[true,true,true,true,true,true,true,true,true,true,true,true,true,true,true,false] rfl rfl (any_of HT_.out (by kernel_rfl)) (fun _ _ _ h => h) (Or.inl ⟨by rfl,?_⟩) ?_ ?_
          rotate_left
          ·intro w'
           go_simp
           with_reducible rfl
          rotate_left
          ·simp only [Act.put,List.setIfInBounds_toArray,List.set_cons_zero,List.set_cons_succ,i64_w,i32_w]
           rfl
          refine pure_ (i := 15) (N := some 11) (v := ?_) (a' := ?_) #[true,true,true,true,true,true,true,true,true,true,true,true,true,true,true,true] rfl rfl (any_of HT_.out (by kernel_rfl)) (fun _ _ _ h => h) (Or.inl ⟨by rfl,?_⟩) ?_ ?_
          rotate_left
          ·intro w'
           go_simp
           with_reducible rfl
          rotate_left
          ·simp only [Act.put,List.setIfInBounds_toArray,List.set_cons_zero,List.set_cons_succ,i64_w,i32_w]
           rfl
          refine done_ (done_of HT_.out (by kernel_rfl)) ?_
          try go_wp2
          have n0_ := mk0 (Kd.R_drew HO_9.out)
          have n1_ := mk0 (Kd.R_drew HO_158001.out)
          have n2_ := mk0 (kD BK152.out)
          have n3_ := mk0 (kD BK153.out)
          have n4_ := mk0 (kD BK154.out)
          have n5_ := mk0 (kD BK157.out)
          have n6_ := mk0 (bD HB.out)
          clear HO_9
          clear HO_158001
          clear BK152
          clear BK153
          clear BK154
          clear BK157
          clear HB
          have HO_9 := n0_
          have HO_158001 := n1_
          have BK152 := n2_
          have BK153 := n3_
          have BK154 := n4_
          have BK157 := n5_
          have HB := n6_
          clear n0_ n1_ n2_ n3_ n4_ n5_ n6_
          have p166 : 0 ≤ (x10_2 : Int) := of_decide_eq_true (by first|(with_reducible assumption)|assumption)
          have q166 : x10_2 < (t158.length : Int) := of_decide_eq_true (by first|(with_reducible assumption)|assumption)
          obtain ⟨ad166,e166,hx166_0⟩ := Kd.at_string (Kd.R_reads' HO_9.out).2.2 x10_2 p166 q166
          obtain rfl : ad162 = ad166 := (by injection e166)
          replace p166 := eq_true p166
          replace q166 := eq_true q166
          refine start_ (n := 12) (S := fun w' => w'.cell? ⟨gb157,0,none⟩ = some (.int .i64 (wrap64 (a0_0 + (wrap64 (a2 * a1_0))))) ∧ w'.cell? ⟨gb157,1,none⟩ = some (u158001) ∧ w'.cell? (ad162.add (x10_2).toNat) = some (.string (rdOf ByteArray.empty t158 x10_2))) (ds := [9,11]) #[false,false,false,false,false,false,false,false,false,false,false,false] (by kernel_rfl) rfl rfl ⟨(blk_cell BK157.out 0).trans rfl,(blk_cell BK157.out 1).trans rfl,hx166_0⟩ (fun hHeld => ?_);refine with_tabW spec_l8Sum.tab10 spec_l8Sum.bits10 (fun HT_ HW_ => ?_)
          generalize w53.drew = w54 at HO_9 HO_158001 BK152 BK153 BK154 BK157 HB hx166_0 hHeld ⊢
          refine pure_ (i := 0) (N := some 55) (v := ?_) (a' := ?_) #[true,false,false,false,false,false,false,false,false,false,false,false] rfl rfl (any_of HT_.out (by kernel_rfl)) (fun _ _ _ h => h) (Or.inl ⟨by rfl,?_⟩) ?_ ?_
          rotate_left
          ·intro w'
           go_simp
           with_reducible rfl
          rotate_left
          ·simp only [Act.put,List.setIfInBounds_toArray,List.set_cons_zero,List.set_cons_succ,i64_w,i32_w]
           rfl
          refine pure_ (i := 2) (N := some 57) (v := ?_) (a' := ?_) #[true,false,true,false,false,false,false,false,false,false,false,false] rfl rfl (any_of HT_.out (by kernel_rfl)) (fun _ _ _ h => h) (Or.inl ⟨by rfl,?_⟩) ?_ ?_
          rotate_left
          ·intro w'
           go_simp
           with_reducible rfl
          rotate_left
          ·simp only [Act.put,List.setIfInBounds_toArray,List.set_cons_zero,List.set_cons_succ,i64_w,i32_w]
           rfl
          refine pure_ (i := 3) (N := some 58) (v := ?_) (a' := ?_) #[true,false,true,true,false,false,false,false,false,false,false,false] rfl rfl (any_of HT_.out (by kernel_rfl)) (fun _ _ _ h => h) (Or.inl ⟨by rfl,?_⟩) ?_ ?_
          rotate_left
          ·intro w'
           go_simp
           with_reducible rfl
          rotate_left
          ·simp only [Act.put,List.setIfInBounds_toArray,List.set_cons_zero,List.set_cons_succ,i64_w,i32_w]
           rfl
          refine pure_ (i := 4) (N := some 59) (v := ?_) (a' := ?_) #[true,false,true,true,true,false,false,false,false,false,false,false] rfl rfl (any_of HT_.out (by kernel_rfl)) (fun _ _ _ h => h) (Or.inl ⟨by rfl,?_⟩) ?_ ?_
          rotate_left
          ·intro w'
           go_simp
           with_reducible rfl
          rotate_left
          ·simp only [Act.put,List.setIfInBounds_toArray,List.set_cons_zero,List.set_cons_succ,i64_w,i32_w]
           rfl
          refine pure_ (i := 6) (N := some 61) (v := ?_) (a' := ?_) #[true,false,true,true,true,false,true,false,false,false,false,false] rfl rfl (any_of HT_.out (by kernel_rfl)) (fun _ _ _ h => h) (Or.inl ⟨by rfl,?_⟩) ?_ ?_
          rotate_left
          ·intro w'
           go_simp
           with_reducible rfl
          rotate_left
          ·simp only [Act.put,List.setIfInBounds_toArray,List.set_cons_zero,List.set_cons_succ,i64_w,i32_w]
           rfl
          refine take_ (i := 1) (N := some 56) (v := ?_) (a' := ?_) #[true,true,true,true,true,false,true,false,false,false,false,false] rfl rfl (take_ofW HT_.out HW_.out (by kernel_rfl)) (fun _ _ _ h => h) (Or.inl ⟨by rfl,?_⟩) hHeld ?_ ?_
          rotate_left
          ·rintro w' ⟨s0,s1,s2⟩
           go_simp
           with_reducible rfl
          rotate_left
          ·simp only [Act.put,List.setIfInBounds_toArray,List.set_cons_zero,List.set_cons_succ,i64_w,i32_w]
           rfl
          refine take_ (i := 5) (N := some 60) (v := ?_) (a' := ?_) #[true,true,true,true,true,true,true,false,false,false,false,false] rfl rfl (take_ofW HT_.out HW_.out (by kernel_rfl)) (fun _ _ _ h => h) (Or.inl ⟨by rfl,?_⟩) hHeld ?_ ?_
          rotate_left
          ·rintro w' ⟨s0,s1,s2⟩
           go_simp
           with_reducible rfl
          rotate_left
          ·simp only [Act.put,List.setIfInBounds_toArray,List.set_cons_zero,List.set_cons_succ,i64_w,i32_w]
           rfl
          refine pure_ (i := 7) (N := some 62) (v := ?_) (a' := ?_) #[true,true,true,true,true,true,true,true,false,false,false,false] rfl rfl (any_of HT_.out (by kernel_rfl)) (fun _ _ _ h => h) (Or.inl ⟨by rfl,?_⟩) ?_ ?_
          rotate_left
          ·intro w'
           go_simp
           with_reducible rfl
          rotate_left
          ·simp only [Act.put,List.setIfInBounds_toArray,List.set_cons_zero,List.set_cons_succ,i64_w,i32_w]
           rfl
          refine one_ (i := 8) (N := some 63) #[true,true,true,true,true,true,true,true,true,false,false,false] rfl rfl (one_of HT_.out (by kernel_rfl)) (by decide) (fun K hK => ?_)
          refine value_ (w1 := ?_) (v := ?_) (by rfl) rfl ?_ ?_
          rotate_left 2
          ·go_simp
           constructor
           ·rfl
           ·rfl
          refine hK.out _ _ ⟨(blk_cell (kA BK157.out _) 0).trans rfl,(blk_cell (kA BK157.out _) 1).trans rfl,(World.cell?_alloc_lt _ _ _ (World.block_lt_of_cell? _ _ (hHeld.2.2))).trans (hHeld.2.2)⟩ (fun hHeld => ?_)
          clear hK K
          refine norm_ (a' := ?_) ?_ ?_
          rotate_left
          ·show Act.put _ (some 63) _ = _
           simp only [Act.put,List.setIfInBounds_toArray,List.set_cons_zero,List.set_cons_succ,i64_w,i32_w]
           rfl
          refine last_ (i := 9) (N := some 64) #[true,true,true,true,true,true,true,true,true,true,false,false] rfl rfl (one_of HT_.out (by kernel_rfl)) (by decide) (fun K hK => ?_)
          refine Kd.R_append_step k70 (w0 := w) w.heap.size (by rfl) (.tmp 56) (.tmp 63) 26 70 (.agg #[(.string ⟨#[]⟩),(.int .i64 0)]) 24 rfl Try.underlying26 info70 rfl (by decide) (by omega) u158001 x158001_2 (⟨rdOf ByteArray.empty t158 x10_2,wrap64 (t163 + (wrap64 (a2 * t165)))⟩ : S70) [.string (rdOf ByteArray.empty t158 x10_2),.int .i64 (wrap64 (t163 + (wrap64 (a2 * t165))))] (fun _ => True) (fun _ => False) rfl rfl ?aP (fun _ hk => hk.elim) ?aF ?aO ?aB ?aS ?aL ?_
          (case aP => exact k70_mkM _ _ _ (⟨rdOf ByteArray.empty t158 x10_2,wrap64 (t163 + (wrap64 (a2 * t165)))⟩ : S70))
          (case aB => exact (by repeat (first|(with_reducible first|exact HB.out|apply bA|apply bN|apply bD|refine bS ?_ GE152.out|refine bS ?_ GE153.out|refine bS ?_ GE154.out|refine bS ?_ GE157.out)|exact HB.out)))
          (case aF => exact (fun _ _ => trivial))
          (case aO => exact (by exact rX HO_158001.out))
          (case aS => exact (below_size (by repeat (first|(with_reducible first|exact HB.out|apply bA|apply bN|apply bD|refine bS ?_ GE152.out|refine bS ?_ GE153.out|refine bS ?_ GE154.out|refine bS ?_ GE157.out)|exact HB.out))))
          (case aL => have := LMc49.out;omega)
          intro v168 w55 ho hb hg hat
          rw [← Ny167.out] at ho
          have n0_ := mk0 (Kd.R_over' (by exact rX HO_9.out) (Kd.R_typed (by exact rX HO_158001.out)) (by decide) hg)
          have n1_ := mk0 (blk_grown (by exact kX BK152.out) hg (Kd.R_ne HO_158001.out BK152.out (by decide)))
          have n2_ := mk0 (blk_grown (by exact kX BK153.out) hg (Kd.R_ne HO_158001.out BK153.out (by decide)))
          have n3_ := mk0 (blk_grown (by exact kX BK154.out) hg (Kd.R_ne HO_158001.out BK154.out (by decide)))
          have n4_ := mk0 (blk_grown (by exact kX BK157.out) hg (Kd.R_ne HO_158001.out BK157.out (by decide)))
          have n5_ := mk0 (hb)
          have n6_ := mk0 (ho)
          clear HO_9
          clear BK152
          clear BK153
          clear BK154
          clear BK157
          clear HB
          clear HO_158001
          have HO_9 := n0_
          have BK152 := n1_
          have BK153 := n2_
          have BK154 := n3_
          have BK157 := n4_
          have HB := n5_
          have HO169 := n6_
          clear n0_ n1_ n2_ n3_ n4_ n5_ n6_
          clear ho hb hg hat
          obtain ⟨Ao56,co56,eo56⟩ := Kd.R_slice HO169.out
          (first|subst eo56|(injection eo56 with f1_ f2_ f3_;have f4_ := f1_.symm;have f5_ := f3_.symm;clear f1_ f2_ f3_;subst f4_;subst f5_))
          refine hK.out _ _ ?_
          clear hK K
          refine norm_ (a' := ?_) ?_ ?_
          rotate_left
          ·show Act.put _ (some 64) _ = _
           simp only [Act.put,List.setIfInBounds_toArray,List.set_cons_zero,List.set_cons_succ,i64_w,i32_w]
           rfl
          refine pure_ (i := 10) (N := some 65) (v := ?_) (a' := ?_) #[true,true,true,true,true,true,true,true,true,true,true,false] rfl rfl (any_of HT_.out (by kernel_rfl)) (fun _ _ _ h => h) (Or.inl ⟨by rfl,?_⟩) ?_ ?_
          rotate_left
          ·intro w'
           go_simp
           with_reducible rfl
          rotate_left
          ·simp only [Act.put,List.setIfInBounds_toArray,List.set_cons_zero,List.set_cons_succ,i64_w,i32_w]
           rfl
          refine last_ (i := 11) (N := none) #[true,true,true,true,true,true,true,true,true,true,true,true] rfl rfl (one_of HT_.out (by kernel_rfl)) (by decide) (fun K hK => ?_)
          have hs57 : w55.cell? ⟨gb157,1,none⟩ = some (u158001) := (blk_cell BK157.out 1).trans rfl
          have hfs57 := blk_frozen BK157.out 1
          have hns57_0 := NB152_157.out
          have hns57_1 := NB153_157.out
          have hns57_2 := NB154_157.out
          have hms57_0 := NB157_152.out
          have hms57_1 := NB157_153.out
          have hms57_2 := NB157_154.out
          refine skip_ (w1 := ?_) (by rfl) rfl ?_ ?_
          rotate_left
          ·go_simp
           rfl
          refine hK.out _ _ ?_
          clear hK K
          refine done_ (done_of HT_.out (by kernel_rfl)) ?_
          try go_wp2
          go_roundg k2
          case measure => have := HJ3.out;have := HK2.out;omega
          case rel => exact ⟨(wrap64 (x10_2 + 1)),(y167),(.slice Ao56 y167.length co56),(by first|rfl|(simp;done)|(simp [*];done)),H',⟨by have := HJ3.out;have := HK2.out;omega⟩,⟨by refine rX ?_;exact Kd.R_mono (Kd.R_far (p := ⟨gb157,1,none⟩) (Kd.R_types HO_9.out BK157.out (by decide)) (fun _ hk => hk.2) (.slice Ao56 y167.length co56)) (fun _ hk => trivial)⟩,⟨by refine rX ?_;exact Kd.R_mono (Kd.R_far (p := ⟨gb157,1,none⟩) (Kd.R_types HO169.out BK157.out (by decide)) (fun _ hk => hk.2) (.slice Ao56 y167.length co56)) (fun _ hk => trivial)⟩,⟨by refine kX ?_;refine blk_far ?_ NB152_157.out _;refine kX ?_;exact BK152.out⟩,⟨by refine kX ?_;refine blk_far ?_ NB153_157.out _;refine kX ?_;exact BK153.out⟩,⟨by refine kX ?_;refine blk_far ?_ NB154_157.out _;refine kX ?_;exact BK154.out⟩,⟨by refine kX ?_;refine blk_put (cs := #[.int .i64 (wrap64 (a0_0 + (wrap64 (a2 * a1_0)))),u158001]) ?_ 1 _ rfl;refine kX ?_;exact BK157.out⟩,⟨by repeat (first|(with_reducible first|exact HB.out|apply bA|apply bN|apply bD|refine bS ?_ GE152.out|refine bS ?_ GE153.out|refine bS ?_ GE154.out|refine bS ?_ GE157.out)|exact HB.out)⟩⟩
         ·rw [if_neg c49] at H
          exact absurd H (by simp)
       ·rw [if_neg c41] at H
        exact absurd H (by simp)
      ·rw [if_neg c40] at H
       have c40b0 : decide (x10_2 < (t158.length : Int)) = false := decide_eq_false c40
       clear c40
       obtain ⟨t161,A58,H⟩ := bindA H
       by_cases c59 : t161 = true
       ·subst c59
        rw [if_pos rfl] at H
        simp only [Option.some.injEq,Prod.mk.injEq] at H
        obtain ⟨rfl,rfl,rfl⟩ := H
        obtain ⟨Ao60,co60,eo60⟩ := Kd.R_slice HO_9.out
        subst eo60
        have hnb61 := NB157_152.out
        have hnc61 := NB152_157.out
        have hnb62 := NB157_153.out
        have hnc62 := NB153_157.out
        have hnb63 := NB157_154.out
        have hnc63 := NB154_157.out
        have z64 := bc2 BK157.out
        obtain ⟨Ao65,co65,eo65⟩ := Kd.R_slice HO_158001.out
        subst eo65
        go_wp2_with (first|((with_reducible refine gate_callee (f := 27) rfl ?_);refine goesL_ (some 67) rfl rfl Try.func27 (by kernel_rfl) rfl #[.agg #[.int .i64 (wrap64 (a0_0 + (wrap64 (a2 * a1_0)))),.slice Ao65 x158001_2.length co65]] rfl (by (try simp only [List.map_toArray,List.map_cons,List.map_nil]);first|done|rfl) ?_;(with_reducible refine (spec_AffOk.calls k2 (wrap64 (a0_0 + (wrap64 (a2 * a1_0)))) _ _ x158001_2 true _ ?side1 ?side2 A58.out).mono ?_);(case side1 => repeat (first|exact (Kd.R_reads' HO_158001.out).2.2|(with_reducible refine cA ?_ _)|(with_reducible refine cN ?_ _)|(with_reducible refine cD ?_)));(case side2 => exact (Kd.R_reads' HO_158001.out).2.1);rintro e w66 ⟨rfl,hb⟩;refine ⟨_,rfl,?_⟩;have n0_ := mk0 (Kd.R_below (by exact rX HO_9.out) hb);have n1_ := mk0 (Kd.R_below (by exact rX HO_158001.out) hb);have n2_ := mk0 (blk_below (by exact kX BK152.out) hb);have n3_ := mk0 (blk_below (by exact kX BK153.out) hb);have n4_ := mk0 (blk_below (by exact kX BK154.out) hb);have n5_ := mk0 (blk_below (by exact kX BK157.out) hb);have n6_ := mk0 (below_step (by repeat (first|(with_reducible first|exact HB.out|apply bA|apply bN|apply bD|refine bS ?_ GE152.out|refine bS ?_ GE153.out|refine bS ?_ GE154.out|refine bS ?_ GE157.out)|exact HB.out)) hb);clear HO_9;clear HO_158001;clear BK152;clear BK153;clear BK154;clear BK157;clear HB;have HO_9 := n0_;have HO_158001 := n1_;have BK152 := n2_;have BK153 := n3_;have BK154 := n4_;have BK157 := n5_;have HB := n6_;clear n0_ n1_ n2_ n3_ n4_ n5_ n6_;(try clear hb);(try clear hb2);(try clear hk);(try clear hi);have z67 := bc2 BK157.out;have hnb68 := NB154_152.out;have hnc68 := NB152_154.out;have hnb69 := NB154_153.out;have hnc69 := NB153_154.out;have z70 := bc2 BK154.out))
        refine bodyPost_ret (results_ct rfl _ _ gb154 28 #[.int .i64 (wrap64 (a0_0 + (wrap64 (a2 * a1_0)))),.slice Ao65 x158001_2.length co65] (0,0) _ rfl (by refine kX ?_;refine blk_put (cs := #[.int .i64 (wrap64 (a0_0 + (wrap64 (a2 * a1_0)))),.slice none 0 0]) ?_ 1 _ rfl;refine kX ?_;refine blk_put (cs := #[.int .i64 0,.slice none 0 0]) ?_ 0 _ rfl;exact kX BK154.out) Try.underlying28 rfl (by kernel_rfl)) rfl ?_
        exact ⟨_,by first|rfl|(simp [errW_none,errW_some] <;> rfl)|(simp [*,errW_none,errW_some] <;> rfl),by refine rX ?_;exact Kd.R_mono (Kd.R_far (p := ⟨gb154,1,none⟩) (Kd.R_far (p := ⟨gb154,0,none⟩) (Kd.R_types HO_158001.out BK154.out (by decide)) (fun _ hk => hk.2) (.int .i64 (wrap64 (a0_0 + (wrap64 (a2 * a1_0)))))) (fun _ hk => hk.2) (.slice Ao65 x158001_2.length co65)) (fun _ hk => trivial),by repeat (first|(with_reducible first|exact HB.out|apply bA|apply bN|apply bD|refine bS ?_ GE152.out|refine bS ?_ GE153.out|refine bS ?_ GE154.out|refine bS ?_ GE157.out)|exact HB.out)⟩
       ·replace c59 := Bool.eq_false_iff.mpr c59
        subst c59
        rw [if_neg (show ¬ (false = true) by decide)] at H
        simp only [Option.some.injEq,Prod.mk.injEq] at H
        obtain ⟨rfl,rfl,rfl⟩ := H
        obtain ⟨Ao71,co71,eo71⟩ := Kd.R_slice HO_9.out
        subst eo71
        have hnb72 := NB157_152.out
        have hnc72 := NB152_157.out
        have hnb73 := NB157_153.out
        have hnc73 := NB153_157.out
        have hnb74 := NB157_154.out
        have hnc74 := NB154_157.out
        have z75 := bc2 BK157.out
        obtain ⟨Ao76,co76,eo76⟩ := Kd.R_slice HO_158001.out
        subst eo76
        go_wp2_with (first|((with_reducible refine gate_callee (f := 27) rfl ?_);refine goesL_ (some 67) rfl rfl Try.func27 (by kernel_rfl) rfl #[.agg #[.int .i64 (wrap64 (a0_0 + (wrap64 (a2 * a1_0)))),.slice Ao76 x158001_2.length co76]] rfl (by (try simp only [List.map_toArray,List.map_cons,List.map_nil]);first|done|rfl) ?_;(with_reducible refine (spec_AffOk.calls k2 (wrap64 (a0_0 + (wrap64 (a2 * a1_0)))) _ _ x158001_2 false _ ?side1 ?side2 A58.out).mono ?_);(case side1 => repeat (first|exact (Kd.R_reads' HO_158001.out).2.2|(with_reducible refine cA ?_ _)|(with_reducible refine cN ?_ _)|(with_reducible refine cD ?_)));(case side2 => exact (Kd.R_reads' HO_158001.out).2.1);rintro e w77 ⟨rfl,hb⟩;refine ⟨_,rfl,?_⟩;have n0_ := mk0 (Kd.R_below (by exact rX HO_9.out) hb);have n1_ := mk0 (Kd.R_below (by exact rX HO_158001.out) hb);have n2_ := mk0 (blk_below (by exact kX BK152.out) hb);have n3_ := mk0 (blk_below (by exact kX BK153.out) hb);have n4_ := mk0 (blk_below (by exact kX BK154.out) hb);have n5_ := mk0 (blk_below (by exact kX BK157.out) hb);have n6_ := mk0 (below_step (by repeat (first|(with_reducible first|exact HB.out|apply bA|apply bN|apply bD|refine bS ?_ GE152.out|refine bS ?_ GE153.out|refine bS ?_ GE154.out|refine bS ?_ GE157.out)|exact HB.out)) hb);clear HO_9;clear HO_158001;clear BK152;clear BK153;clear BK154;clear BK157;clear HB;have HO_9 := n0_;have HO_158001 := n1_;have BK152 := n2_;have BK153 := n3_;have BK154 := n4_;have BK157 := n5_;have HB := n6_;clear n0_ n1_ n2_ n3_ n4_ n5_ n6_;(try clear hb);(try clear hb2);(try clear hk);(try clear hi);have hnb78 := NB154_152.out;have hnc78 := NB152_154.out;have hnb79 := NB154_153.out;have hnc79 := NB153_154.out;have z80 := bc2 BK154.out))
        refine bodyPost_ret (results_ct rfl _ _ gb154 28 #[.int .i64 0,.slice none 0 0] (0,0) _ rfl (by refine kX ?_;refine blk_put (cs := #[.int .i64 0,.slice none 0 0]) ?_ 1 _ rfl;refine kX ?_;refine blk_put (cs := #[.int .i64 0,.slice none 0 0]) ?_ 0 _ rfl;exact kX BK154.out) Try.underlying28 rfl (by kernel_rfl)) rfl ?_
        exact ⟨_,by first|rfl|(simp [errW_none,errW_some] <;> rfl)|(simp [*,errW_none,errW_some] <;> rfl),by first|exact Kd.R_nil _ _ _ _ _|exact Kd.N_nil _ _ _ _ _|exact Kd.V_nil _ _ _ _ _|exact Kd.Q_nil _ _ _ _ _|exact Kd.S_nil _ _ _ _ _,by repeat (first|(with_reducible first|exact HB.out|apply bA|apply bN|apply bD|refine bS ?_ GE152.out|refine bS ?_ GE153.out|refine bS ?_ GE154.out|refine bS ?_ GE157.out)|exact HB.out)⟩
end Go.Proofs.Ytmomablfmhkppaa.PFnExactAddA
