-- The functions of a law as plain Lean functions, each with its contract: written by a program of this session.
import Derived.Test.YtmomablfmhkppaaPFnExactSubAx0
import Derived.Test.YtmomablfmhkppaaPFnExactSubAx3
import Derived.Test.YtmomablfmhkppaaPFnExactSubAx4
namespace Go.Proofs.Ytmomablfmhkppaa.PFnExactSubA
open Go.RowKit Go.Proofs.YtmomablfmhkppaaW.PrintWords Go.Proofs.YtmomablfmhkppaaW.PrintLast Go.Proofs.YtmomablfmhkppaaW.PrintMore
attribute [local go_sem] max2_int min2_int max_two min_two max_three min_three max_four min_four   -- for this text's walks alone
set_option linter.unusedVariables false
set_option linter.unusedSimpArgs false

/-! ### spec_l8Sum: function 38 -/
mutual
def spec_l8Sum.j0 : Nat → Int → Bool → Int → List (S70) → Int → List (S70) → Option (Int × (List (S70)) × Bool)
 | 0, _, _, _, _, _, _ => none
 | k + 1, x2, x19, x191000, x191001, x192000, x192001 => if x19 = true then (some (0, ([] : List (S70)), false)) else ((spec_l8Names.f k x191000 x191001 x192000 x192001).bind fun t196 => (spec_l8Sum.l0 k x2 t196 0 x191000 x191001 x192000 x192001 (wrap64 (x191000 + (wrap64 (x2 * x192000)))) ([] : List (S70))))
def spec_l8Sum.l0 : Nat → Int → List ByteArray → Int → Int → List (S70) → Int → List (S70) → Int → List (S70) → Option (Int × (List (S70)) × Bool)
 | 0, _, _, _, _, _, _, _, _, _ => none
 | k + 1, x2, x9, x10, x191000, x191001, x192000, x192001, x196000, x196001 => if x10 < (x9.length : Int) then (if 0 ≤ x10 then ((spec_CoefOf.f k x191000 x191001 (rdOf ByteArray.empty x9 x10)).bind fun t201 => ((spec_CoefOf.f k x192000 x192001 (rdOf ByteArray.empty x9 x10)).bind fun t203 => (if (wrap64 (t201 + (wrap64 (x2 * t203)))) = 0 then (spec_l8Sum.l0 k x2 x9 (wrap64 (x10 + 1)) x191000 x191001 x192000 x192001 x196000 x196001) else (if x196001.length < 5864062014805 then (spec_l8Sum.l0 k x2 x9 (wrap64 (x10 + 1)) x191000 x191001 x192000 x192001 x196000 (x196001 ++ [(⟨rdOf ByteArray.empty x9 x10, wrap64 (t201 + (wrap64 (x2 * t203)))⟩ : S70)])) else (none))))) else (none)) else ((spec_AffOk.f k x196000 x196001).bind fun t199 => (if t199 = true then (some (x196000, x196001, true)) else (some (0, ([] : List (S70)), false))))
end
def spec_l8Sum.f (k : Nat) (a0_0 : Int) (l0_1 : List (S70)) (a1_0 : Int) (l1_1 : List (S70)) (a2 : Int) : Option (Int × (List (S70)) × Bool) := (spec_AffOk.f k a0_0 l0_1).bind fun t193 => (if t193 = true then ((spec_AffOk.f k a1_0 l1_1).bind fun t194 => (spec_l8Sum.j0 k a2 (!t194) a0_0 l0_1 a1_0 l1_1)) else (spec_l8Sum.j0 k a2 true a0_0 l0_1 a1_0 l1_1))
theorem spec_l8Sum.mono_l : ∀ k, (∀ y0 y1 y2 y3 y4 y5, LeO (spec_l8Sum.j0 k y0 y1 y2 y3 y4 y5) (spec_l8Sum.j0 (k + 1) y0 y1 y2 y3 y4 y5)) ∧ (∀ y0 y1 y2 y3 y4 y5 y6 y7 y8, LeO (spec_l8Sum.l0 k y0 y1 y2 y3 y4 y5 y6 y7 y8) (spec_l8Sum.l0 (k + 1) y0 y1 y2 y3 y4 y5 y6 y7 y8))
 | 0 => ⟨fun _ _ _ _ _ _ r h => by simp [spec_l8Sum.j0] at h, fun _ _ _ _ _ _ _ _ _ r h => by simp [spec_l8Sum.l0] at h⟩
 | k + 1 => by
  obtain ⟨ih0, ih1⟩ := spec_l8Sum.mono_l k
  refine ⟨?_, ?_⟩
  ·intro y0 y1 y2 y3 y4 y5
   unfold spec_l8Sum.j0
   repeat' first
   | (with_reducible exact ih0 _ _ _ _ _ _)
   | (with_reducible exact ih1 _ _ _ _ _ _ _ _ _)
   | (with_reducible exact spec_AffOk.mono _ _ _)
   | (with_reducible exact spec_CoefOf.mono _ _ _ _)
   | (with_reducible exact spec_l8Names.mono _ _ _ _ _)
   | (with_reducible exact LeO.refl _)
   | (with_reducible exact LeO.none _)
   | (with_reducible refine LeO.ite ?_ ?_)
   | (with_reducible refine LeO.bind ?_ (fun _ => ?_))
   | exact ih0 _ _ _ _ _ _
   | exact ih1 _ _ _ _ _ _ _ _ _
   | exact spec_AffOk.mono _ _ _
   | exact spec_CoefOf.mono _ _ _ _
   | exact spec_l8Names.mono _ _ _ _ _
   | exact LeO.none _
   | refine LeO.ite ?_ ?_
   | refine LeO.bind ?_ (fun _ => ?_)
  ·intro y0 y1 y2 y3 y4 y5 y6 y7 y8
   unfold spec_l8Sum.l0
   repeat' first
   | (with_reducible exact ih0 _ _ _ _ _ _)
   | (with_reducible exact ih1 _ _ _ _ _ _ _ _ _)
   | (with_reducible exact spec_AffOk.mono _ _ _)
   | (with_reducible exact spec_CoefOf.mono _ _ _ _)
   | (with_reducible exact spec_l8Names.mono _ _ _ _ _)
   | (with_reducible exact LeO.refl _)
   | (with_reducible exact LeO.none _)
   | (with_reducible refine LeO.ite ?_ ?_)
   | (with_reducible refine LeO.bind ?_ (fun _ => ?_))
   | exact ih0 _ _ _ _ _ _
   | exact ih1 _ _ _ _ _ _ _ _ _
   | exact spec_AffOk.mono _ _ _
   | exact spec_CoefOf.mono _ _ _ _
   | exact spec_l8Names.mono _ _ _ _ _
   | exact LeO.none _
   | refine LeO.ite ?_ ?_
   | refine LeO.bind ?_ (fun _ => ?_)
theorem spec_l8Sum.mono : ∀ a0 a1 a2 a3 a4 k, LeO (spec_l8Sum.f k a0 a1 a2 a3 a4) (spec_l8Sum.f (k + 1) a0 a1 a2 a3 a4) := by
 intro a0 a1 a2 a3 a4 k
 obtain ⟨ih0, ih1⟩ := spec_l8Sum.mono_l k
 unfold spec_l8Sum.f
 repeat' first
   | (with_reducible exact ih0 _ _ _ _ _ _)
   | (with_reducible exact ih1 _ _ _ _ _ _ _ _ _)
   | (with_reducible exact spec_AffOk.mono _ _ _)
   | (with_reducible exact spec_CoefOf.mono _ _ _ _)
   | (with_reducible exact spec_l8Names.mono _ _ _ _ _)
   | (with_reducible exact LeO.refl _)
   | (with_reducible exact LeO.none _)
   | (with_reducible refine LeO.ite ?_ ?_)
   | (with_reducible refine LeO.bind ?_ (fun _ => ?_))
   | exact ih0 _ _ _ _ _ _
   | exact ih1 _ _ _ _ _ _ _ _ _
   | exact spec_AffOk.mono _ _ _
   | exact spec_CoefOf.mono _ _ _ _
   | exact spec_l8Names.mono _ _ _ _ _
   | exact LeO.none _
   | refine LeO.ite ?_ ?_
   | refine LeO.bind ?_ (fun _ => ?_)
def spec_l8Sum.T8 : Bool × List (List Nat × List Nat) := (true, [([], []), ([], []), ([], []), ([1, 2], [1, 2]), ([3], [3]), ([0, 4], [0, 4]), ([], []), ([], []), ([], []), ([], []), ([8, 9], [8, 9]), ([10], [10]), ([7, 11, 5], [7, 11]), ([6, 12], [6, 12]), ([5, 13], [5, 13]), ([14, 12, 0, 1, 2, 3, 4, 5, 6, 7, 8, 9, 10, 11, 12, 13, 14], [14])])
def spec_l8Sum.B8 : List Nat := [0, 0, 0, 6, 14, 31, 0, 0, 0, 0, 768, 1792, 4031, 8191, 16383, 32767]
theorem spec_l8Sum.tab8 : rtab .any (opsOf Try.f38 8) = spec_l8Sum.T8 := by kernel_rfl
theorem spec_l8Sum.bits8 : waitsOk spec_l8Sum.T8.2 spec_l8Sum.B8 = true := by kernel_rfl
def spec_l8Sum.T10 : Bool × List (List Nat × List Nat) := (true, [([], []), ([0], [0]), ([], []), ([], []), ([2, 3], [2, 3]), ([4], [4]), ([], []), ([5, 6], [5, 6]), ([7], [7]), ([1, 8], [1, 8]), ([0, 1, 2, 3, 4, 5, 6, 7, 8, 9], []), ([10, 9, 9, 0, 1, 2, 3, 4, 5, 6, 7, 8, 9], [9, 10])])
def spec_l8Sum.B10 : List Nat := [0, 1, 0, 0, 12, 28, 0, 124, 252, 511, 1023, 2047]
theorem spec_l8Sum.tab10 : rtab .any (opsOf Try.f38 10) = spec_l8Sum.T10 := by kernel_rfl
theorem spec_l8Sum.bits10 : waitsOk spec_l8Sum.T10.2 spec_l8Sum.B10 = true := by kernel_rfl
set_option maxHeartbeats 8000000 in
set_option maxRecDepth 100000 in
theorem spec_l8Sum.calls (k : Nat) (a0_0 : Int) (A0_1 : Option Addr) (c0_1 : Nat) (l0_1 : List (S70)) (a1_0 : Int) (A1_1 : Option Addr) (c1_1 : Nat) (l1_1 : List (S70)) (a2 : Int) (r1 : Int) (r2 : List (S70)) (r3 : Bool) (w : World) (hr0_1 : Kd.C k70 w A0_1 l0_1.length l0_1) (hc0_1 : l0_1.length ≤ c0_1) (hr1_1 : Kd.C k70 w A1_1 l1_1.length l1_1) (hc1_1 : l1_1.length ≤ c1_1) (h : spec_l8Sum.f k a0_0 l0_1 a1_0 l1_1 a2 = some (r1, r2, r3)) :
  Calls Try.prog 38 #[.agg #[.int .i64 a0_0, .slice A0_1 l0_1.length c0_1], .agg #[.int .i64 a1_0, .slice A1_1 l1_1.length c1_1], .int .i64 a2] w fun e w' => ∃ v1_ : Value, e = .returned (.tuple #[.agg #[.int .i64 r1, v1_], .bool r3]) ∧ Kd.R k70 70 w' w.heap.size (fun _ => True) v1_ r2 ∧ Below w.heap.size w w' := by
 have hu28 := Try.underlying28
 have hu70 := Try.underlying70
 have HR0_1 := mk0 hr0_1
 have HC0_1 := mk0 hc0_1
 clear hr0_1 hc0_1
 have HR1_1 := mk0 hr1_1
 have HC1_1 := mk0 hc1_1
 clear hr1_1 hc1_1
 have HB := mk0 (Below.refl w.heap.size w)
 have H : ((spec_AffOk.f k a0_0 l0_1).bind fun t193 => (if t193 = true then ((spec_AffOk.f k a1_0 l1_1).bind fun t194 => (spec_l8Sum.j0 k a2 (!t194) a0_0 l0_1 a1_0 l1_1)) else (spec_l8Sum.j0 k a2 true a0_0 l0_1 a1_0 l1_1))) = some (r1,r2,r3) := h
 clear h
 have HC4 := mk0 H
 clear H
 go_enter Try.func38,Try.ntmps38
 go_upto_region 1 with (first|((with_reducible refine gate_dst (N := 3) rfl ?_);refine box_event ?hg (N := 3) ?hd (cs := #[.int .i64 a0_0,.slice A0_1 l0_1.length c0_1]) (t := 28) ?hr ?_;(case hd => rfl);(case hg => rfl);(case hr => first|(go_simp;done)|(go_simp;rfl));intro gb190 hg w5 hbox hb;have q_ := qB (by repeat (first|(with_reducible first|exact HB.out|apply bA|apply bN|apply bD)|exact HB.out)) hb;have n0_ := mk0 (below_step q_ hb);have n1_ := mk0 (hbox);have n2_ := mk0 (below_size2 q_ hg);have n3_ := n2_;clear HB;have HB := n0_;have BK190 := n1_;have GW190 := n2_;have GE190 := n3_;clear q_ n0_ n1_ n2_ n3_;clear hb hbox hg)|((with_reducible refine gate_dst (N := 4) rfl ?_);refine box_event ?hg (N := 4) ?hd (cs := #[.int .i64 a1_0,.slice A1_1 l1_1.length c1_1]) (t := 28) ?hr ?_;(case hd => rfl);(case hg => rfl);(case hr => first|(go_simp;done)|(go_simp;rfl));intro gb191 hg w6 hbox hb;have q_ := qB (by repeat (first|(with_reducible first|exact HB.out|apply bA|apply bN|apply bD|refine bS ?_ GE190.out)|exact HB.out)) hb;have n0_ := mk0 (blk_below (by exact kX BK190.out) hb);have n1_ := mk0 (below_step q_ hb);have n2_ := mk0 (hbox);have n3_ := mk0 (below_size2 q_ hg);have n4_ := n3_;have n5_ := mk0 ((by rw [hg];exact Nat.ne_of_lt (blk_lt (by exact kX BK190.out)) : gb190 ≠ gb191));have n6_ := mk0 ((by rw [hg];exact Nat.ne_of_gt (blk_lt (by exact kX BK190.out)) : gb191 ≠ gb190));clear BK190;clear HB;have BK190 := n0_;have HB := n1_;have BK191 := n2_;have GW191 := n3_;have GE191 := n4_;have NB190_191 := n5_;have NB191_190 := n6_;clear q_ n0_ n1_ n2_ n3_ n4_ n5_ n6_;clear hb hbox hg)|((with_reducible refine gate_dst (N := 6) rfl ?_);refine box_event ?hg (N := 6) ?hd (cs := #[.int .i64 0,.slice none 0 0]) (t := 28) ?hr ?_;(case hd => rfl);(case hg => rfl);(case hr => first|(go_simp;done)|(go_simp;rfl));intro gb192 hg w7 hbox hb;have q_ := qB (by repeat (first|(with_reducible first|exact HB.out|apply bA|apply bN|apply bD|refine bS ?_ GE190.out|refine bS ?_ GE191.out)|exact HB.out)) hb;have n0_ := mk0 (blk_below (by exact kX BK190.out) hb);have n1_ := mk0 (blk_below (by exact kX BK191.out) hb);have n2_ := mk0 (below_step q_ hb);have n3_ := mk0 (hbox);have n4_ := mk0 (below_size2 q_ hg);have n5_ := n4_;have n6_ := mk0 ((by rw [hg];exact Nat.ne_of_lt (blk_lt (by exact kX BK190.out)) : gb190 ≠ gb192));have n7_ := mk0 ((by rw [hg];exact Nat.ne_of_gt (blk_lt (by exact kX BK190.out)) : gb192 ≠ gb190));have n8_ := mk0 ((by rw [hg];exact Nat.ne_of_lt (blk_lt (by exact kX BK191.out)) : gb191 ≠ gb192));have n9_ := mk0 ((by rw [hg];exact Nat.ne_of_gt (blk_lt (by exact kX BK191.out)) : gb192 ≠ gb191));clear BK190;clear BK191;clear HB;have BK190 := n0_;have BK191 := n1_;have HB := n2_;have BK192 := n3_;have GW192 := n4_;have GE192 := n5_;have NB190_192 := n6_;have NB192_190 := n7_;have NB191_192 := n8_;have NB192_191 := n9_;clear q_ n0_ n1_ n2_ n3_ n4_ n5_ n6_ n7_ n8_ n9_;clear hb hbox hg))
 (try simp only [Act.put,List.setIfInBounds_toArray,List.set_cons_zero,List.set_cons_succ])
 go_cut [19] (fun v19 wc => ∃ (kq : Nat) (x19_3 : Bool),v19 = .bool x19_3 ∧ Aside0 (spec_l8Sum.j0 kq a2 x19_3 a0_0 l0_1 a1_0 l1_1 = some (r1,r2,r3)) ∧ Aside0 (kq ≤ k) ∧ Aside0 (wc.heap[gb190]? = some (.cells #[.int .i64 a0_0,(.slice A0_1 l0_1.length c0_1)] 28 (0,0))) ∧ Aside0 (wc.heap[gb191]? = some (.cells #[.int .i64 a1_0,(.slice A1_1 l1_1.length c1_1)] 28 (0,0))) ∧ Aside0 (wc.heap[gb192]? = some (.cells #[.int .i64 0,(.slice none 0 0)] 28 (0,0))) ∧ Aside0 (Below w.heap.size w wc))
 case first =>
  have H := HC4.out
  clear HC4
  obtain ⟨t193,A8,H⟩ := bindA H
  by_cases c9 : t193 = true
  ·subst c9
   rw [if_pos rfl] at H
   obtain ⟨t194,A10,H⟩ := bindA H
   have H' := mk0 H
   clear H
   have hnb11 := NB190_191.out
   have hnc11 := NB191_190.out
   have hnb12 := NB190_192.out
   have hnc12 := NB192_190.out
   have z13 := bc2 BK190.out
   go_wp2_with (first|((with_reducible refine gate_callee (f := 27) rfl ?_);refine goesL_ (some 13) rfl rfl Try.func27 (by kernel_rfl) rfl #[.agg #[.int .i64 a0_0,.slice A0_1 l0_1.length c0_1]] rfl (by (try simp only [List.map_toArray,List.map_cons,List.map_nil]);first|done|rfl) ?_;(with_reducible refine (spec_AffOk.calls k a0_0 _ _ l0_1 true _ ?side1 ?side2 A8.out).mono ?_);(case side1 => repeat (first|exact (Kd.C_below HR0_1.out HB.out)|(with_reducible refine cA ?_ _)|(with_reducible refine cN ?_ _)|(with_reducible refine cD ?_)));(case side2 => exact HC0_1.out);rintro e w14 ⟨rfl,hb⟩;refine ⟨_,rfl,?_⟩;have n0_ := mk0 (blk_below (by exact kX BK190.out) hb);have n1_ := mk0 (blk_below (by exact kX BK191.out) hb);have n2_ := mk0 (blk_below (by exact kX BK192.out) hb);have n3_ := mk0 (below_step (by repeat (first|(with_reducible first|exact HB.out|apply bA|apply bN|apply bD|refine bS ?_ GE190.out|refine bS ?_ GE191.out|refine bS ?_ GE192.out)|exact HB.out)) hb);clear BK190;clear BK191;clear BK192;clear HB;have BK190 := n0_;have BK191 := n1_;have BK192 := n2_;have HB := n3_;clear n0_ n1_ n2_ n3_;(try clear hb);(try clear hb2);(try clear hk);(try clear hi);have hnb15 := NB191_192.out;have hnc15 := NB192_191.out;have z16 := bc2 BK191.out)|(go_at_call 27;(with_reducible refine (spec_AffOk.calls k a1_0 _ _ l1_1 t194 _ ?side1 ?side2 A10.out).mono ?_);(case side1 => repeat (first|exact (Kd.C_below HR1_1.out HB.out)|(with_reducible refine cA ?_ _)|(with_reducible refine cN ?_ _)|(with_reducible refine cD ?_)));(case side2 => exact HC1_1.out);rintro e w17 ⟨rfl,hb⟩;have n0_ := mk0 (blk_below (by exact kX BK190.out) hb);have n1_ := mk0 (blk_below (by exact kX BK191.out) hb);have n2_ := mk0 (blk_below (by exact kX BK192.out) hb);have n3_ := mk0 (below_step (by repeat (first|(with_reducible first|exact HB.out|apply bA|apply bN|apply bD|refine bS ?_ GE190.out|refine bS ?_ GE191.out|refine bS ?_ GE192.out)|exact HB.out)) hb);clear BK190;clear BK191;clear BK192;clear HB;have BK190 := n0_;have BK191 := n1_;have BK192 := n2_;have HB := n3_;clear n0_ n1_ n2_ n3_;(try clear hb);(try clear hb2);(try clear hk);(try clear hi)))
   go_meet
   case rel => exact ⟨_,(!t194),(by first|rfl|(simp;done)|(simp [*];done)),H',⟨by first|omega|exact Nat.le_refl _⟩,⟨by refine kX ?_;exact BK190.out⟩,⟨by refine kX ?_;exact BK191.out⟩,⟨by refine kX ?_;exact BK192.out⟩,⟨by repeat (first|(with_reducible first|exact HB.out|apply bA|apply bN|apply bD|refine bS ?_ GE190.out|refine bS ?_ GE191.out|refine bS ?_ GE192.out)|exact HB.out)⟩⟩
  ·replace c9 := Bool.eq_false_iff.mpr c9
   subst c9
   rw [if_neg (show ¬ (false = true) by decide)] at H
   have H' := mk0 H
   clear H
   have hnb18 := NB190_191.out
   have hnc18 := NB191_190.out
   have hnb19 := NB190_192.out
   have hnc19 := NB192_190.out
   have z20 := bc2 BK190.out
   go_wp2_with (first|((with_reducible refine gate_callee (f := 27) rfl ?_);refine goesL_ (some 13) rfl rfl Try.func27 (by kernel_rfl) rfl #[.agg #[.int .i64 a0_0,.slice A0_1 l0_1.length c0_1]] rfl (by (try simp only [List.map_toArray,List.map_cons,List.map_nil]);first|done|rfl) ?_;(with_reducible refine (spec_AffOk.calls k a0_0 _ _ l0_1 false _ ?side1 ?side2 A8.out).mono ?_);(case side1 => repeat (first|exact (Kd.C_below HR0_1.out HB.out)|(with_reducible refine cA ?_ _)|(with_reducible refine cN ?_ _)|(with_reducible refine cD ?_)));(case side2 => exact HC0_1.out);rintro e w21 ⟨rfl,hb⟩;refine ⟨_,rfl,?_⟩;have n0_ := mk0 (blk_below (by exact kX BK190.out) hb);have n1_ := mk0 (blk_below (by exact kX BK191.out) hb);have n2_ := mk0 (blk_below (by exact kX BK192.out) hb);have n3_ := mk0 (below_step (by repeat (first|(with_reducible first|exact HB.out|apply bA|apply bN|apply bD|refine bS ?_ GE190.out|refine bS ?_ GE191.out|refine bS ?_ GE192.out)|exact HB.out)) hb);clear BK190;clear BK191;clear BK192;clear HB;have BK190 := n0_;have BK191 := n1_;have BK192 := n2_;have HB := n3_;clear n0_ n1_ n2_ n3_;(try clear hb);(try clear hb2);(try clear hk);(try clear hi)))
   go_meet
   case rel => exact ⟨_,(true),(by first|rfl|(simp;done)|(simp [*];done)),H',⟨by first|omega|exact Nat.le_refl _⟩,⟨by refine kX ?_;exact BK190.out⟩,⟨by refine kX ?_;exact BK191.out⟩,⟨by refine kX ?_;exact BK192.out⟩,⟨by repeat (first|(with_reducible first|exact HB.out|apply bA|apply bN|apply bD|refine bS ?_ GE190.out|refine bS ?_ GE191.out|refine bS ?_ GE192.out)|exact HB.out)⟩⟩
 case rest =>
  clear HC4
  try clear c1
  try clear c2
  try clear p2
  try clear c3
  try clear c9
  try clear c11
  try clear c12
  try clear c15
  try clear c18
  try clear c19
  try clear z13
  try clear z16
  try clear z20
  try clear z13
  try clear z16
  try clear z20
  obtain ⟨kq,x19_3,rfl,HA,HJ3,BK190,BK191,BK192,HB⟩ := hcut
  cases kq with
   |zero => exact absurd HA.out (by simp [spec_l8Sum.j0])
   |succ kj3 =>
   have H := HA.out
   clear HA
   simp only [spec_l8Sum.j0] at H
   by_cases c22 : x19_3 = true
   ·subst c22
    rw [if_pos rfl] at H
    simp only [Option.some.injEq,Prod.mk.injEq] at H
    obtain ⟨rfl,rfl,rfl⟩ := H
    have hnb23 := NB192_190.out
    have hnc23 := NB190_192.out
    have hnb24 := NB192_191.out
    have hnc24 := NB191_192.out
    have z25 := bc2 BK192.out
    go_wp2
    refine bodyPost_ret (results_ct rfl _ _ gb192 28 #[.int .i64 0,.slice none 0 0] (0,0) _ rfl (by refine kX ?_;refine blk_put (cs := #[.int .i64 0,.slice none 0 0]) ?_ 1 _ rfl;refine kX ?_;refine blk_put (cs := #[.int .i64 0,.slice none 0 0]) ?_ 0 _ rfl;exact kX BK192.out) Try.underlying28 rfl (by kernel_rfl)) rfl ?_
    exact ⟨_,by first|rfl|(simp [errW_none,errW_some] <;> rfl)|(simp [*,errW_none,errW_some] <;> rfl),by first|exact Kd.R_nil _ _ _ _ _|exact Kd.N_nil _ _ _ _ _|exact Kd.V_nil _ _ _ _ _|exact Kd.Q_nil _ _ _ _ _|exact Kd.S_nil _ _ _ _ _,by repeat (first|(with_reducible first|exact HB.out|apply bA|apply bN|apply bD|refine bS ?_ GE190.out|refine bS ?_ GE191.out|refine bS ?_ GE192.out)|exact HB.out)⟩
   ·replace c22 := Bool.eq_false_iff.mpr c22
    subst c22
    rw [if_neg (show ¬ (false = true) by decide)] at H
    obtain ⟨t196,A26,H⟩ := bindA H
    have H' := mk0 H
    clear H
    have hnb27 := NB190_191.out
    have hnc27 := NB191_190.out
    have hnb28 := NB190_192.out
    have hnc28 := NB192_190.out
    have z29 := bc2 BK190.out
    have hnb30 := NB191_192.out
    have hnc30 := NB192_191.out
    have z31 := bc2 BK191.out
    go_wp2_with (first|((with_reducible refine gate_dst (N := 8) rfl ?_);refine box_event ?hg (N := 8) ?hd (cs := #[.int .i64 0,.slice none 0 0]) (t := 28) ?hr ?_;(case hd => rfl);(case hg => rfl);(case hr => first|(go_simp;done)|(go_simp;rfl));intro gb195 hg w32 hbox hb;have q_ := qB (by repeat (first|(with_reducible first|exact HB.out|apply bA|apply bN|apply bD|refine bS ?_ GE190.out|refine bS ?_ GE191.out|refine bS ?_ GE192.out)|exact HB.out)) hb;have n0_ := mk0 (blk_below (by exact kX BK190.out) hb);have n1_ := mk0 (blk_below (by exact kX BK191.out) hb);have n2_ := mk0 (blk_below (by exact kX BK192.out) hb);have n3_ := mk0 (below_step q_ hb);have n4_ := mk0 (hbox);have n5_ := mk0 (below_size2 q_ hg);have n6_ := n5_;have n7_ := mk0 ((by rw [hg];exact Nat.ne_of_lt (blk_lt (by exact kX BK190.out)) : gb190 ≠ gb195));have n8_ := mk0 ((by rw [hg];exact Nat.ne_of_gt (blk_lt (by exact kX BK190.out)) : gb195 ≠ gb190));have n9_ := mk0 ((by rw [hg];exact Nat.ne_of_lt (blk_lt (by exact kX BK191.out)) : gb191 ≠ gb195));have n10_ := mk0 ((by rw [hg];exact Nat.ne_of_gt (blk_lt (by exact kX BK191.out)) : gb195 ≠ gb191));have n11_ := mk0 ((by rw [hg];exact Nat.ne_of_lt (blk_lt (by exact kX BK192.out)) : gb192 ≠ gb195));have n12_ := mk0 ((by rw [hg];exact Nat.ne_of_gt (blk_lt (by exact kX BK192.out)) : gb195 ≠ gb192));clear BK190;clear BK191;clear BK192;clear HB;have BK190 := n0_;have BK191 := n1_;have BK192 := n2_;have HB := n3_;have BK195 := n4_;have GW195 := n5_;have GE195 := n6_;have NB190_195 := n7_;have NB195_190 := n8_;have NB191_195 := n9_;have NB195_191 := n10_;have NB192_195 := n11_;have NB195_192 := n12_;clear q_ n0_ n1_ n2_ n3_ n4_ n5_ n6_ n7_ n8_ n9_ n10_ n11_ n12_;clear hb hbox hg;have hnb33 := NB195_190.out;have hnc33 := NB190_195.out;have hnb34 := NB195_191.out;have hnc34 := NB191_195.out;have hnb35 := NB195_192.out;have hnc35 := NB192_195.out;have z36 := bc2 BK195.out;have z37 := bc2 BK190.out;have z38 := bc2 BK191.out)|((with_reducible refine gate_callee (f := 73) rfl ?_);refine goesL_ (some 31) rfl rfl Try.func73 (by kernel_rfl) rfl #[.agg #[.int .i64 a0_0,.slice A0_1 l0_1.length c0_1],.agg #[.int .i64 a1_0,.slice A1_1 l1_1.length c1_1]] rfl (by (try simp only [List.map_toArray,List.map_cons,List.map_nil]);first|done|rfl) ?_;(with_reducible refine (spec_l8Names.calls kj3 a0_0 _ _ l0_1 a1_0 _ _ l1_1 t196 _ ?side1 ?side2 ?side3 ?side4 A26.out).mono ?_);(case side1 => exact Kd.C_below HR0_1.out (by repeat (first|(with_reducible first|exact HB.out|apply bA|apply bN|apply bD|refine bS ?_ GE190.out|refine bS ?_ GE191.out|refine bS ?_ GE192.out|refine bS ?_ GE195.out)|exact HB.out)));(case side2 => exact HC0_1.out);(case side3 => exact Kd.C_below HR1_1.out (by repeat (first|(with_reducible first|exact HB.out|apply bA|apply bN|apply bD|refine bS ?_ GE190.out|refine bS ?_ GE191.out|refine bS ?_ GE192.out|refine bS ?_ GE195.out)|exact HB.out)));(case side4 => exact HC1_1.out);rintro e w39 ⟨v197,rfl,ho0,hb⟩;refine ⟨_,rfl,?_⟩;have q_ := qB (by repeat (first|(with_reducible first|exact HB.out|apply bA|apply bN|apply bD|refine bS ?_ GE190.out|refine bS ?_ GE191.out|refine bS ?_ GE192.out|refine bS ?_ GE195.out)|exact HB.out)) hb;have n0_ := mk0 (Kd.R_lower ho0 (below_size q_));have n1_ := mk0 (blk_below (g := gb190) (o := .cells #[.int .i64 a0_0,.slice A0_1 l0_1.length c0_1] 28 (0,0)) (by refine kX ?_;refine blk_far ?_ NB190_195.out _;refine kX ?_;refine blk_far ?_ NB190_195.out _;exact kX BK190.out) hb);have n2_ := mk0 (blk_below (g := gb191) (o := .cells #[.int .i64 a1_0,.slice A1_1 l1_1.length c1_1] 28 (0,0)) (by refine kX ?_;refine blk_far ?_ NB191_195.out _;refine kX ?_;refine blk_far ?_ NB191_195.out _;exact kX BK191.out) hb);have n3_ := mk0 (blk_below (g := gb192) (o := .cells #[.int .i64 0,.slice none 0 0] 28 (0,0)) (by refine kX ?_;refine blk_far ?_ NB192_195.out _;refine kX ?_;refine blk_far ?_ NB192_195.out _;exact kX BK192.out) hb);have n4_ := mk0 (blk_below (g := gb195) (o := .cells #[.int .i64 (wrap64 (a0_0 + (wrap64 (a2 * a1_0)))),.slice none 0 0] 28 (0,0)) (by refine kX ?_;refine blk_put (cs := #[.int .i64 (wrap64 (a0_0 + (wrap64 (a2 * a1_0)))),.slice none 0 0]) ?_ 1 _ rfl;refine kX ?_;refine blk_put (cs := #[.int .i64 0,.slice none 0 0]) ?_ 0 _ rfl;exact kX BK195.out) hb);have n5_ := mk0 (below_step q_ hb);clear BK190;clear BK191;clear BK192;clear BK195;clear HB;have HO198 := n0_;have BK190 := n1_;have BK191 := n2_;have BK192 := n3_;have BK195 := n4_;have HB := n5_;clear q_ n0_ n1_ n2_ n3_ n4_ n5_;(try clear hb);(try clear hb2);(try clear hk);(try clear hi);(try clear ho0)))
    go_loopg [10] kj3 (fun kq v10 w' => ∃ (x10_2 : Int) (x196001_2 : List (S70)) (u196001 : Value),v10 = .int .i64 x10_2 ∧ Aside0 (spec_l8Sum.l0 kq a2 t196 x10_2 a0_0 l0_1 a1_0 l1_1 (wrap64 (a0_0 + (wrap64 (a2 * a1_0)))) x196001_2 = some (r1,r2,r3)) ∧ Aside0 (kq ≤ kj3) ∧ Aside0 (Kd.R Kd.string 9 w' w.heap.size (fun _ => True) v197 t196) ∧ Aside0 (Kd.R k70 70 w' w.heap.size (fun _ => True) u196001 x196001_2) ∧ Aside0 (w'.heap[gb190]? = some (.cells #[.int .i64 a0_0,(.slice A0_1 l0_1.length c0_1)] 28 (0,0))) ∧ Aside0 (w'.heap[gb191]? = some (.cells #[.int .i64 a1_0,(.slice A1_1 l1_1.length c1_1)] 28 (0,0))) ∧ Aside0 (w'.heap[gb192]? = some (.cells #[.int .i64 0,(.slice none 0 0)] 28 (0,0))) ∧ Aside0 (w'.heap[gb195]? = some (.cells #[.int .i64 (wrap64 (a0_0 + (wrap64 (a2 * a1_0)))),u196001] 28 (0,0))) ∧ Aside0 (Below w.heap.size w w'))
    case atStart => exact ⟨(0),(([] : List (S70))),(.slice none 0 0),(by first|rfl|(simp;done)|(simp [*];done)),H',⟨Nat.le_refl _⟩,⟨by refine rX ?_;exact HO198.out⟩,⟨by first|exact Kd.R_nil _ _ _ _ _|exact Kd.N_nil _ _ _ _ _|exact Kd.V_nil _ _ _ _ _|exact Kd.Q_nil _ _ _ _ _|exact Kd.S_nil _ _ _ _ _⟩,⟨by refine kX ?_;exact BK190.out⟩,⟨by refine kX ?_;exact BK191.out⟩,⟨by refine kX ?_;exact BK192.out⟩,⟨by refine kX ?_;exact BK195.out⟩,⟨by repeat (first|(with_reducible first|exact HB.out|apply bA|apply bN|apply bD|refine bS ?_ GE190.out|refine bS ?_ GE191.out|refine bS ?_ GE192.out|refine bS ?_ GE195.out)|exact HB.out)⟩⟩
    case round =>
     clear H'
     try clear c1
     try clear c2
     try clear p2
     try clear c3
     try clear p6
     try clear c7
     try clear c9
     try clear c11
     try clear c12
     try clear c15
     try clear c18
     try clear c19
     try clear c22
     try clear c23
     try clear c24
     try clear c27
     try clear c28
     try clear c30
     try clear c33
     try clear c34
     try clear c35
     try clear c38
     try clear z13
     try clear z16
     try clear z20
     try clear z25
     try clear z29
     try clear z31
     try clear z36
     try clear z37
     try clear z38
     try clear z13
     try clear z16
     try clear z20
     try clear z25
     try clear z29
     try clear z31
     try clear z36
     try clear z37
     try clear z38
     try clear p2
     obtain ⟨x10_2,x196001_2,u196001,rfl,HA,HK2,HO_9,HO_196001,BK190,BK191,BK192,BK195,HB⟩ := hrel
     cases gk with
         |zero => exact absurd HA.out (by simp [spec_l8Sum.l0])
         |succ k2 =>
      have H := HA.out
      clear HA
      simp only [spec_l8Sum.l0] at H
      by_cases c40 : x10_2 < (t196.length : Int)
      ·rw [if_pos c40] at H
       have c40b0 : decide (x10_2 < (t196.length : Int)) = true := decide_eq_true c40
       clear c40
       by_cases c41 : 0 ≤ x10_2
       ·rw [if_pos c41] at H
        have c41b0 : decide (0 ≤ x10_2) = true := decide_eq_true c41
        clear c41
        obtain ⟨t201,A42,H⟩ := bindA H
        obtain ⟨t203,A43,H⟩ := bindA H
        by_cases c44 : (wrap64 (t201 + (wrap64 (a2 * t203)))) = 0
        ·rw [if_pos c44] at H
         have c44b0 : ((wrap64 (t201 + (wrap64 (a2 * t203)))) == 0) = true := beq_iff_eq.mpr c44
         have c44b1 : ((wrap64 (t201 + (wrap64 (a2 * t203)))) != 0) = false := bne_eq_false_iff_eq.mpr c44
         clear c44
         have H' := mk0 H
         clear H
         obtain ⟨Ao45,co45,eo45⟩ := Kd.R_slice HO_9.out
         subst eo45
         try go_wp2
         have n0_ := mk0 (Kd.R_drew HO_9.out)
         have n1_ := mk0 (Kd.R_drew HO_196001.out)
         have n2_ := mk0 (kD BK190.out)
         have n3_ := mk0 (kD BK191.out)
         have n4_ := mk0 (kD BK192.out)
         have n5_ := mk0 (kD BK195.out)
         have n6_ := mk0 (bD HB.out)
         clear HO_9
         clear HO_196001
         clear BK190
         clear BK191
         clear BK192
         clear BK195
         clear HB
         have HO_9 := n0_
         have HO_196001 := n1_
         have BK190 := n2_
         have BK191 := n3_
         have BK192 := n4_
         have BK195 := n5_
         have HB := n6_
         clear n0_ n1_ n2_ n3_ n4_ n5_ n6_
         have p200 : 0 ≤ (x10_2 : Int) := of_decide_eq_true (by first|(with_reducible assumption)|assumption)
         have q200 : x10_2 < (t196.length : Int) := of_decide_eq_true (by first|(with_reducible assumption)|assumption)
         obtain ⟨ad200,e200,hx200_0⟩ := Kd.at_string (Kd.R_reads' HO_9.out).2.2 x10_2 p200 q200
         cases e200
         replace p200 := eq_true p200
         replace q200 := eq_true q200
         have p202 : 0 ≤ (x10_2 : Int) := of_decide_eq_true (by first|(with_reducible assumption)|assumption)
         have q202 : x10_2 < (t196.length : Int) := of_decide_eq_true (by first|(with_reducible assumption)|assumption)
         obtain ⟨ad202,e202,hx202_0⟩ := Kd.at_string (Kd.R_reads' HO_9.out).2.2 x10_2 p202 q202
         obtain rfl : ad200 = ad202 := (by injection e202)
         replace p202 := eq_true p202
         replace q202 := eq_true q202
         refine start_ (n := 16) (S := fun w' => w'.cell? ⟨gb190,0,none⟩ = some (.int .i64 a0_0) ∧ w'.cell? ⟨gb190,1,none⟩ = some (.slice A0_1 l0_1.length c0_1) ∧ w'.cell? ⟨gb191,0,none⟩ = some (.int .i64 a1_0) ∧ w'.cell? ⟨gb191,1,none⟩ = some (.slice A1_1 l1_1.length c1_1) ∧ w'.cell? (ad200.add (x10_2).toNat) = some (.string (rdOf ByteArray.empty t196 x10_2)) ∧ w'.cell? (ad200.add (x10_2).toNat) = some (.string (rdOf ByteArray.empty t196 x10_2))) (ds := []) #[false,false,false,false,false,false,false,false,false,false,false,false,false,false,false,false] (by kernel_rfl) rfl rfl ⟨(blk_cell BK190.out 0).trans rfl,(blk_cell BK190.out 1).trans rfl,(blk_cell BK191.out 0).trans rfl,(blk_cell BK191.out 1).trans rfl,hx200_0,hx202_0⟩ (fun hHeld => ?_);refine with_tabW spec_l8Sum.tab8 spec_l8Sum.bits8 (fun HT_ HW_ => ?_)
         generalize wr.drew = w46 at HO_9 HO_196001 BK190 BK191 BK192 BK195 HB hx200_0 hx202_0 hHeld ⊢
         refine pure_ (i := 1) (N := some 39) (v := ?_) (a' := ?_) #[false,true,false,false,false,false,false,false,false,false,false,false,false,false,false,false] rfl rfl (any_of HT_.out (by kernel_rfl)) (fun _ _ _ h => h) (Or.inl ⟨by rfl,?_⟩) ?_ ?_
         rotate_left
         ·intro w'
          go_simp
          with_reducible rfl
         rotate_left
         ·simp only [Act.put,List.setIfInBounds_toArray,List.set_cons_zero,List.set_cons_succ,i64_w,i32_w]
          rfl
         refine pure_ (i := 2) (N := some 40) (v := ?_) (a' := ?_) #[false,true,true,false,false,false,false,false,false,false,false,false,false,false,false,false] rfl rfl (any_of HT_.out (by kernel_rfl)) (fun _ _ _ h => h) (Or.inl ⟨by rfl,?_⟩) ?_ ?_
         rotate_left
         ·intro w'
          go_simp
          with_reducible rfl
         rotate_left
         ·simp only [Act.put,List.setIfInBounds_toArray,List.set_cons_zero,List.set_cons_succ,i64_w,i32_w]
          rfl
         refine pure_ (i := 3) (N := some 41) (v := ?_) (a' := ?_) #[false,true,true,true,false,false,false,false,false,false,false,false,false,false,false,false] rfl rfl (any_of HT_.out (by kernel_rfl)) (fun _ _ _ h => h) (Or.inl ⟨by rfl,?_⟩) ?_ ?_
         rotate_left
         ·intro w'
          go_simp
          with_reducible rfl
         rotate_left
         ·simp only [Act.put,List.setIfInBounds_toArray,List.set_cons_zero,List.set_cons_succ,i64_w,i32_w]
          rfl
         refine pure_ (i := 6) (N := some 44) (v := ?_) (a' := ?_) #[false,true,true,true,false,false,true,false,false,false,false,false,false,false,false,false] rfl rfl (any_of HT_.out (by kernel_rfl)) (fun _ _ _ h => h) (Or.inl ⟨by rfl,?_⟩) ?_ ?_
         rotate_left
         ·intro w'
          go_simp
          with_reducible rfl
         rotate_left
         ·simp only [Act.put,List.setIfInBounds_toArray,List.set_cons_zero,List.set_cons_succ,i64_w,i32_w]
          rfl
         refine pure_ (i := 8) (N := some 46) (v := ?_) (a' := ?_) #[false,true,true,true,false,false,true,false,true,false,false,false,false,false,false,false] rfl rfl (any_of HT_.out (by kernel_rfl)) (fun _ _ _ h => h) (Or.inl ⟨by rfl,?_⟩) ?_ ?_
         rotate_left
         ·intro w'
          go_simp
          with_reducible rfl
         rotate_left
         ·simp only [Act.put,List.setIfInBounds_toArray,List.set_cons_zero,List.set_cons_succ,i64_w,i32_w]
          rfl
         refine pure_ (i := 9) (N := some 47) (v := ?_) (a' := ?_) #[false,true,true,true,false,false,true,false,true,true,false,false,false,false,false,false] rfl rfl (any_of HT_.out (by kernel_rfl)) (fun _ _ _ h => h) (Or.inl ⟨by rfl,?_⟩) ?_ ?_
         rotate_left
         ·intro w'
          go_simp
          with_reducible rfl
         rotate_left
         ·simp only [Act.put,List.setIfInBounds_toArray,List.set_cons_zero,List.set_cons_succ,i64_w,i32_w]
          rfl
         refine pure_ (i := 10) (N := some 48) (v := ?_) (a' := ?_) #[false,true,true,true,false,false,true,false,true,true,true,false,false,false,false,false] rfl rfl (any_of HT_.out (by kernel_rfl)) (fun _ _ _ h => h) (Or.inl ⟨by rfl,?_⟩) ?_ ?_
         rotate_left
         ·intro w'
          go_simp
          with_reducible rfl
         rotate_left
         ·simp only [Act.put,List.setIfInBounds_toArray,List.set_cons_zero,List.set_cons_succ,i64_w,i32_w]
          rfl
         refine take_ (i := 0) (N := some 38) (v := ?_) (a' := ?_) #[true,true,true,true,false,false,true,false,true,true,true,false,false,false,false,false] rfl rfl (take_ofW HT_.out HW_.out (by kernel_rfl)) (fun _ _ _ h => h) (Or.inl ⟨by rfl,?_⟩) hHeld ?_ ?_
         rotate_left
         ·rintro w' ⟨s0,s1,s2,s3,s4,s5⟩
          go_simp
          with_reducible rfl
         rotate_left
         ·simp only [Act.put,List.setIfInBounds_toArray,List.set_cons_zero,List.set_cons_succ,i64_w,i32_w]
          rfl
         refine take_ (i := 4) (N := some 42) (v := ?_) (a' := ?_) #[true,true,true,true,true,false,true,false,true,true,true,false,false,false,false,false] rfl rfl (take_ofW HT_.out HW_.out (by kernel_rfl)) (fun _ _ _ h => h) (Or.inl ⟨by rfl,?_⟩) hHeld ?_ ?_
         rotate_left
         ·rintro w' ⟨s0,s1,s2,s3,s4,s5⟩
          go_simp
          with_reducible rfl
         rotate_left
         ·simp only [Act.put,List.setIfInBounds_toArray,List.set_cons_zero,List.set_cons_succ,i64_w,i32_w]
          rfl
         refine take_ (i := 7) (N := some 45) (v := ?_) (a' := ?_) #[true,true,true,true,true,false,true,true,true,true,true,false,false,false,false,false] rfl rfl (take_ofW HT_.out HW_.out (by kernel_rfl)) (fun _ _ _ h => h) (Or.inl ⟨by rfl,?_⟩) hHeld ?_ ?_
         rotate_left
         ·rintro w' ⟨s0,s1,s2,s3,s4,s5⟩
          go_simp
          with_reducible rfl
         rotate_left
         ·simp only [Act.put,List.setIfInBounds_toArray,List.set_cons_zero,List.set_cons_succ,i64_w,i32_w]
          rfl
         refine take_ (i := 11) (N := some 49) (v := ?_) (a' := ?_) #[true,true,true,true,true,false,true,true,true,true,true,true,false,false,false,false] rfl rfl (take_ofW HT_.out HW_.out (by kernel_rfl)) (fun _ _ _ h => h) (Or.inl ⟨by rfl,?_⟩) hHeld ?_ ?_
         rotate_left
         ·rintro w' ⟨s0,s1,s2,s3,s4,s5⟩
          go_simp
          with_reducible rfl
         rotate_left
         ·simp only [Act.put,List.setIfInBounds_toArray,List.set_cons_zero,List.set_cons_succ,i64_w,i32_w]
          rfl
         refine one_ (i := 5) (N := some 43) #[true,true,true,true,true,true,true,true,true,true,true,true,false,false,false,false] rfl rfl (one_of HT_.out (by kernel_rfl)) (by decide) (fun K hK => ?_)
         refine goes_ Try.func29 (by kernel_rfl) rfl #[.agg #[.int .i64 a0_0,.slice A0_1 l0_1.length c0_1],.string (rdOf ByteArray.empty t196 x10_2)] (by rfl) rfl rfl (by (try simp only [List.map_toArray,List.map_cons,List.map_nil]);first|done|rfl) ?_
         with_reducible refine (spec_CoefOf.calls k2 a0_0 _ _ l0_1 (rdOf ByteArray.empty t196 x10_2) t201 _ ?side1 ?side2 A42.out).mono ?_
         (case side1 => repeat (first|exact (Kd.C_below HR0_1.out HB.out)|(with_reducible refine cA ?_ _)|(with_reducible refine cN ?_ _)|(with_reducible refine cD ?_)))
         (case side2 => exact HC0_1.out)
         rintro e w47 ⟨rfl,hb⟩
         have HS4_ := (hb.cell (World.block_lt_of_cell? _ _ (hHeld.2.2.2.2.1))).trans (hHeld.2.2.2.2.1)
         have HS5_ := (hb.cell (World.block_lt_of_cell? _ _ (hHeld.2.2.2.2.2))).trans (hHeld.2.2.2.2.2)
         refine ⟨_,rfl,?_⟩
         have n0_ := mk0 (Kd.R_below (by exact rX HO_9.out) hb)
         have n1_ := mk0 (Kd.R_below (by exact rX HO_196001.out) hb)
         have n2_ := mk0 (blk_below (by exact kX BK190.out) hb)
         have n3_ := mk0 (blk_below (by exact kX BK191.out) hb)
         have n4_ := mk0 (blk_below (by exact kX BK192.out) hb)
         have n5_ := mk0 (blk_below (by exact kX BK195.out) hb)
         have n6_ := mk0 (below_step (by repeat (first|(with_reducible first|exact HB.out|apply bA|apply bN|apply bD|refine bS ?_ GE190.out|refine bS ?_ GE191.out|refine bS ?_ GE192.out|refine bS ?_ GE195.out)|exact HB.out)) hb)
         clear HO_9
         clear HO_196001
         clear BK190
         clear BK191
         clear BK192
         clear BK195
         clear HB
         have HO_9 := n0_
         have HO_196001 := n1_
         have BK190 := n2_
         have BK191 := n3_
         have BK192 := n4_
         have BK195 := n5_
         have HB := n6_
         clear n0_ n1_ n2_ n3_ n4_ n5_ n6_
         (try clear hb)
         (try clear hb2)
         (try clear hk)
         (try clear hi)
         refine hK.out _ _ ⟨(blk_cell BK190.out 0).trans rfl,(blk_cell BK190.out 1).trans rfl,(blk_cell BK191.out 0).trans rfl,(blk_cell BK191.out 1).trans rfl,HS4_,HS5_⟩ (fun hHeld => ?_)
         clear hK K
         refine norm_ (a' := ?_) ?_ ?_
         rotate_left
         ·show Act.put _ (some 43) _ = _
          simp only [Act.put,List.setIfInBounds_toArray,List.set_cons_zero,List.set_cons_succ,i64_w,i32_w]
          rfl
         refine one_ (i := 12) (N := some 50) #[true,true,true,true,true,true,true,true,true,true,true,true,true,false,false,false] rfl rfl (one_of HT_.out (by kernel_rfl)) (by decide) (fun K hK => ?_)
         refine goes_ Try.func29 (by kernel_rfl) rfl #[.agg #[.int .i64 a1_0,.slice A1_1 l1_1.length c1_1],.string (rdOf ByteArray.empty t196 x10_2)] (by rfl) rfl rfl (by (try simp only [List.map_toArray,List.map_cons,List.map_nil]);first|done|rfl) ?_
         with_reducible refine (spec_CoefOf.calls k2 a1_0 _ _ l1_1 (rdOf ByteArray.empty t196 x10_2) t203 _ ?side1 ?side2 A43.out).mono ?_
         (case side1 => repeat (first|exact (Kd.C_below HR1_1.out HB.out)|(with_reducible refine cA ?_ _)|(with_reducible refine cN ?_ _)|(with_reducible refine cD ?_)))
         (case side2 => exact HC1_1.out)
         rintro e w48 ⟨rfl,hb⟩
         have HS4_ := (hb.cell (World.block_lt_of_cell? _ _ (hHeld.2.2.2.2.1))).trans (hHeld.2.2.2.2.1)
         have HS5_ := (hb.cell (World.block_lt_of_cell? _ _ (hHeld.2.2.2.2.2))).trans (hHeld.2.2.2.2.2)
         refine ⟨_,rfl,?_⟩
         have n0_ := mk0 (Kd.R_below (by exact rX HO_9.out) hb)
         have n1_ := mk0 (Kd.R_below (by exact rX HO_196001.out) hb)
         have n2_ := mk0 (blk_below (by exact kX BK190.out) hb)
         have n3_ := mk0 (blk_below (by exact kX BK191.out) hb)
         have n4_ := mk0 (blk_below (by exact kX BK192.out) hb)
         have n5_ := mk0 (blk_below (by exact kX BK195.out) hb)
         have n6_ := mk0 (below_step (by repeat (first|(with_reducible first|exact HB.out|apply bA|apply bN|apply bD|refine bS ?_ GE190.out|refine bS ?_ GE191.out|refine bS ?_ GE192.out|refine bS ?_ GE195.out)|exact HB.out)) hb)
         clear HO_9
         clear HO_196001
         clear BK190
         clear BK191
         clear BK192
         clear BK195
         clear HB
         have HO_9 := n0_
         have HO_196001 := n1_
         have BK190 := n2_
         have BK191 := n3_
         have BK192 := n4_
         have BK195 := n5_
         have HB := n6_
         clear n0_ n1_ n2_ n3_ n4_ n5_ n6_
         (try clear hb)
         (try clear hb2)
         (try clear hk)
         (try clear hi)
         refine hK.out _ _ ⟨(blk_cell BK190.out 0).trans rfl,(blk_cell BK190.out 1).trans rfl,(blk_cell BK191.out 0).trans rfl,(blk_cell BK191.out 1).trans rfl,HS4_,HS5_⟩ (fun hHeld => ?_)
         clear hK K
         refine norm_ (a' := ?_) ?_ ?_
         rotate_left
         ·show Act.put _ (some 50) _ = _
          simp only [Act.put,List.setIfInBounds_toArray,List.set_cons_zero,List.set_cons_succ,i64_w,i32_w]
          rfl
         refine pure_ (i := 13) (N := some 51) (v := ?_) (a' := ?_) #[true,true,true,true,true,true,true,true,true,true,true,true,true,true,false,false] rfl rfl (any_of HT_.out (by kernel_rfl)) (fun _ _ _ h => h) (Or.inl ⟨by rfl,?_⟩) ?_ ?_
         rotate_left
         ·intro w'
          go_simp
          with_reducible rfl
         rotate_left
         ·simp only [Act.put,List.setIfInBounds_toArray,List.set_cons_zero,List.set_cons_succ,i64_w,i32_w]
          rfl
         refine pure_ (i := 14) (N := some 52) (v := ?_) (a' := ?_) #[true,true,true,true,true,true,true,true,true,true,true,true,true,true,true,false] rfl rfl (any_of HT_.out (by kernel_rfl)) (fun _ _ _ h => h) (Or.inl ⟨by rfl,?_⟩) ?_ ?_
         rotate_left
         ·intro w'
          go_simp
          with_reducible rfl
         rotate_left
         ·simp only [Act.put,List.setIfInBounds_toArray,List.set_cons_zero,List.set_cons_succ,i64_w,i32_w]
          rfl
         refine pure_ (i := 15) (N := some 11) (v := ?_) (a' := ?_) #[true,true,true,true,true,true,true,true,true,true,true,true,true,true,true,true] rfl rfl (any_of HT_.out (by kernel_rfl)) (fun _ _ _ h => h) (Or.inl ⟨by rfl,?_⟩) ?_ ?_
         rotate_left
         ·intro w'
          go_simp
          with_reducible rfl
         rotate_left
         ·simp only [Act.put,List.setIfInBounds_toArray,List.set_cons_zero,List.set_cons_succ,i64_w,i32_w]
          rfl
         refine done_ (done_of HT_.out (by kernel_rfl)) ?_
         try go_wp2
         go_roundg k2
         case measure => have := HJ3.out;have := HK2.out;omega
         case rel => exact ⟨(wrap64 (x10_2 + 1)),(x196001_2),(u196001),(by first|rfl|(simp;done)|(simp [*];done)),H',⟨by have := HJ3.out;have := HK2.out;omega⟩,⟨by refine rX ?_;exact HO_9.out⟩,⟨by refine rX ?_;exact HO_196001.out⟩,⟨by refine kX ?_;exact BK190.out⟩,⟨by refine kX ?_;exact BK191.out⟩,⟨by refine kX ?_;exact BK192.out⟩,⟨by refine kX ?_;exact BK195.out⟩,⟨by repeat (first|(with_reducible first|exact HB.out|apply bA|apply bN|apply bD|refine bS ?_ GE190.out|refine bS ?_ GE191.out|refine bS ?_ GE192.out|refine bS ?_ GE195.out)|exact HB.out)⟩⟩
        ·rw [if_neg c44] at H
         have c44b0 : ((wrap64 (t201 + (wrap64 (a2 * t203)))) == 0) = false := beq_eq_false_iff_ne.mpr c44
         have c44b1 : ((wrap64 (t201 + (wrap64 (a2 * t203)))) != 0) = true := bne_iff_ne.mpr c44
         by_cases c49 : x196001_2.length < 5864062014805
         ·rw [if_pos c49] at H
          have LMc49 := mk0 c49
          clear c49
          obtain ⟨y205,hy205⟩ : ∃ y_ : List (S70),y_ = (x196001_2 ++ [(⟨rdOf ByteArray.empty t196 x10_2,wrap64 (t201 + (wrap64 (a2 * t203)))⟩ : S70)]) := ⟨_,rfl⟩
          replace H : (spec_l8Sum.l0 k2 a2 t196 (wrap64 (x10_2 + 1)) a0_0 l0_1 a1_0 l1_1 (wrap64 (a0_0 + (wrap64 (a2 * a1_0)))) y205) = some (r1,r2,r3) := by first|(rw [hy205];with_reducible exact H)|(have H2_ := (Option.bind_some _ _).symm.trans H;rw [hy205];with_reducible exact H2_)|(have H2_ := (Option.bind_some _ _).symm.trans H;with_reducible exact H2_)|with_reducible exact H|(rw [hy205];exact H)|exact H
          have Ny205 := mk0 hy205
          clear hy205
          have H' := mk0 H
          clear H
          obtain ⟨Ao50,co50,eo50⟩ := Kd.R_slice HO_9.out
          subst eo50
          try go_wp2
          have n0_ := mk0 (Kd.R_drew HO_9.out)
          have n1_ := mk0 (Kd.R_drew HO_196001.out)
          have n2_ := mk0 (kD BK190.out)
          have n3_ := mk0 (kD BK191.out)
          have n4_ := mk0 (kD BK192.out)
          have n5_ := mk0 (kD BK195.out)
          have n6_ := mk0 (bD HB.out)
          clear HO_9
          clear HO_196001
          clear BK190
          clear BK191
          clear BK192
          clear BK195
          clear HB
          have HO_9 := n0_
          have HO_196001 := n1_
          have BK190 := n2_
          have BK191 := n3_
          have BK192 := n4_
          have BK195 := n5_
          have HB := n6_
          clear n0_ n1_ n2_ n3_ n4_ n5_ n6_
          have p200 : 0 ≤ (x10_2 : Int) := of_decide_eq_true (by first|(with_reducible assumption)|assumption)
          have q200 : x10_2 < (t196.length : Int) := of_decide_eq_true (by first|(with_reducible assumption)|assumption)
          obtain ⟨ad200,e200,hx200_0⟩ := Kd.at_string (Kd.R_reads' HO_9.out).2.2 x10_2 p200 q200
          cases e200
          replace p200 := eq_true p200
          replace q200 := eq_true q200
          have p202 : 0 ≤ (x10_2 : Int) := of_decide_eq_true (by first|(with_reducible assumption)|assumption)
          have q202 : x10_2 < (t196.length : Int) := of_decide_eq_true (by first|(with_reducible assumption)|assumption)
          obtain ⟨ad202,e202,hx202_0⟩ := Kd.at_string (Kd.R_reads' HO_9.out).2.2 x10_2 p202 q202
          obtain rfl : ad200 = ad202 := (by injection e202)
          replace p202 := eq_true p202
          replace q202 := eq_true q202
          refine start_ (n := 16) (S := fun w' => w'.cell? ⟨gb190,0,none⟩ = some (.int .i64 a0_0) ∧ w'.cell? ⟨gb190,1,none⟩ = some (.slice A0_1 l0_1.length c0_1) ∧ w'.cell? ⟨gb191,0,none⟩ = some (.int .i64 a1_0) ∧ w'.cell? ⟨gb191,1,none⟩ = some (.slice A1_1 l1_1.length c1_1) ∧ w'.cell? (ad200.add (x10_2).toNat) = some (.string (rdOf ByteArray.empty t196 x10_2)) ∧ w'.cell? (ad200.add (x10_2).toNat) = some (.string (rdOf ByteArray.empty t196 x10_2))) (ds := []) #[false,false,false,false,false,false,false,false,false,false,false,false,false,false,false,false] (by kernel_rfl) rfl rfl ⟨(blk_cell BK190.out 0).trans rfl,(blk_cell BK190.out 1).trans rfl,(blk_cell BK191.out 0).trans rfl,(blk_cell BK191.out 1).trans rfl,hx200_0,hx202_0⟩ (fun hHeld => ?_);refine with_tabW spec_l8Sum.tab8 spec_l8Sum.bits8 (fun HT_ HW_ => ?_)
          generalize wr.drew = w51 at HO_9 HO_196001 BK190 BK191 BK192 BK195 HB hx200_0 hx202_0 hHeld ⊢
          refine pure_ (i := 1) (N := some 39) (v := ?_) (a' := ?_) #[false,true,false,false,false,false,false,false,false,false,false,false,false,false,false,false] rfl rfl (any_of HT_.out (by kernel_rfl)) (fun _ _ _ h => h) (Or.inl ⟨by rfl,?_⟩) ?_ ?_
          rotate_left
          ·intro w'
           go_simp
           with_reducible rfl
          rotate_left
          ·simp only [Act.put,List.setIfInBounds_toArray,List.set_cons_zero,List.set_cons_succ,i64_w,i32_w]
           rfl
          refine pure_ (i := 2) (N := some 40) (v := ?_) (a' := ?_) #[false,true,true,false,false,false,false,false,false,false,false,false,false,false,false,false] rfl rfl (any_of HT_.out (by kernel_rfl)) (fun _ _ _ h => h) (Or.inl ⟨by rfl,?_⟩) ?_ ?_
          rotate_left
          ·intro w'
           go_simp
           with_reducible rfl
          rotate_left
          ·simp only [Act.put,List.setIfInBounds_toArray,List.set_cons_zero,List.set_cons_succ,i64_w,i32_w]
           rfl
          refine pure_ (i := 3) (N := some 41) (v := ?_) (a' := ?_) #[false,true,true,true,false,false,false,false,false,false,false,false,false,false,false,false] rfl rfl (any_of HT_.out (by kernel_rfl)) (fun _ _ _ h => h) (Or.inl ⟨by rfl,?_⟩) ?_ ?_
          rotate_left
          ·intro w'
           go_simp
           with_reducible rfl
          rotate_left
          ·simp only [Act.put,List.setIfInBounds_toArray,List.set_cons_zero,List.set_cons_succ,i64_w,i32_w]
           rfl
          refine pure_ (i := 6) (N := some 44) (v := ?_) (a' := ?_) #[false,true,true,true,false,false,true,false,false,false,false,false,false,false,false,false] rfl rfl (any_of HT_.out (by kernel_rfl)) (fun _ _ _ h => h) (Or.inl ⟨by rfl,?_⟩) ?_ ?_
          rotate_left
          ·intro w'
           go_simp
           with_reducible rfl
          rotate_left
          ·simp only [Act.put,List.setIfInBounds_toArray,List.set_cons_zero,List.set_cons_succ,i64_w,i32_w]
           rfl
          refine pure_ (i := 8) (N := some 46) (v := ?_) (a' := ?_) #[false,true,true,true,false,false,true,false,true,false,false,false,false,false,false,false] rfl rfl (any_of HT_.out (by kernel_rfl)) (fun _ _ _ h => h) (Or.inl ⟨by rfl,?_⟩) ?_ ?_
          rotate_left
          ·intro w'
           go_simp
           with_reducible rfl
          rotate_left
          ·simp only [Act.put,List.setIfInBounds_toArray,List.set_cons_zero,List.set_cons_succ,i64_w,i32_w]
           rfl
          refine pure_ (i := 9) (N := some 47) (v := ?_) (a' := ?_) #[false,true,true,true,false,false,true,false,true,true,false,false,false,false,false,false] rfl rfl (any_of HT_.out (by kernel_rfl)) (fun _ _ _ h => h) (Or.inl ⟨by rfl,?_⟩) ?_ ?_
          rotate_left
          ·intro w'
           go_simp
           with_reducible rfl
          rotate_left
          ·simp only [Act.put,List.setIfInBounds_toArray,List.set_cons_zero,List.set_cons_succ,i64_w,i32_w]
           rfl
          refine pure_ (i := 10) (N := some 48) (v := ?_) (a' := ?_) #[false,true,true,true,false,false,true,false,true,true,true,false,false,false,false,false] rfl rfl (any_of HT_.out (by kernel_rfl)) (fun _ _ _ h => h) (Or.inl ⟨by rfl,?_⟩) ?_ ?_
          rotate_left
          ·intro w'
           go_simp
           with_reducible rfl
          rotate_left
          ·simp only [Act.put,List.setIfInBounds_toArray,List.set_cons_zero,List.set_cons_succ,i64_w,i32_w]
           rfl
          refine take_ (i := 0) (N := some 38) (v := ?_) (a' := ?_) #[true,true,true,true,false,false,true,false,true,true,true,false,false,false,false,false] rfl rfl (take_ofW HT_.out HW_.out (by kernel_rfl)) (fun _ _ _ h => h) (Or.inl ⟨by rfl,?_⟩) hHeld ?_ ?_
          rotate_left
          ·rintro w' ⟨s0,s1,s2,s3,s4,s5⟩
           go_simp
           with_reducible rfl
          rotate_left
          ·simp only [Act.put,List.setIfInBounds_toArray,List.set_cons_zero,List.set_cons_succ,i64_w,i32_w]
           rfl
          refine take_ (i := 4) (N := some 42) (v := ?_) (a' := ?_) #[true,true,true,true,true,false,true,false,true,true,true,false,false,false,false,false] rfl rfl (take_ofW HT_.out HW_.out (by kernel_rfl)) (fun _ _ _ h => h) (Or.inl ⟨by rfl,?_⟩) hHeld ?_ ?_
          rotate_left
          ·rintro w' ⟨s0,s1,s2,s3,s4,s5⟩
           go_simp
           with_reducible rfl
          rotate_left
          ·simp only [Act.put,List.setIfInBounds_toArray,List.set_cons_zero,List.set_cons_succ,i64_w,i32_w]
           rfl
          refine take_ (i := 7) (N := some 45) (v := ?_) (a' := ?_) #[true,true,true,true,true,false,true,true,true,true,true,false,false,false,false,false] rfl rfl (take_ofW HT_.out HW_.out (by kernel_rfl)) (fun _ _ _ h => h) (Or.inl ⟨by rfl,?_⟩) hHeld ?_ ?_
          rotate_left
          ·rintro w' ⟨s0,s1,s2,s3,s4,s5⟩
           go_simp
           with_reducible rfl
          rotate_left
          ·simp only [Act.put,List.setIfInBounds_toArray,List.set_cons_zero,List.set_cons_succ,i64_w,i32_w]
           rfl
          refine take_ (i := 11) (N := some 49) (v := ?_) (a' := ?_) #[true,true,true,true,true,false,true,true,true,true,true,true,false,false,false,false] rfl rfl (take_ofW HT_.out HW_.out (by kernel_rfl)) (fun _ _ _ h => h) (Or.inl ⟨by rfl,?_⟩) hHeld ?_ ?_
          rotate_left
          ·rintro w' ⟨s0,s1,s2,s3,s4,s5⟩
           go_simp
           with_reducible rfl
          rotate_left
          ·simp only [Act.put,List.setIfInBounds_toArray,List.set_cons_zero,List.set_cons_succ,i64_w,i32_w]
           rfl
          refine one_ (i := 5) (N := some 43) #[true,true,true,true,true,true,true,true,true,true,true,true,false,false,false,false] rfl rfl (one_of HT_.out (by kernel_rfl)) (by decide) (fun K hK => ?_)
          refine goes_ Try.func29 (by kernel_rfl) rfl #[.agg #[.int .i64 a0_0,.slice A0_1 l0_1.length c0_1],.string (rdOf ByteArray.empty t196 x10_2)] (by rfl) rfl rfl (by (try simp only [List.map_toArray,List.map_cons,List.map_nil]);first|done|rfl) ?_
          with_reducible refine (spec_CoefOf.calls k2 a0_0 _ _ l0_1 (rdOf ByteArray.empty t196 x10_2) t201 _ ?side1 ?side2 A42.out).mono ?_
          (case side1 => repeat (first|exact (Kd.C_below HR0_1.out HB.out)|(with_reducible refine cA ?_ _)|(with_reducible refine cN ?_ _)|(with_reducible refine cD ?_)))
          (case side2 => exact HC0_1.out)
          rintro e w52 ⟨rfl,hb⟩
          have HS4_ := (hb.cell (World.block_lt_of_cell? _ _ (hHeld.2.2.2.2.1))).trans (hHeld.2.2.2.2.1)
          have HS5_ := (hb.cell (World.block_lt_of_cell? _ _ (hHeld.2.2.2.2.2))).trans (hHeld.2.2.2.2.2)
          refine ⟨_,rfl,?_⟩
          have n0_ := mk0 (Kd.R_below (by exact rX HO_9.out) hb)
          have n1_ := mk0 (Kd.R_below (by exact rX HO_196001.out) hb)
          have n2_ := mk0 (blk_below (by exact kX BK190.out) hb)
          have n3_ := mk0 (blk_below (by exact kX BK191.out) hb)
          have n4_ := mk0 (blk_below (by exact kX BK192.out) hb)
          have n5_ := mk0 (blk_below (by exact kX BK195.out) hb)
          have n6_ := mk0 (below_step (by repeat (first|(with_reducible first|exact HB.out|apply bA|apply bN|apply bD|refine bS ?_ GE190.out|refine bS ?_ GE191.out|refine bS ?_ GE192.out|refine bS ?_ GE195.out)|exact HB.out)) hb)
          clear HO_9
          clear HO_196001
          clear BK190
          clear BK191
          clear BK192
          clear BK195
          clear HB
          have HO_9 := n0_
          have HO_196001 := n1_
          have BK190 := n2_
          have BK191 := n3_
          have BK192 := n4_
          have BK195 := n5_
          have HB := n6_
          clear n0_ n1_ n2_ n3_ n4_ n5_ n6_
          (try clear hb)
          (try clear hb2)
          (try clear hk)
          (try clear hi)
          refine hK.out _ _ ⟨(blk_cell BK190.out 0).trans rfl,(blk_cell BK190.out 1).trans rfl,(blk_cell BK191.out 0).trans rfl,(blk_cell BK191.out 1).trans rfl,HS4_,HS5_⟩ (fun hHeld => ?_)
          clear hK K
          refine norm_ (a' := ?_) ?_ ?_
          rotate_left
          ·show Act.put _ (some 43) _ = _
           simp only [Act.put,List.setIfInBounds_toArray,List.set_cons_zero,List.set_cons_succ,i64_w,i32_w]
           rfl
          refine one_ (i := 12) (N := some 50) #[true,true,true,true,true,true,true,true,true,true,true,true,true,false,false,false] rfl rfl (one_of HT_.out (by kernel_rfl)) (by decide) (fun K hK => ?_)
          refine goes_ Try.func29 (by kernel_rfl) rfl #[.agg #[.int .i64 a1_0,.slice A1_1 l1_1.length c1_1],.string (rdOf ByteArray.empty t196 x10_2)] (by rfl) rfl rfl (by (try simp only [List.map_toArray,List.map_cons,List.map_nil]);first|done|rfl) ?_
          with_reducible refine (spec_CoefOf.calls k2 a1_0 _ _ l1_1 (rdOf ByteArray.empty t196 x10_2) t203 _ ?side1 ?side2 A43.out).mono ?_
          (case side1 => repeat (first|exact (Kd.C_below HR1_1.out HB.out)|(with_reducible refine cA ?_ _)|(with_reducible refine cN ?_ _)|(with_reducible refine cD ?_)))
          (case side2 => exact HC1_1.out)
          rintro e w53 ⟨rfl,hb⟩
          have HS4_ := (hb.cell (World.block_lt_of_cell? _ _ (hHeld.2.2.2.2.1))).trans (hHeld.2.2.2.2.1)
          have HS5_ := (hb.cell (World.block_lt_of_cell? _ _ (hHeld.2.2.2.2.2))).trans (hHeld.2.2.2.2.2)
          refine ⟨_,rfl,?_⟩
          have n0_ := mk0 (Kd.R_below (by exact rX HO_9.out) hb)
          have n1_ := mk0 (Kd.R_below (by exact rX HO_196001.out) hb)
          have n2_ := mk0 (blk_below (by exact kX BK190.out) hb)
          have n3_ := mk0 (blk_below (by exact kX BK191.out) hb)
          have n4_ := mk0 (blk_below (by exact kX BK192.out) hb)
          have n5_ := mk0 (blk_below (by exact kX BK195.out) hb)
          have n6_ := mk0 (below_step (by repeat (first|(with_reducible first|exact HB.out|apply bA|apply bN|apply bD|refine bS ?_ GE190.out|refine bS ?_ GE191.out|refine bS ?_ GE192.out|refine bS ?_ GE195.out)|exact HB.out)) hb)
          clear HO_9
          clear HO_196001
          clear BK190
          clear BK191
          clear BK192
          clear BK195
          clear HB
          have HO_9 := n0_
          have HO_196001 := n1_
          have BK190 := n2_
          have BK191 := n3_
          have BK192 := n4_
          have BK195 := n5_
          have HB := n6_
          clear n0_ n1_ n2_ n3_ n4_ n5_ n6_
          (try clear hb)
          (try clear hb2)
          (try clear hk)
          (try clear hi)
          refine hK.out _ _ ⟨(blk_cell BK190.out 0).trans rfl,(blk_cell BK190.out 1).trans rfl,(blk_cell BK191.out 0).trans rfl,(blk_cell BK191.out 1).trans rfl,HS4_,HS5_⟩ (fun hHeld => ?_)
          clear hK K
          refine norm_ (a' := ?_) ?_ ?_
          rotate_left
          ·show Act.put _ (some 50) _ = _
           simp only [Act.put,List.setIfInBounds_toArray,List.set_cons_zero,List.set_cons_succ,i64_w,i32_w]
           rfl
          refine pure_ (i := 13) (N := some 51) (v := ?_) (a' := ?_) #[true,true,true,true,true,true,true,true,true,true,true,true,true,true,false,false] rfl rfl (any_of HT_.out (by kernel_rfl)) (fun _ _ _ h => h) (Or.inl ⟨by rfl,?_⟩) ?_ ?_
          rotate_left
          ·intro w'
           go_simp
           with_reducible rfl
          rotate_left
          ·simp only [Act.put,List.setIfInBounds_toArray,List.set_cons_zero,List.set_cons_succ,i64_w,i32_w]
           rfl
          refine pure_ (i := 14) (N := some 52) (v := ?_) (a' := ?_) #[true,true,true,true,true,true,true,true,true,true,true,true,true,true,true,false] rfl rfl (any_of HT_.out (by kernel_rfl)) (fun _ _ _ h => h) (Or.inl ⟨by rfl,?_⟩) ?_ ?_
          rotate_left
          ·intro w'
           go_simp
           with_reducible rfl
          rotate_left
          ·simp only [Act.put,List.setIfInBounds_toArray,List.set_cons_zero,List.set_cons_succ,i64_w,i32_w]
           rfl
          refine pure_ (i := 15) (N := some 11) (v := ?_) (a' := ?_) #[true,true,true,true,true,true,true,true,true,true,true,true,true,true,true,true] rfl rfl (any_of HT_.out (by kernel_rfl)) (fun _ _ _ h => h) (Or.inl ⟨by rfl,?_⟩) ?_ ?_
          rotate_left
          ·intro w'
           go_simp
           with_reducible rfl
          rotate_left
          ·simp only [Act.put,List.setIfInBounds_toArray,List.set_cons_zero,List.set_cons_succ,i64_w,i32_w]
           rfl
          refine done_ (done_of HT_.out (by kernel_rfl)) ?_
          try go_wp2
          have n0_ := mk0 (Kd.R_drew HO_9.out)
          have n1_ := mk0 (Kd.R_drew HO_196001.out)
          have n2_ := mk0 (kD BK190.out)
          have n3_ := mk0 (kD BK191.out)
          have n4_ := mk0 (kD BK192.out)
          have n5_ := mk0 (kD BK195.out)
          have n6_ := mk0 (bD HB.out)
          clear HO_9
          clear HO_196001
          clear BK190
          clear BK191
          clear BK192
          clear BK195
          clear HB
          have HO_9 := n0_
          have HO_196001 := n1_
          have BK190 := n2_
          have BK191 := n3_
          have BK192 := n4_
          have BK195 := n5_
          have HB := n6_
          clear n0_ n1_ n2_ n3_ n4_ n5_ n6_
          have p204 : 0 ≤ (x10_2 : Int) := of_decide_eq_true (by first|(with_reducible assumption)|assumption)
          have q204 : x10_2 < (t196.length : Int) := of_decide_eq_true (by first|(with_reducible assumption)|assumption)
          obtain ⟨ad204,e204,hx204_0⟩ := Kd.at_string (Kd.R_reads' HO_9.out).2.2 x10_2 p204 q204
          obtain rfl : ad200 = ad204 := (by injection e204)
          replace p204 := eq_true p204
          replace q204 := eq_true q204
          refine start_ (n := 12) (S := fun w' => w'.cell? ⟨gb195,0,none⟩ = some (.int .i64 (wrap64 (a0_0 + (wrap64 (a2 * a1_0))))) ∧ w'.cell? ⟨gb195,1,none⟩ = some (u196001) ∧ w'.cell? (ad200.add (x10_2).toNat) = some (.string (rdOf ByteArray.empty t196 x10_2))) (ds := [9,11]) #[false,false,false,false,false,false,false,false,false,false,false,false] (by kernel_rfl) rfl rfl ⟨(blk_cell BK195.out 0).trans rfl,(blk_cell BK195.out 1).trans rfl,hx204_0⟩ (fun hHeld => ?_);refine with_tabW spec_l8Sum.tab10 spec_l8Sum.bits10 (fun HT_ HW_ => ?_)
          generalize w53.drew = w54 at HO_9 HO_196001 BK190 BK191 BK192 BK195 HB hx204_0 hHeld ⊢
          refine pure_ (i := 0) (N := some 55) (v := ?_) (a' := ?_) #[true,false,false,false,false,false,false,false,false,false,false,false] rfl rfl (any_of HT_.out (by kernel_rfl)) (fun _ _ _ h => h) (Or.inl ⟨by rfl,?_⟩) ?_ ?_
          rotate_left
          ·intro w'
           go_simp
           with_reducible rfl
          rotate_left
          ·simp only [Act.put,List.setIfInBounds_toArray,List.set_cons_zero,List.set_cons_succ,i64_w,i32_w]
           rfl
          refine pure_ (i := 2) (N := some 57) (v := ?_) (a' := ?_) #[true,false,true,false,false,false,false,false,false,false,false,false] rfl rfl (any_of HT_.out (by kernel_rfl)) (fun _ _ _ h => h) (Or.inl ⟨by rfl,?_⟩) ?_ ?_
          rotate_left
          ·intro w'
           go_simp
           with_reducible rfl
          rotate_left
          ·simp only [Act.put,List.setIfInBounds_toArray,List.set_cons_zero,List.set_cons_succ,i64_w,i32_w]
           rfl
          refine pure_ (i := 3) (N := some 58) (v := ?_) (a' := ?_) #[true,false,true,true,false,false,false,false,false,false,false,false] rfl rfl (any_of HT_.out (by kernel_rfl)) (fun _ _ _ h => h) (Or.inl ⟨by rfl,?_⟩) ?_ ?_
          rotate_left
          ·intro w'
           go_simp
           with_reducible rfl
          rotate_left
          ·simp only [Act.put,List.setIfInBounds_toArray,List.set_cons_zero,List.set_cons_succ,i64_w,i32_w]
           rfl
          refine pure_ (i := 4) (N := some 59) (v := ?_) (a' := ?_) #[true,false,true,true,true,false,false,false,false,false,false,false] rfl rfl (any_of HT_.out (by kernel_rfl)) (fun _ _ _ h => h) (Or.inl ⟨by rfl,?_⟩) ?_ ?_
          rotate_left
          ·intro w'
           go_simp
           with_reducible rfl
          rotate_left
          ·simp only [Act.put,List.setIfInBounds_toArray,List.set_cons_zero,List.set_cons_succ,i64_w,i32_w]
           rfl
          refine pure_ (i := 6) (N := some 61) (v := ?_) (a' := ?_) #[true,false,true,true,true,false,true,false,false,false,false,false] rfl rfl (any_of HT_.out (by kernel_rfl)) (fun _ _ _ h => h) (Or.inl ⟨by rfl,?_⟩) ?_ ?_
          rotate_left
          ·intro w'
           go_simp
           with_reducible rfl
          rotate_left
          ·simp only [Act.put,List.setIfInBounds_toArray,List.set_cons_zero,List.set_cons_succ,i64_w,i32_w]
           rfl
          refine take_ (i := 1) (N := some 56) (v := ?_) (a' := ?_) #[true,true,true,true,true,false,true,false,false,false,false,false] rfl rfl (take_ofW HT_.out HW_.out (by kernel_rfl)) (fun _ _ _ h => h) (Or.inl ⟨by rfl,?_⟩) hHeld ?_ ?_
          rotate_left
          ·rintro w' ⟨s0,s1,s2⟩
           go_simp
           with_reducible rfl
          rotate_left
          ·simp only [Act.put,List.setIfInBounds_toArray,List.set_cons_zero,List.set_cons_succ,i64_w,i32_w]
           rfl
          refine take_ (i := 5) (N := some 60) (v := ?_) (a' := ?_) #[true,true,true,true,true,true,true,false,false,false,false,false] rfl rfl (take_ofW HT_.out HW_.out (by kernel_rfl)) (fun _ _ _ h => h) (Or.inl ⟨by rfl,?_⟩) hHeld ?_ ?_
          rotate_left
          ·rintro w' ⟨s0,s1,s2⟩
           go_simp
           with_reducible rfl
          rotate_left
          ·simp only [Act.put,List.setIfInBounds_toArray,List.set_cons_zero,List.set_cons_succ,i64_w,i32_w]
           rfl
          refine pure_ (i := 7) (N := some 62) (v := ?_) (a' := ?_) #[true,true,true,true,true,true,true,true,false,false,false,false] rfl rfl (any_of HT_.out (by kernel_rfl)) (fun _ _ _ h => h) (Or.inl ⟨by rfl,?_⟩) ?_ ?_
          rotate_left
          ·intro w'
           go_simp
           with_reducible rfl
          rotate_left
          ·simp only [Act.put,List.setIfInBounds_toArray,List.set_cons_zero,List.set_cons_succ,i64_w,i32_w]
           rfl
          refine one_ (i := 8) (N := some 63) #[true,true,true,true,true,true,true,true,true,false,false,false] rfl rfl (one_of HT_.out (by kernel_rfl)) (by decide) (fun K hK => ?_)
          refine value_ (w1 := ?_) (v := ?_) (by rfl) rfl ?_ ?_
          rotate_left 2
          ·go_simp
           constructor
           ·rfl
           ·rfl
          refine hK.out _ _ ⟨(blk_cell (kA BK195.out _) 0).trans rfl,(blk_cell (kA BK195.out _) 1).trans rfl,(World.cell?_alloc_lt _ _ _ (World.block_lt_of_cell? _ _ (hHeld.2.2))).trans (hHeld.2.2)⟩ (fun hHeld => ?_)
          clear hK K
          refine norm_ (a' := ?_) ?_ ?_
          rotate_left
          ·show Act.put _ (some 63) _ = _
           simp only [Act.put,List.setIfInBounds_toArray,List.set_cons_zero,List.set_cons_succ,i64_w,i32_w]
           rfl
          refine last_ (i := 9) (N := some 64) #[true,true,true,true,true,true,true,true,true,true,false,false] rfl rfl (one_of HT_.out (by kernel_rfl)) (by decide) (fun K hK => ?_)
          refine Kd.R_append_step k70 (w0 := w) w.heap.size (by rfl) (.tmp 56) (.tmp 63) 26 70 (.agg #[(.string ⟨#[]⟩),(.int .i64 0)]) 24 rfl Try.underlying26 info70 rfl (by decide) (by omega) u196001 x196001_2 (⟨rdOf ByteArray.empty t196 x10_2,wrap64 (t201 + (wrap64 (a2 * t203)))⟩ : S70) [.string (rdOf ByteArray.empty t196 x10_2),.int .i64 (wrap64 (t201 + (wrap64 (a2 * t203))))] (fun _ => True) (fun _ => False) rfl rfl ?aP (fun _ hk => hk.elim) ?aF ?aO ?aB ?aS ?aL ?_
          (case aP => exact k70_mkM _ _ _ (⟨rdOf ByteArray.empty t196 x10_2,wrap64 (t201 + (wrap64 (a2 * t203)))⟩ : S70))
          (case aB => exact (by repeat (first|(with_reducible first|exact HB.out|apply bA|apply bN|apply bD|refine bS ?_ GE190.out|refine bS ?_ GE191.out|refine bS ?_ GE192.out|refine bS ?_ GE195.out)|exact HB.out)))
          (case aF => exact (fun _ _ => trivial))
          (case aO => exact (by exact rX HO_196001.out))
          (case aS => exact (below_size (by repeat (first|(with_reducible first|exact HB.out|apply bA|apply bN|apply bD|refine bS ?_ GE190.out|refine bS ?_ GE191.out|refine bS ?_ GE192.out|refine bS ?_ GE195.out)|exact HB.out))))
          (case aL => have := LMc49.out;omega)
          intro v206 w55 ho hb hg hat
          rw [← Ny205.out] at ho
          have n0_ := mk0 (Kd.R_over' (by exact rX HO_9.out) (Kd.R_typed (by exact rX HO_196001.out)) (by decide) hg)
          have n1_ := mk0 (blk_grown (by exact kX BK190.out) hg (Kd.R_ne HO_196001.out BK190.out (by decide)))
          have n2_ := mk0 (blk_grown (by exact kX BK191.out) hg (Kd.R_ne HO_196001.out BK191.out (by decide)))
          have n3_ := mk0 (blk_grown (by exact kX BK192.out) hg (Kd.R_ne HO_196001.out BK192.out (by decide)))
          have n4_ := mk0 (blk_grown (by exact kX BK195.out) hg (Kd.R_ne HO_196001.out BK195.out (by decide)))
          have n5_ := mk0 (hb)
          have n6_ := mk0 (ho)
          clear HO_9
          clear BK190
          clear BK191
          clear BK192
          clear BK195
          clear HB
          clear HO_196001
          have HO_9 := n0_
          have BK190 := n1_
          have BK191 := n2_
          have BK192 := n3_
          have BK195 := n4_
          have HB := n5_
          have HO207 := n6_
          clear n0_ n1_ n2_ n3_ n4_ n5_ n6_
          clear ho hb hg hat
          obtain ⟨Ao56,co56,eo56⟩ := Kd.R_slice HO207.out
          (first|subst eo56|(injection eo56 with f1_ f2_ f3_;have f4_ := f1_.symm;have f5_ := f3_.symm;clear f1_ f2_ f3_;subst f4_;subst f5_))
          refine hK.out _ _ ?_
          clear hK K
          refine norm_ (a' := ?_) ?_ ?_
          rotate_left
          ·show Act.put _ (some 64) _ = _
           simp only [Act.put,List.setIfInBounds_toArray,List.set_cons_zero,List.set_cons_succ,i64_w,i32_w]
           rfl
          refine pure_ (i := 10) (N := some 65) (v := ?_) (a' := ?_) #[true,true,true,true,true,true,true,true,true,true,true,false] rfl rfl (any_of HT_.out (by kernel_rfl)) (fun _ _ _ h => h) (Or.inl ⟨by rfl,?_⟩) ?_ ?_
          rotate_left
          ·intro w'
           go_simp
           with_reducible rfl
          rotate_left
          ·simp only [Act.put,List.setIfInBounds_toArray,List.set_cons_zero,List.set_cons_succ,i64_w,i32_w]
           rfl
          refine last_ (i := 11) (N := none) #[true,true,true,true,true,true,true,true,true,true,true,true] rfl rfl (one_of HT_.out (by kernel_rfl)) (by decide) (fun K hK => ?_)
          have hs57 : w55.cell? ⟨gb195,1,none⟩ = some (u196001) := (blk_cell BK195.out 1).trans rfl
          have hfs57 := blk_frozen BK195.out 1
          have hns57_0 := NB190_195.out
          have hns57_1 := NB191_195.out
          have hns57_2 := NB192_195.out
          have hms57_0 := NB195_190.out
          have hms57_1 := NB195_191.out
          have hms57_2 := NB195_192.out
          refine skip_ (w1 := ?_) (by rfl) rfl ?_ ?_
          rotate_left
          ·go_simp
           rfl
          refine hK.out _ _ ?_
          clear hK K
          refine done_ (done_of HT_.out (by kernel_rfl)) ?_
          try go_wp2
          go_roundg k2
          case measure => have := HJ3.out;have := HK2.out;omega
          case rel => exact ⟨(wrap64 (x10_2 + 1)),(y205),(.slice Ao56 y205.length co56),(by first|rfl|(simp;done)|(simp [*];done)),H',⟨by have := HJ3.out;have := HK2.out;omega⟩,⟨by refine rX ?_;exact Kd.R_mono (Kd.R_far (p := ⟨gb195,1,none⟩) (Kd.R_types HO_9.out BK195.out (by decide)) (fun _ hk => hk.2) (.slice Ao56 y205.length co56)) (fun _ hk => trivial)⟩,⟨by refine rX ?_;exact Kd.R_mono (Kd.R_far (p := ⟨gb195,1,none⟩) (Kd.R_types HO207.out BK195.out (by decide)) (fun _ hk => hk.2) (.slice Ao56 y205.length co56)) (fun _ hk => trivial)⟩,⟨by refine kX ?_;refine blk_far ?_ NB190_195.out _;refine kX ?_;exact BK190.out⟩,⟨by refine kX ?_;refine blk_far ?_ NB191_195.out _;refine kX ?_;exact BK191.out⟩,⟨by refine kX ?_;refine blk_far ?_ NB192_195.out _;refine kX ?_;exact BK192.out⟩,⟨by refine kX ?_;refine blk_put (cs := #[.int .i64 (wrap64 (a0_0 + (wrap64 (a2 * a1_0)))),u196001]) ?_ 1 _ rfl;refine kX ?_;exact BK195.out⟩,⟨by repeat (first|(with_reducible first|exact HB.out|apply bA|apply bN|apply bD|refine bS ?_ GE190.out|refine bS ?_ GE191.out|refine bS ?_ GE192.out|refine bS ?_ GE195.out)|exact HB.out)⟩⟩
         ·rw [if_neg c49] at H
          exact absurd H (by simp)
       ·rw [if_neg c41] at H
        exact absurd H (by simp)
      ·rw [if_neg c40] at H
       have c40b0 : decide (x10_2 < (t196.length : Int)) = false := decide_eq_false c40
       clear c40
       obtain ⟨t199,A58,H⟩ := bindA H
       by_cases c59 : t199 = true
       ·subst c59
        rw [if_pos rfl] at H
        simp only [Option.some.injEq,Prod.mk.injEq] at H
        obtain ⟨rfl,rfl,rfl⟩ := H
        obtain ⟨Ao60,co60,eo60⟩ := Kd.R_slice HO_9.out
        subst eo60
        have hnb61 := NB195_190.out
        have hnc61 := NB190_195.out
        have hnb62 := NB195_191.out
        have hnc62 := NB191_195.out
        have hnb63 := NB195_192.out
        have hnc63 := NB192_195.out
        have z64 := bc2 BK195.out
        obtain ⟨Ao65,co65,eo65⟩ := Kd.R_slice HO_196001.out
        subst eo65
        go_wp2_with (first|((with_reducible refine gate_callee (f := 27) rfl ?_);refine goesL_ (some 67) rfl rfl Try.func27 (by kernel_rfl) rfl #[.agg #[.int .i64 (wrap64 (a0_0 + (wrap64 (a2 * a1_0)))),.slice Ao65 x196001_2.length co65]] rfl (by (try simp only [List.map_toArray,List.map_cons,List.map_nil]);first|done|rfl) ?_;(with_reducible refine (spec_AffOk.calls k2 (wrap64 (a0_0 + (wrap64 (a2 * a1_0)))) _ _ x196001_2 true _ ?side1 ?side2 A58.out).mono ?_);(case side1 => repeat (first|exact (Kd.R_reads' HO_196001.out).2.2|(with_reducible refine cA ?_ _)|(with_reducible refine cN ?_ _)|(with_reducible refine cD ?_)));(case side2 => exact (Kd.R_reads' HO_196001.out).2.1);rintro e w66 ⟨rfl,hb⟩;refine ⟨_,rfl,?_⟩;have n0_ := mk0 (Kd.R_below (by exact rX HO_9.out) hb);have n1_ := mk0 (Kd.R_below (by exact rX HO_196001.out) hb);have n2_ := mk0 (blk_below (by exact kX BK190.out) hb);have n3_ := mk0 (blk_below (by exact kX BK191.out) hb);have n4_ := mk0 (blk_below (by exact kX BK192.out) hb);have n5_ := mk0 (blk_below (by exact kX BK195.out) hb);have n6_ := mk0 (below_step (by repeat (first|(with_reducible first|exact HB.out|apply bA|apply bN|apply bD|refine bS ?_ GE190.out|refine bS ?_ GE191.out|refine bS ?_ GE192.out|refine bS ?_ GE195.out)|exact HB.out)) hb);clear HO_9;clear HO_196001;clear BK190;clear BK191;clear BK192;clear BK195;clear HB;have HO_9 := n0_;have HO_196001 := n1_;have BK190 := n2_;have BK191 := n3_;have BK192 := n4_;have BK195 := n5_;have HB := n6_;clear n0_ n1_ n2_ n3_ n4_ n5_ n6_;(try clear hb);(try clear hb2);(try clear hk);(try clear hi);have z67 := bc2 BK195.out;have hnb68 := NB192_190.out;have hnc68 := NB190_192.out;have hnb69 := NB192_191.out;have hnc69 := NB191_192.out;have z70 := bc2 BK192.out))
        refine bodyPost_ret (results_ct rfl _ _ gb192 28 #[.int .i64 (wrap64 (a0_0 + (wrap64 (a2 * a1_0)))),.slice Ao65 x196001_2.length co65] (0,0) _ rfl (by refine kX ?_;refine blk_put (cs := #[.int .i64 (wrap64 (a0_0 + (wrap64 (a2 * a1_0)))),.slice none 0 0]) ?_ 1 _ rfl;refine kX ?_;refine blk_put (cs := #[.int .i64 0,.slice none 0 0]) ?_ 0 _ rfl;exact kX BK192.out) Try.underlying28 rfl (by kernel_rfl)) rfl ?_
        exact ⟨_,by first|rfl|(simp [errW_none,errW_some] <;> rfl)|(simp [*,errW_none,errW_some] <;> rfl),by refine rX ?_;exact Kd.R_mono (Kd.R_far (p := ⟨gb192,1,none⟩) (Kd.R_far (p := ⟨gb192,0,none⟩) (Kd.R_types HO_196001.out BK192.out (by decide)) (fun _ hk => hk.2) (.int .i64 (wrap64 (a0_0 + (wrap64 (a2 * a1_0)))))) (fun _ hk => hk.2) (.slice Ao65 x196001_2.length co65)) (fun _ hk => trivial),by repeat (first|(with_reducible first|exact HB.out|apply bA|apply bN|apply bD|refine bS ?_ GE190.out|refine bS ?_ GE191.out|refine bS ?_ GE192.out|refine bS ?_ GE195.out)|exact HB.out)⟩
       ·replace c59 := Bool.eq_false_iff.mpr c59
        subst c59
        rw [if_neg (show ¬ (false = true) by decide)] at H
        simp only [Option.some.injEq,Prod.mk.injEq] at H
        obtain ⟨rfl,rfl,rfl⟩ := H
        obtain ⟨Ao71,co71,eo71⟩ := Kd.R_slice HO_9.out
        subst eo71
        have hnb72 := NB195_190.out
        have hnc72 := NB190_195.out
        have hnb73 := NB195_191.out
        have hnc73 := NB191_195.out
        have hnb74 := NB195_192.out
        have hnc74 := NB192_195.out
        have z75 := bc2 BK195.out
        obtain ⟨Ao76,co76,eo76⟩ := Kd.R_slice HO_196001.out
        subst eo76
        go_wp2_with (first|((with_reducible refine gate_callee (f := 27) rfl ?_);refine goesL_ (some 67) rfl rfl Try.func27 (by kernel_rfl) rfl #[.agg #[.int .i64 (wrap64 (a0_0 + (wrap64 (a2 * a1_0)))),.slice Ao76 x196001_2.length co76]] rfl (by (try simp only [List.map_toArray,List.map_cons,List.map_nil]);first|done|rfl) ?_;(with_reducible refine (spec_AffOk.calls k2 (wrap64 (a0_0 + (wrap64 (a2 * a1_0)))) _ _ x196001_2 false _ ?side1 ?side2 A58.out).mono ?_);(case side1 => repeat (first|exact (Kd.R_reads' HO_196001.out).2.2|(with_reducible refine cA ?_ _)|(with_reducible refine cN ?_ _)|(with_reducible refine cD ?_)));(case side2 => exact (Kd.R_reads' HO_196001.out).2.1);rintro e w77 ⟨rfl,hb⟩;refine ⟨_,rfl,?_⟩;have n0_ := mk0 (Kd.R_below (by exact rX HO_9.out) hb);have n1_ := mk0 (Kd.R_below (by exact rX HO_196001.out) hb);have n2_ := mk0 (blk_below (by exact kX BK190.out) hb);have n3_ := mk0 (blk_below (by exact kX BK191.out) hb);have n4_ := mk0 (blk_below (by exact kX BK192.out) hb);have n5_ := mk0 (blk_below (by exact kX BK195.out) hb);have n6_ := mk0 (below_step (by repeat (first|(with_reducible first|exact HB.out|apply bA|apply bN|apply bD|refine bS ?_ GE190.out|refine bS ?_ GE191.out|refine bS ?_ GE192.out|refine bS ?_ GE195.out)|exact HB.out)) hb);clear HO_9;clear HO_196001;clear BK190;clear BK191;clear BK192;clear BK195;clear HB;have HO_9 := n0_;have HO_196001 := n1_;have BK190 := n2_;have BK191 := n3_;have BK192 := n4_;have BK195 := n5_;have HB := n6_;clear n0_ n1_ n2_ n3_ n4_ n5_ n6_;(try clear hb);(try clear hb2);(try clear hk);(try clear hi);have hnb78 := NB192_190.out;have hnc78 := NB190_192.out;have hnb79 := NB192_191.out;have hnc79 := NB191_192.out;have z80 := bc2 BK192.out))
        refine bodyPost_ret (results_ct rfl _ _ gb192 28 #[.int .i64 0,.slice none 0 0] (0,0) _ rfl (by refine kX ?_;refine blk_put (cs := #[.int .i64 0,.slice none 0 0]) ?_ 1 _ rfl;refine kX ?_;refine blk_put (cs := #[.int .i64 0,.slice none 0 0]) ?_ 0 _ rfl;exact kX BK192.out) Try.underlying28 rfl (by kernel_rfl)) rfl ?_
        exact ⟨_,by first|rfl|(simp [errW_none,errW_some] <;> rfl)|(simp [*,errW_none,errW_some] <;> rfl),by first|exact Kd.R_nil _ _ _ _ _|exact Kd.N_nil _ _ _ _ _|exact Kd.V_nil _ _ _ _ _|exact Kd.Q_nil _ _ _ _ _|exact Kd.S_nil _ _ _ _ _,by repeat (first|(with_reducible first|exact HB.out|apply bA|apply bN|apply bD|refine bS ?_ GE190.out|refine bS ?_ GE191.out|refine bS ?_ GE192.out|refine bS ?_ GE195.out)|exact HB.out)⟩
end Go.Proofs.Ytmomablfmhkppaa.PFnExactSubA
