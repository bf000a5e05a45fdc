-- The functions of a law as plain Lean functions, each with its contract: written by a program of this session.
import Derived.Test.YtmomablfmhkppaaPFnExactSubAx0
import Derived.Test.YtmomablfmhkppaaPFnExactSubAx6
namespace Go.Proofs.Ytmomablfmhkppaa.PFnExactSubA
open Go.RowKit Go.Proofs.YtmomablfmhkppaaW.PrintWords Go.Proofs.YtmomablfmhkppaaW.PrintLast Go.Proofs.YtmomablfmhkppaaW.PrintMore
attribute [local go_sem] max2_int min2_int max_two min_two max_three min_three max_four min_four   -- for this text's walks alone
set_option linter.unusedVariables false
set_option linter.unusedSimpArgs false

/-! ### impl_mix: function 40 -/
mutual
def impl_mix.l0 : Nat → Int → List (S70) → Int → Int → Int → List (S70) → Int → List (S70) → Int → List (S70) → Option (Int × (List (S70)) × Bool)
 | 0, _, _, _, _, _, _, _, _, _, _ => none
 | k + 1, x2, x24, x25, x26, x224000, x224001, x225000, x225001, x227000, x227001 => if x26 < x25 then (if 0 ≤ x26 then (if x26 < (x24.length : Int) then ((impl_CoefOf.f k x225000 x225001 ((rd_T70 x24 x26).f0)).bind fun t229 => (if (wrap64 (((rd_T70 x24 x26).f1) + (wrap64 (x2 * t229)))) = 0 then (impl_mix.l0 k x2 x24 x25 (wrap64 (x26 + 1)) x224000 x224001 x225000 x225001 x227000 x227001) else (if x227001.length < 5864062014805 then (impl_mix.l0 k x2 x24 x25 (wrap64 (x26 + 1)) x224000 x224001 x225000 x225001 x227000 (x227001 ++ [(⟨(rd_T70 x24 x26).f0, wrap64 (((rd_T70 x24 x26).f1) + (wrap64 (x2 * t229)))⟩ : S70)])) else (none)))) else (none)) else (none)) else (impl_mix.l1 k x2 x225001 (x225001.length : Int) 0 x224000 x224001 x227000 x227001)
def impl_mix.l1 : Nat → Int → List (S70) → Int → Int → Int → List (S70) → Int → List (S70) → Option (Int × (List (S70)) × Bool)
 | 0, _, _, _, _, _, _, _, _ => none
 | k + 1, x2, x52, x53, x54, x224000, x224001, x227000, x227001 => if x54 < x53 then (if 0 ≤ x54 then (if x54 < (x52.length : Int) then (if (wrap64 (x2 * ((rd_T70 x52 x54).f1))) = 0 then (impl_mix.l1 k x2 x52 x53 (wrap64 (x54 + 1)) x224000 x224001 x227000 x227001) else ((impl_CoefOf.f k x224000 x224001 ((rd_T70 x52 x54).f0)).bind fun t235 => (if t235 = 0 then (if x227001.length < 5864062014805 then (impl_mix.l1 k x2 x52 x53 (wrap64 (x54 + 1)) x224000 x224001 x227000 (x227001 ++ [(⟨(rd_T70 x52 x54).f0, wrap64 (x2 * ((rd_T70 x52 x54).f1))⟩ : S70)])) else (none)) else (impl_mix.l1 k x2 x52 x53 (wrap64 (x54 + 1)) x224000 x224001 x227000 x227001)))) else (none)) else (none)) else ((impl_Term_75.f x227001).bind fun t239 => ((impl_AffOk.f k x227000 t239).bind fun t240 => (if t240 = true then (some (x227000, t239, true)) else (some (0, ([] : List (S70)), false)))))
end
def impl_mix.f (k : Nat) (a0_0 : Int) (l0_1 : List (S70)) (a1_0 : Int) (l1_1 : List (S70)) (a2 : Int) : Option (Int × (List (S70)) × Bool) := impl_mix.l0 k a2 l0_1 (l0_1.length : Int) 0 a0_0 l0_1 a1_0 l1_1 (wrap64 (a0_0 + (wrap64 (a2 * a1_0)))) ([] : List (S70))
theorem impl_mix.mono_l : ∀ k, (∀ y0 y1 y2 y3 y4 y5 y6 y7 y8 y9, LeO (impl_mix.l0 k y0 y1 y2 y3 y4 y5 y6 y7 y8 y9) (impl_mix.l0 (k + 1) y0 y1 y2 y3 y4 y5 y6 y7 y8 y9)) ∧ (∀ y0 y1 y2 y3 y4 y5 y6 y7, LeO (impl_mix.l1 k y0 y1 y2 y3 y4 y5 y6 y7) (impl_mix.l1 (k + 1) y0 y1 y2 y3 y4 y5 y6 y7))
 | 0 => ⟨fun _ _ _ _ _ _ _ _ _ _ r h => by simp [impl_mix.l0] at h, fun _ _ _ _ _ _ _ _ r h => by simp [impl_mix.l1] at h⟩
 | k + 1 => by
  obtain ⟨ih0, ih1⟩ := impl_mix.mono_l k
  refine ⟨?_, ?_⟩
  ·intro y0 y1 y2 y3 y4 y5 y6 y7 y8 y9
   unfold impl_mix.l0
   repeat' first
   | (with_reducible exact ih0 _ _ _ _ _ _ _ _ _ _)
   | (with_reducible exact ih1 _ _ _ _ _ _ _ _)
   | (with_reducible exact impl_AffOk.mono _ _ _)
   | (with_reducible exact impl_CoefOf.mono _ _ _ _)
   | (with_reducible exact LeO.refl _)
   | (with_reducible exact LeO.none _)
   | (with_reducible refine LeO.ite ?_ ?_)
   | (with_reducible refine LeO.bind ?_ (fun _ => ?_))
   | exact ih0 _ _ _ _ _ _ _ _ _ _
   | exact ih1 _ _ _ _ _ _ _ _
   | exact impl_AffOk.mono _ _ _
   | exact impl_CoefOf.mono _ _ _ _
   | exact LeO.none _
   | refine LeO.ite ?_ ?_
   | refine LeO.bind ?_ (fun _ => ?_)
  ·intro y0 y1 y2 y3 y4 y5 y6 y7
   unfold impl_mix.l1
   repeat' first
   | (with_reducible exact ih0 _ _ _ _ _ _ _ _ _ _)
   | (with_reducible exact ih1 _ _ _ _ _ _ _ _)
   | (with_reducible exact impl_AffOk.mono _ _ _)
   | (with_reducible exact impl_CoefOf.mono _ _ _ _)
   | (with_reducible exact LeO.refl _)
   | (with_reducible exact LeO.none _)
   | (with_reducible refine LeO.ite ?_ ?_)
   | (with_reducible refine LeO.bind ?_ (fun _ => ?_))
   | exact ih0 _ _ _ _ _ _ _ _ _ _
   | exact ih1 _ _ _ _ _ _ _ _
   | exact impl_AffOk.mono _ _ _
   | exact impl_CoefOf.mono _ _ _ _
   | exact LeO.none _
   | refine LeO.ite ?_ ?_
   | refine LeO.bind ?_ (fun _ => ?_)
theorem impl_mix.mono : ∀ a0 a1 a2 a3 a4 k, LeO (impl_mix.f k a0 a1 a2 a3 a4) (impl_mix.f (k + 1) a0 a1 a2 a3 a4) := by
 intro a0 a1 a2 a3 a4 k
 obtain ⟨ih0, ih1⟩ := impl_mix.mono_l k
 unfold impl_mix.f
 repeat' first
   | (with_reducible exact ih0 _ _ _ _ _ _ _ _ _ _)
   | (with_reducible exact ih1 _ _ _ _ _ _ _ _)
   | (with_reducible exact impl_AffOk.mono _ _ _)
   | (with_reducible exact impl_CoefOf.mono _ _ _ _)
   | (with_reducible exact LeO.refl _)
   | (with_reducible exact LeO.none _)
   | (with_reducible refine LeO.ite ?_ ?_)
   | (with_reducible refine LeO.bind ?_ (fun _ => ?_))
   | exact ih0 _ _ _ _ _ _ _ _ _ _
   | exact ih1 _ _ _ _ _ _ _ _
   | exact impl_AffOk.mono _ _ _
   | exact impl_CoefOf.mono _ _ _ _
   | exact LeO.none _
   | refine LeO.ite ?_ ?_
   | refine LeO.bind ?_ (fun _ => ?_)
def impl_mix.T5 : Bool × List (List Nat × List Nat) := (true, [([], []), ([0], [0]), ([], []), ([], []), ([], []), ([4], [4]), ([3, 5], [3, 5]), ([2, 6], [2, 6]), ([1, 7], [1, 7]), ([8, 6, 0, 1, 2, 3, 4, 5, 6, 7, 8], [8])])
def impl_mix.B5 : List Nat := [0, 1, 0, 0, 0, 16, 56, 124, 255, 511]
theorem impl_mix.tab5 : rtab .any (opsOf Try.f40 5) = impl_mix.T5 := by kernel_rfl
theorem impl_mix.bits5 : waitsOk impl_mix.T5.2 impl_mix.B5 = true := by kernel_rfl
set_option maxHeartbeats 8000000 in
set_option maxRecDepth 100000 in
theorem impl_mix.calls (k : Nat) (a0_0 : Int) (A0_1 : Option Addr) (c0_1 : Nat) (l0_1 : List (S70)) (a1_0 : Int) (A1_1 : Option Addr) (c1_1 : Nat) (l1_1 : List (S70)) (a2 : Int) (r1 : Int) (r2 : List (S70)) (r3 : Bool) (w : World) (hr0_1 : Kd.C k70 w A0_1 l0_1.length l0_1) (hc0_1 : l0_1.length ≤ c0_1) (hr1_1 : Kd.C k70 w A1_1 l1_1.length l1_1) (hc1_1 : l1_1.length ≤ c1_1) (h : impl_mix.f k a0_0 l0_1 a1_0 l1_1 a2 = some (r1, r2, r3)) :
  Calls Try.prog 40 #[.agg #[.int .i64 a0_0, .slice A0_1 l0_1.length c0_1], .agg #[.int .i64 a1_0, .slice A1_1 l1_1.length c1_1], .int .i64 a2] w fun e w' => ∃ v1_ : Value, e = .returned (.tuple #[.agg #[.int .i64 r1, v1_], .bool r3]) ∧ Kd.R k70 70 w' w.heap.size (fun _ => True) v1_ r2 ∧ Below w.heap.size w w' := by
 have hu28 := Try.underlying28
 have hu70 := Try.underlying70
 have HR0_1 := mk0 hr0_1
 have HC0_1 := mk0 hc0_1
 clear hr0_1 hc0_1
 have HR1_1 := mk0 hr1_1
 have HC1_1 := mk0 hc1_1
 clear hr1_1 hc1_1
 have HB := mk0 (Below.refl w.heap.size w)
 have H : (impl_mix.l0 k a2 l0_1 (l0_1.length : Int) 0 a0_0 l0_1 a1_0 l1_1 (wrap64 (a0_0 + (wrap64 (a2 * a1_0)))) ([] : List (S70))) = some (r1,r2,r3) := h
 clear h
 have H' := mk0 H
 clear H
 go_enter Try.func40,Try.ntmps40
 go_wp2_with (first|((with_reducible refine gate_dst (N := 3) rfl ?_);refine box_event ?hg (N := 3) ?hd (cs := #[.int .i64 a0_0,.slice A0_1 l0_1.length c0_1]) (t := 28) ?hr ?_;(case hd => rfl);(case hg => rfl);(case hr => first|(go_simp;done)|(go_simp;rfl));intro gb223 hg w4 hbox hb;have q_ := qB (by repeat (first|(with_reducible first|exact HB.out|apply bA|apply bN|apply bD)|exact HB.out)) hb;have n0_ := mk0 (below_step q_ hb);have n1_ := mk0 (hbox);have n2_ := mk0 (below_size2 q_ hg);have n3_ := n2_;clear HB;have HB := n0_;have BK223 := n1_;have GW223 := n2_;have GE223 := n3_;clear q_ n0_ n1_ n2_ n3_;clear hb hbox hg)|((with_reducible refine gate_dst (N := 4) rfl ?_);refine box_event ?hg (N := 4) ?hd (cs := #[.int .i64 a1_0,.slice A1_1 l1_1.length c1_1]) (t := 28) ?hr ?_;(case hd => rfl);(case hg => rfl);(case hr => first|(go_simp;done)|(go_simp;rfl));intro gb224 hg w5 hbox hb;have q_ := qB (by repeat (first|(with_reducible first|exact HB.out|apply bA|apply bN|apply bD|refine bS ?_ GE223.out)|exact HB.out)) hb;have n0_ := mk0 (blk_below (by exact kX BK223.out) hb);have n1_ := mk0 (below_step q_ hb);have n2_ := mk0 (hbox);have n3_ := mk0 (below_size2 q_ hg);have n4_ := n3_;have n5_ := mk0 ((by rw [hg];exact Nat.ne_of_lt (blk_lt (by exact kX BK223.out)) : gb223 ≠ gb224));have n6_ := mk0 ((by rw [hg];exact Nat.ne_of_gt (blk_lt (by exact kX BK223.out)) : gb224 ≠ gb223));clear BK223;clear HB;have BK223 := n0_;have HB := n1_;have BK224 := n2_;have GW224 := n3_;have GE224 := n4_;have NB223_224 := n5_;have NB224_223 := n6_;clear q_ n0_ n1_ n2_ n3_ n4_ n5_ n6_;clear hb hbox hg)|((with_reducible refine gate_dst (N := 6) rfl ?_);refine box_event ?hg (N := 6) ?hd (cs := #[.int .i64 0,.slice none 0 0]) (t := 28) ?hr ?_;(case hd => rfl);(case hg => rfl);(case hr => first|(go_simp;done)|(go_simp;rfl));intro gb225 hg w6 hbox hb;have q_ := qB (by repeat (first|(with_reducible first|exact HB.out|apply bA|apply bN|apply bD|refine bS ?_ GE223.out|refine bS ?_ GE224.out)|exact HB.out)) hb;have n0_ := mk0 (blk_below (by exact kX BK223.out) hb);have n1_ := mk0 (blk_below (by exact kX BK224.out) hb);have n2_ := mk0 (below_step q_ hb);have n3_ := mk0 (hbox);have n4_ := mk0 (below_size2 q_ hg);have n5_ := n4_;have n6_ := mk0 ((by rw [hg];exact Nat.ne_of_lt (blk_lt (by exact kX BK223.out)) : gb223 ≠ gb225));have n7_ := mk0 ((by rw [hg];exact Nat.ne_of_gt (blk_lt (by exact kX BK223.out)) : gb225 ≠ gb223));have n8_ := mk0 ((by rw [hg];exact Nat.ne_of_lt (blk_lt (by exact kX BK224.out)) : gb224 ≠ gb225));have n9_ := mk0 ((by rw [hg];exact Nat.ne_of_gt (blk_lt (by exact kX BK224.out)) : gb225 ≠ gb224));clear BK223;clear BK224;clear HB;have BK223 := n0_;have BK224 := n1_;have HB := n2_;have BK225 := n3_;have GW225 := n4_;have GE225 := n5_;have NB223_225 := n6_;have NB225_223 := n7_;have NB224_225 := n8_;have NB225_224 := n9_;clear q_ n0_ n1_ n2_ n3_ n4_ n5_ n6_ n7_ n8_ n9_;clear hb hbox hg;have hnb7 := NB223_224.out;have hnc7 := NB224_223.out;have hnb8 := NB223_225.out;have hnc8 := NB225_223.out;have z9 := bc2 BK223.out;have hnb10 := NB224_225.out;have hnc10 := NB225_224.out;have z11 := bc2 BK224.out)|((with_reducible refine gate_dst (N := 8) rfl ?_);refine box_event ?hg (N := 8) ?hd (cs := #[.int .i64 0,.slice none 0 0]) (t := 28) ?hr ?_;(case hd => rfl);(case hg => rfl);(case hr => first|(go_simp;done)|(go_simp;rfl));intro gb226 hg w12 hbox hb;have q_ := qB (by repeat (first|(with_reducible first|exact HB.out|apply bA|apply bN|apply bD|refine bS ?_ GE223.out|refine bS ?_ GE224.out|refine bS ?_ GE225.out)|exact HB.out)) hb;have n0_ := mk0 (blk_below (by exact kX BK223.out) hb);have n1_ := mk0 (blk_below (by exact kX BK224.out) hb);have n2_ := mk0 (blk_below (by exact kX BK225.out) hb);have n3_ := mk0 (below_step q_ hb);have n4_ := mk0 (hbox);have n5_ := mk0 (below_size2 q_ hg);have n6_ := n5_;have n7_ := mk0 ((by rw [hg];exact Nat.ne_of_lt (blk_lt (by exact kX BK223.out)) : gb223 ≠ gb226));have n8_ := mk0 ((by rw [hg];exact Nat.ne_of_gt (blk_lt (by exact kX BK223.out)) : gb226 ≠ gb223));have n9_ := mk0 ((by rw [hg];exact Nat.ne_of_lt (blk_lt (by exact kX BK224.out)) : gb224 ≠ gb226));have n10_ := mk0 ((by rw [hg];exact Nat.ne_of_gt (blk_lt (by exact kX BK224.out)) : gb226 ≠ gb224));have n11_ := mk0 ((by rw [hg];exact Nat.ne_of_lt (blk_lt (by exact kX BK225.out)) : gb225 ≠ gb226));have n12_ := mk0 ((by rw [hg];exact Nat.ne_of_gt (blk_lt (by exact kX BK225.out)) : gb226 ≠ gb225));clear BK223;clear BK224;clear BK225;clear HB;have BK223 := n0_;have BK224 := n1_;have BK225 := n2_;have HB := n3_;have BK226 := n4_;have GW226 := n5_;have GE226 := n6_;have NB223_226 := n7_;have NB226_223 := n8_;have NB224_226 := n9_;have NB226_224 := n10_;have NB225_226 := n11_;have NB226_225 := n12_;clear q_ n0_ n1_ n2_ n3_ n4_ n5_ n6_ n7_ n8_ n9_ n10_ n11_ n12_;clear hb hbox hg;have hnb13 := NB226_223.out;have hnc13 := NB223_226.out;have hnb14 := NB226_224.out;have hnc14 := NB224_226.out;have hnb15 := NB226_225.out;have hnc15 := NB225_226.out;have z16 := bc2 BK226.out;have z17 := bc2 BK223.out))
 go_loopg [26] k (fun kq v26 w' => ∃ (x26_1 : Int) (x227001_1 : List (S70)) (u227001 : Value),v26 = .int .i64 x26_1 ∧ Aside0 (impl_mix.l0 kq a2 l0_1 (l0_1.length : Int) x26_1 a0_0 l0_1 a1_0 l1_1 (wrap64 (a0_0 + (wrap64 (a2 * a1_0)))) x227001_1 = some (r1,r2,r3)) ∧ Aside0 (kq ≤ k) ∧ Aside0 (Kd.R k70 70 w' w.heap.size (fun _ => True) u227001 x227001_1) ∧ Aside0 (w'.heap[gb223]? = some (.cells #[.int .i64 a0_0,(.slice A0_1 l0_1.length c0_1)] 28 (0,0))) ∧ Aside0 (w'.heap[gb224]? = some (.cells #[.int .i64 a1_0,(.slice A1_1 l1_1.length c1_1)] 28 (0,0))) ∧ Aside0 (w'.heap[gb225]? = some (.cells #[.int .i64 0,(.slice none 0 0)] 28 (0,0))) ∧ Aside0 (w'.heap[gb226]? = some (.cells #[.int .i64 (wrap64 (a0_0 + (wrap64 (a2 * a1_0)))),u227001] 28 (0,0))) ∧ Aside0 (Below w.heap.size w w'))
 case atStart => exact ⟨(0),(([] : List (S70))),(.slice none 0 0),(by first|rfl|(simp;done)|(simp [*];done)),H',⟨Nat.le_refl _⟩,⟨by first|exact Kd.R_nil _ _ _ _ _|exact Kd.N_nil _ _ _ _ _|exact Kd.V_nil _ _ _ _ _|exact Kd.Q_nil _ _ _ _ _|exact Kd.S_nil _ _ _ _ _⟩,⟨by refine kX ?_;refine blk_far ?_ NB223_226.out _;refine kX ?_;refine blk_far ?_ NB223_226.out _;refine kX ?_;exact BK223.out⟩,⟨by refine kX ?_;refine blk_far ?_ NB224_226.out _;refine kX ?_;refine blk_far ?_ NB224_226.out _;refine kX ?_;exact BK224.out⟩,⟨by refine kX ?_;refine blk_far ?_ NB225_226.out _;refine kX ?_;refine blk_far ?_ NB225_226.out _;refine kX ?_;exact BK225.out⟩,⟨by refine kX ?_;refine blk_put (cs := #[.int .i64 (wrap64 (a0_0 + (wrap64 (a2 * a1_0)))),.slice none 0 0]) ?_ 1 _ rfl;refine kX ?_;refine blk_put (cs := #[.int .i64 0,.slice none 0 0]) ?_ 0 _ rfl;refine kX ?_;exact BK226.out⟩,⟨by repeat (first|(with_reducible first|exact HB.out|apply bA|apply bN|apply bD|refine bS ?_ GE223.out|refine bS ?_ GE224.out|refine bS ?_ GE225.out|refine bS ?_ GE226.out)|exact HB.out)⟩⟩
 case round =>
  clear H'
  try clear c1
  try clear p2
  try clear c4
  try clear p6
  try clear c7
  try clear c8
  try clear c10
  try clear c13
  try clear c14
  try clear c15
  try clear z11
  try clear z16
  try clear z17
  try clear z9
  try clear z11
  try clear z16
  try clear z17
  try clear z9
  obtain ⟨x26_1,x227001_1,u227001,rfl,HA,HK1,HO_227001,BK223,BK224,BK225,BK226,HB⟩ := hrel
  cases gk with
   |zero => exact absurd HA.out (by simp [impl_mix.l0])
   |succ k1 =>
   have H := HA.out
   clear HA
   simp only [impl_mix.l0] at H
   by_cases c18 : x26_1 < (l0_1.length : Int)
   ·rw [if_pos c18] at H
    have c18b0 : decide (x26_1 < (l0_1.length : Int)) = true := decide_eq_true c18
    clear c18
    by_cases c19 : 0 ≤ x26_1
    ·rw [if_pos c19] at H
     have c19b0 : decide (0 ≤ x26_1) = true := decide_eq_true c19
     clear c19
     by_cases c20 : x26_1 < (l0_1.length : Int)
     ·rw [if_pos c20] at H
      have c20b0 : decide (x26_1 < (l0_1.length : Int)) = true := decide_eq_true c20
      clear c20
      obtain ⟨t229,A21,H⟩ := bindA H
      by_cases c22 : (wrap64 (((rd_T70 l0_1 x26_1).f1) + (wrap64 (a2 * t229)))) = 0
      ·rw [if_pos c22] at H
       have c22b0 : ((wrap64 (((rd_T70 l0_1 x26_1).f1) + (wrap64 (a2 * t229)))) == 0) = true := beq_iff_eq.mpr c22
       have c22b1 : ((wrap64 (((rd_T70 l0_1 x26_1).f1) + (wrap64 (a2 * t229)))) != 0) = false := bne_eq_false_iff_eq.mpr c22
       clear c22
       have H' := mk0 H
       clear H
       have p227 : 0 ≤ (x26_1 : Int) := of_decide_eq_true (by first|(with_reducible assumption)|assumption)
       have q227 : x26_1 < (l0_1.length : Int) := of_decide_eq_true (by first|(with_reducible assumption)|assumption)
       obtain ⟨ad227,e227,hx227_0,hx227_1⟩ := at_T70 HR0_1.out x26_1 p227 q227
       cases e227
       replace hx227_0 := hbc HB.out hx227_0
       replace hx227_1 := hbc HB.out hx227_1
       replace p227 := eq_true p227
       replace q227 := eq_true q227
       try go_wp2_with (first|((with_reducible refine gate_dst (N := 10) rfl ?_);refine box_event ?hg (N := 10) ?hd (cs := #[.string (⟨#[]⟩ : ByteArray),.int .i64 0]) (t := 70) ?hr ?_;(case hd => rfl);(case hg => rfl);(case hr => first|(go_simp;done)|(go_simp;rfl));intro gb228 hg w23 hbox hb;have q_ := qB (by repeat (first|(with_reducible first|exact HB.out|apply bA|apply bN|apply bD|refine bS ?_ GE223.out|refine bS ?_ GE224.out|refine bS ?_ GE225.out|refine bS ?_ GE226.out)|exact HB.out)) hb;have n0_ := mk0 (Kd.R_below (Kd.R_elderB (by exact rX HO_227001.out) gb228 (Nat.le_of_eq hg.symm)) hb);have n1_ := mk0 (blk_below (by exact kX BK223.out) hb);have n2_ := mk0 (blk_below (by exact kX BK224.out) hb);have n3_ := mk0 (blk_below (by exact kX BK225.out) hb);have n4_ := mk0 (blk_below (by exact kX BK226.out) hb);have n5_ := mk0 (below_step q_ hb);have n6_ := mk0 (hbox);have n7_ := mk0 (below_size2 q_ hg);have n8_ := n7_;have n9_ := mk0 ((by rw [hg];exact Nat.ne_of_lt (blk_lt (by exact kX BK223.out)) : gb223 ≠ gb228));have n10_ := mk0 ((by rw [hg];exact Nat.ne_of_gt (blk_lt (by exact kX BK223.out)) : gb228 ≠ gb223));have n11_ := mk0 ((by rw [hg];exact Nat.ne_of_lt (blk_lt (by exact kX BK224.out)) : gb224 ≠ gb228));have n12_ := mk0 ((by rw [hg];exact Nat.ne_of_gt (blk_lt (by exact kX BK224.out)) : gb228 ≠ gb224));have n13_ := mk0 ((by rw [hg];exact Nat.ne_of_lt (blk_lt (by exact kX BK225.out)) : gb225 ≠ gb228));have n14_ := mk0 ((by rw [hg];exact Nat.ne_of_gt (blk_lt (by exact kX BK225.out)) : gb228 ≠ gb225));have n15_ := mk0 ((by rw [hg];exact Nat.ne_of_lt (blk_lt (by exact kX BK226.out)) : gb226 ≠ gb228));have n16_ := mk0 ((by rw [hg];exact Nat.ne_of_gt (blk_lt (by exact kX BK226.out)) : gb228 ≠ gb226));clear HO_227001;clear BK223;clear BK224;clear BK225;clear BK226;clear HB;have HO_227001 := n0_;have BK223 := n1_;have BK224 := n2_;have BK225 := n3_;have BK226 := n4_;have HB := n5_;have BK228 := n6_;have GW228 := n7_;have GE228 := n8_;have NB223_228 := n9_;have NB228_223 := n10_;have NB224_228 := n11_;have NB228_224 := n12_;have NB225_228 := n13_;have NB228_225 := n14_;have NB226_228 := n15_;have NB228_226 := n16_;clear q_ n0_ n1_ n2_ n3_ n4_ n5_ n6_ n7_ n8_ n9_ n10_ n11_ n12_ n13_ n14_ n15_ n16_;clear hb hbox hg;have hnb24 := NB228_223.out;have hnc24 := NB223_228.out;have hnb25 := NB228_224.out;have hnc25 := NB224_228.out;have hnb26 := NB228_225.out;have hnc26 := NB225_228.out;have hnb27 := NB228_226.out;have hnc27 := NB226_228.out;have z28 := bc2 BK228.out))
       have n0_ : Aside0 (Kd.R k70 70 ((w23.setCell ⟨gb228,0,none⟩ (.string ((rd_T70 l0_1 x26_1).f0))).setCell ⟨gb228,1,none⟩ (.int .i64 ((rd_T70 l0_1 x26_1).f1))) w.heap.size (fun k_ => k_ ≠ gb228) u227001 x227001_1) := ⟨by refine rX ?_;exact Kd.R_mono (Kd.R_far (p := ⟨gb228,1,none⟩) (Kd.R_far (p := ⟨gb228,0,none⟩) (Kd.R_mono HO_227001.out (fun k_ hk => (⟨hk,hk.2⟩ : _ ∧ k_ ≠ gb228))) (fun _ hk => hk.2) (.string ((rd_T70 l0_1 x26_1).f0))) (fun _ hk => hk.2) (.int .i64 ((rd_T70 l0_1 x26_1).f1))) (fun _ hk => hk.1.2)⟩
       have n1_ : Aside0 (((w23.setCell ⟨gb228,0,none⟩ (.string ((rd_T70 l0_1 x26_1).f0))).setCell ⟨gb228,1,none⟩ (.int .i64 ((rd_T70 l0_1 x26_1).f1))).heap[gb223]? = some (.cells #[.int .i64 a0_0,.slice (some ad227) l0_1.length c0_1] 28 (0,0))) := ⟨by refine kX ?_;refine blk_far ?_ NB223_228.out _;refine kX ?_;refine blk_far ?_ NB223_228.out _;refine kX ?_;exact BK223.out⟩
       have n2_ : Aside0 (((w23.setCell ⟨gb228,0,none⟩ (.string ((rd_T70 l0_1 x26_1).f0))).setCell ⟨gb228,1,none⟩ (.int .i64 ((rd_T70 l0_1 x26_1).f1))).heap[gb224]? = some (.cells #[.int .i64 a1_0,.slice A1_1 l1_1.length c1_1] 28 (0,0))) := ⟨by refine kX ?_;refine blk_far ?_ NB224_228.out _;refine kX ?_;refine blk_far ?_ NB224_228.out _;refine kX ?_;exact BK224.out⟩
       have n3_ : Aside0 (((w23.setCell ⟨gb228,0,none⟩ (.string ((rd_T70 l0_1 x26_1).f0))).setCell ⟨gb228,1,none⟩ (.int .i64 ((rd_T70 l0_1 x26_1).f1))).heap[gb225]? = some (.cells #[.int .i64 0,.slice none 0 0] 28 (0,0))) := ⟨by refine kX ?_;refine blk_far ?_ NB225_228.out _;refine kX ?_;refine blk_far ?_ NB225_228.out _;refine kX ?_;exact BK225.out⟩
       have n4_ : Aside0 (((w23.setCell ⟨gb228,0,none⟩ (.string ((rd_T70 l0_1 x26_1).f0))).setCell ⟨gb228,1,none⟩ (.int .i64 ((rd_T70 l0_1 x26_1).f1))).heap[gb226]? = some (.cells #[.int .i64 (wrap64 (a0_0 + (wrap64 (a2 * a1_0)))),u227001] 28 (0,0))) := ⟨by refine kX ?_;refine blk_far ?_ NB226_228.out _;refine kX ?_;refine blk_far ?_ NB226_228.out _;refine kX ?_;exact BK226.out⟩
       have n5_ : Aside0 (((w23.setCell ⟨gb228,0,none⟩ (.string ((rd_T70 l0_1 x26_1).f0))).setCell ⟨gb228,1,none⟩ (.int .i64 ((rd_T70 l0_1 x26_1).f1))).heap[gb228]? = some (.cells #[.string ((rd_T70 l0_1 x26_1).f0),.int .i64 ((rd_T70 l0_1 x26_1).f1)] 70 (0,0))) := ⟨by refine kX ?_;refine blk_put (cs := #[.string ((rd_T70 l0_1 x26_1).f0),.int .i64 0]) ?_ 1 _ rfl;refine kX ?_;refine blk_put (cs := #[.string (⟨#[]⟩ : ByteArray),.int .i64 0]) ?_ 0 _ rfl;refine kX ?_;exact BK228.out⟩
       have n6_ : Aside0 (Below w.heap.size w ((w23.setCell ⟨gb228,0,none⟩ (.string ((rd_T70 l0_1 x26_1).f0))).setCell ⟨gb228,1,none⟩ (.int .i64 ((rd_T70 l0_1 x26_1).f1)))) := ⟨by repeat (first|(with_reducible first|exact HB.out|apply bA|apply bN|apply bD|refine bS ?_ GE223.out|refine bS ?_ GE224.out|refine bS ?_ GE225.out|refine bS ?_ GE226.out|refine bS ?_ GE228.out)|exact HB.out)⟩
       (try clear HO_227001)
       (try clear BK223)
       (try clear BK224)
       (try clear BK225)
       (try clear BK226)
       (try clear BK228)
       (try clear HB)
       generalize ((w23.setCell ⟨gb228,0,none⟩ (.string ((rd_T70 l0_1 x26_1).f0))).setCell ⟨gb228,1,none⟩ (.int .i64 ((rd_T70 l0_1 x26_1).f1))) = w29 at n0_ n1_ n2_ n3_ n4_ n5_ n6_ ⊢
       have HO_227001 := n0_
       have BK223 := n1_
       have BK224 := n2_
       have BK225 := n3_
       have BK226 := n4_
       have BK228 := n5_
       have HB := n6_
       clear n0_ n1_ n2_ n3_ n4_ n5_ n6_
       have n0_ := mk0 (Kd.R_drew HO_227001.out)
       have n1_ := mk0 (kD BK223.out)
       have n2_ := mk0 (kD BK224.out)
       have n3_ := mk0 (kD BK225.out)
       have n4_ := mk0 (kD BK226.out)
       have n5_ := mk0 (kD BK228.out)
       have n6_ := mk0 (bD HB.out)
       clear HO_227001
       clear BK223
       clear BK224
       clear BK225
       clear BK226
       clear BK228
       clear HB
       have HO_227001 := n0_
       have BK223 := n1_
       have BK224 := n2_
       have BK225 := n3_
       have BK226 := n4_
       have BK228 := n5_
       have HB := n6_
       clear n0_ n1_ n2_ n3_ n4_ n5_ n6_
       refine start_ (n := 10) (S := fun w' => w'.cell? ⟨gb228,0,none⟩ = some (.string ((rd_T70 l0_1 x26_1).f0)) ∧ w'.cell? ⟨gb228,1,none⟩ = some (.int .i64 ((rd_T70 l0_1 x26_1).f1)) ∧ w'.cell? ⟨gb224,0,none⟩ = some (.int .i64 a1_0) ∧ w'.cell? ⟨gb224,1,none⟩ = some (.slice A1_1 l1_1.length c1_1)) (ds := []) #[false,false,false,false,false,false,false,false,false,false] (by kernel_rfl) rfl rfl ⟨(blk_cell BK228.out 0).trans rfl,(blk_cell BK228.out 1).trans rfl,(blk_cell BK224.out 0).trans rfl,(blk_cell BK224.out 1).trans rfl⟩ (fun hHeld => ?_);refine with_tabW impl_mix.tab5 impl_mix.bits5 (fun HT_ HW_ => ?_)
       generalize w29.drew = w30 at HO_227001 BK223 BK224 BK225 BK226 BK228 HB hHeld ⊢
       refine pure_ (i := 0) (N := some 30) (v := ?_) (a' := ?_) #[true,false,false,false,false,false,false,false,false,false] rfl rfl (any_of HT_.out (by kernel_rfl)) (fun _ _ _ h => h) (Or.inl ⟨by rfl,?_⟩) ?_ ?_
       rotate_left
       ·intro w'
        go_simp
        with_reducible rfl
       rotate_left
       ·simp only [Act.put,List.setIfInBounds_toArray,List.set_cons_zero,List.set_cons_succ,i64_w,i32_w]
        rfl
       refine pure_ (i := 2) (N := some 32) (v := ?_) (a' := ?_) #[true,false,true,false,false,false,false,false,false,false] rfl rfl (any_of HT_.out (by kernel_rfl)) (fun _ _ _ h => h) (Or.inl ⟨by rfl,?_⟩) ?_ ?_
       rotate_left
       ·intro w'
        go_simp
        with_reducible rfl
       rotate_left
       ·simp only [Act.put,List.setIfInBounds_toArray,List.set_cons_zero,List.set_cons_succ,i64_w,i32_w]
        rfl
       refine pure_ (i := 4) (N := some 34) (v := ?_) (a' := ?_) #[true,false,true,false,true,false,false,false,false,false] rfl rfl (any_of HT_.out (by kernel_rfl)) (fun _ _ _ h => h) (Or.inl ⟨by rfl,?_⟩) ?_ ?_
       rotate_left
       ·intro w'
        go_simp
        with_reducible rfl
       rotate_left
       ·simp only [Act.put,List.setIfInBounds_toArray,List.set_cons_zero,List.set_cons_succ,i64_w,i32_w]
        rfl
       refine take_ (i := 1) (N := some 31) (v := ?_) (a' := ?_) #[true,true,true,false,true,false,false,false,false,false] rfl rfl (take_ofW HT_.out HW_.out (by kernel_rfl)) (fun _ _ _ h => h) (Or.inl ⟨by rfl,?_⟩) hHeld ?_ ?_
       rotate_left
       ·rintro w' ⟨s0,s1,s2,s3⟩
        go_simp
        with_reducible rfl
       rotate_left
       ·simp only [Act.put,List.setIfInBounds_toArray,List.set_cons_zero,List.set_cons_succ,i64_w,i32_w]
        rfl
       refine take_ (i := 3) (N := some 33) (v := ?_) (a' := ?_) #[true,true,true,true,true,false,false,false,false,false] rfl rfl (take_ofW HT_.out HW_.out (by kernel_rfl)) (fun _ _ _ h => h) (Or.inl ⟨by rfl,?_⟩) hHeld ?_ ?_
       rotate_left
       ·rintro w' ⟨s0,s1,s2,s3⟩
        go_simp
        with_reducible rfl
       rotate_left
       ·simp only [Act.put,List.setIfInBounds_toArray,List.set_cons_zero,List.set_cons_succ,i64_w,i32_w]
        rfl
       refine take_ (i := 5) (N := some 35) (v := ?_) (a' := ?_) #[true,true,true,true,true,true,false,false,false,false] rfl rfl (take_ofW HT_.out HW_.out (by kernel_rfl)) (fun _ _ _ h => h) (Or.inl ⟨by rfl,?_⟩) hHeld ?_ ?_
       rotate_left
       ·rintro w' ⟨s0,s1,s2,s3⟩
        go_simp
        with_reducible rfl
       rotate_left
       ·simp only [Act.put,List.setIfInBounds_toArray,List.set_cons_zero,List.set_cons_succ,i64_w,i32_w]
        rfl
       refine one_ (i := 6) (N := some 36) #[true,true,true,true,true,true,true,false,false,false] rfl rfl (one_of HT_.out (by kernel_rfl)) (by decide) (fun K hK => ?_)
       refine goes_ Try.func21 (by kernel_rfl) rfl #[.agg #[.int .i64 a1_0,.slice A1_1 l1_1.length c1_1],.string ((rd_T70 l0_1 x26_1).f0)] (by rfl) rfl rfl (by (try simp only [List.map_toArray,List.map_cons,List.map_nil]);first|done|rfl) ?_
       with_reducible refine (impl_CoefOf.calls k1 a1_0 _ _ l1_1 ((rd_T70 l0_1 x26_1).f0) t229 _ ?side1 ?side2 A21.out).mono ?_
       (case side1 => repeat (first|exact (Kd.C_below HR1_1.out HB.out)|(with_reducible refine cA ?_ _)|(with_reducible refine cN ?_ _)|(with_reducible refine cD ?_)))
       (case side2 => exact HC1_1.out)
       rintro e w31 ⟨rfl,hb⟩
       refine ⟨_,rfl,?_⟩
       have n0_ := mk0 (Kd.R_below (by exact rX HO_227001.out) hb)
       have n1_ := mk0 (blk_below (by exact kX BK223.out) hb)
       have n2_ := mk0 (blk_below (by exact kX BK224.out) hb)
       have n3_ := mk0 (blk_below (by exact kX BK225.out) hb)
       have n4_ := mk0 (blk_below (by exact kX BK226.out) hb)
       have n5_ := mk0 (blk_below (by exact kX BK228.out) hb)
       have n6_ := mk0 (below_step (by repeat (first|(with_reducible first|exact HB.out|apply bA|apply bN|apply bD|refine bS ?_ GE223.out|refine bS ?_ GE224.out|refine bS ?_ GE225.out|refine bS ?_ GE226.out|refine bS ?_ GE228.out)|exact HB.out)) hb)
       clear HO_227001
       clear BK223
       clear BK224
       clear BK225
       clear BK226
       clear BK228
       clear HB
       have HO_227001 := n0_
       have BK223 := n1_
       have BK224 := n2_
       have BK225 := n3_
       have BK226 := n4_
       have BK228 := n5_
       have HB := n6_
       clear n0_ n1_ n2_ n3_ n4_ n5_ n6_
       (try clear hb)
       (try clear hb2)
       (try clear hk)
       (try clear hi)
       refine hK.out _ _ ⟨(blk_cell BK228.out 0).trans rfl,(blk_cell BK228.out 1).trans rfl,(blk_cell BK224.out 0).trans rfl,(blk_cell BK224.out 1).trans rfl⟩ (fun hHeld => ?_)
       clear hK K
       refine norm_ (a' := ?_) ?_ ?_
       rotate_left
       ·show Act.put _ (some 36) _ = _
        simp only [Act.put,List.setIfInBounds_toArray,List.set_cons_zero,List.set_cons_succ,i64_w,i32_w]
        rfl
       refine pure_ (i := 7) (N := some 37) (v := ?_) (a' := ?_) #[true,true,true,true,true,true,true,true,false,false] rfl rfl (any_of HT_.out (by kernel_rfl)) (fun _ _ _ h => h) (Or.inl ⟨by rfl,?_⟩) ?_ ?_
       rotate_left
       ·intro w'
        go_simp
        with_reducible rfl
       rotate_left
       ·simp only [Act.put,List.setIfInBounds_toArray,List.set_cons_zero,List.set_cons_succ,i64_w,i32_w]
        rfl
       refine pure_ (i := 8) (N := some 38) (v := ?_) (a' := ?_) #[true,true,true,true,true,true,true,true,true,false] rfl rfl (any_of HT_.out (by kernel_rfl)) (fun _ _ _ h => h) (Or.inl ⟨by rfl,?_⟩) ?_ ?_
       rotate_left
       ·intro w'
        go_simp
        with_reducible rfl
       rotate_left
       ·simp only [Act.put,List.setIfInBounds_toArray,List.set_cons_zero,List.set_cons_succ,i64_w,i32_w]
        rfl
       refine pure_ (i := 9) (N := some 11) (v := ?_) (a' := ?_) #[true,true,true,true,true,true,true,true,true,true] rfl rfl (any_of HT_.out (by kernel_rfl)) (fun _ _ _ h => h) (Or.inl ⟨by rfl,?_⟩) ?_ ?_
       rotate_left
       ·intro w'
        go_simp
        with_reducible rfl
       rotate_left
       ·simp only [Act.put,List.setIfInBounds_toArray,List.set_cons_zero,List.set_cons_succ,i64_w,i32_w]
        rfl
       refine done_ (done_of HT_.out (by kernel_rfl)) ?_
       try go_wp2
       go_roundg k1
       case measure => have := HK1.out;omega
       case rel => exact ⟨(wrap64 (x26_1 + 1)),(x227001_1),(u227001),(by first|rfl|(simp;done)|(simp [*];done)),H',⟨by have := HK1.out;omega⟩,⟨by refine rX ?_;exact Kd.R_mono HO_227001.out (fun _ hk => trivial)⟩,⟨by refine kX ?_;exact BK223.out⟩,⟨by refine kX ?_;exact BK224.out⟩,⟨by refine kX ?_;exact BK225.out⟩,⟨by refine kX ?_;exact BK226.out⟩,⟨by repeat (first|(with_reducible first|exact HB.out|apply bA|apply bN|apply bD|refine bS ?_ GE223.out|refine bS ?_ GE224.out|refine bS ?_ GE225.out|refine bS ?_ GE226.out|refine bS ?_ GE228.out)|exact HB.out)⟩⟩
      ·rw [if_neg c22] at H
       have c22b0 : ((wrap64 (((rd_T70 l0_1 x26_1).f1) + (wrap64 (a2 * t229)))) == 0) = false := beq_eq_false_iff_ne.mpr c22
       have c22b1 : ((wrap64 (((rd_T70 l0_1 x26_1).f1) + (wrap64 (a2 * t229)))) != 0) = true := bne_iff_ne.mpr c22
       by_cases c32 : x227001_1.length < 5864062014805
       ·rw [if_pos c32] at H
        have LMc32 := mk0 c32
        clear c32
        obtain ⟨y230,hy230⟩ : ∃ y_ : List (S70),y_ = (x227001_1 ++ [(⟨(rd_T70 l0_1 x26_1).f0,wrap64 (((rd_T70 l0_1 x26_1).f1) + (wrap64 (a2 * t229)))⟩ : S70)]) := ⟨_,rfl⟩
        replace H : (impl_mix.l0 k1 a2 l0_1 (l0_1.length : Int) (wrap64 (x26_1 + 1)) a0_0 l0_1 a1_0 l1_1 (wrap64 (a0_0 + (wrap64 (a2 * a1_0)))) y230) = some (r1,r2,r3) := by first|(rw [hy230];with_reducible exact H)|(have H2_ := (Option.bind_some _ _).symm.trans H;rw [hy230];with_reducible exact H2_)|(have H2_ := (Option.bind_some _ _).symm.trans H;with_reducible exact H2_)|with_reducible exact H|(rw [hy230];exact H)|exact H
        have Ny230 := mk0 hy230
        clear hy230
        have H' := mk0 H
        clear H
        have p227 : 0 ≤ (x26_1 : Int) := of_decide_eq_true (by first|(with_reducible assumption)|assumption)
        have q227 : x26_1 < (l0_1.length : Int) := of_decide_eq_true (by first|(with_reducible assumption)|assumption)
        obtain ⟨ad227,e227,hx227_0,hx227_1⟩ := at_T70 HR0_1.out x26_1 p227 q227
        cases e227
        replace hx227_0 := hbc HB.out hx227_0
        replace hx227_1 := hbc HB.out hx227_1
        replace p227 := eq_true p227
        replace q227 := eq_true q227
        try go_wp2_with (first|((with_reducible refine gate_dst (N := 10) rfl ?_);refine box_event ?hg (N := 10) ?hd (cs := #[.string (⟨#[]⟩ : ByteArray),.int .i64 0]) (t := 70) ?hr ?_;(case hd => rfl);(case hg => rfl);(case hr => first|(go_simp;done)|(go_simp;rfl));intro gb228 hg w33 hbox hb;have q_ := qB (by repeat (first|(with_reducible first|exact HB.out|apply bA|apply bN|apply bD|refine bS ?_ GE223.out|refine bS ?_ GE224.out|refine bS ?_ GE225.out|refine bS ?_ GE226.out)|exact HB.out)) hb;have n0_ := mk0 (Kd.R_below (Kd.R_elderB (by exact rX HO_227001.out) gb228 (Nat.le_of_eq hg.symm)) hb);have n1_ := mk0 (blk_below (by exact kX BK223.out) hb);have n2_ := mk0 (blk_below (by exact kX BK224.out) hb);have n3_ := mk0 (blk_below (by exact kX BK225.out) hb);have n4_ := mk0 (blk_below (by exact kX BK226.out) hb);have n5_ := mk0 (below_step q_ hb);have n6_ := mk0 (hbox);have n7_ := mk0 (below_size2 q_ hg);have n8_ := n7_;have n9_ := mk0 ((by rw [hg];exact Nat.ne_of_lt (blk_lt (by exact kX BK223.out)) : gb223 ≠ gb228));have n10_ := mk0 ((by rw [hg];exact Nat.ne_of_gt (blk_lt (by exact kX BK223.out)) : gb228 ≠ gb223));have n11_ := mk0 ((by rw [hg];exact Nat.ne_of_lt (blk_lt (by exact kX BK224.out)) : gb224 ≠ gb228));have n12_ := mk0 ((by rw [hg];exact Nat.ne_of_gt (blk_lt (by exact kX BK224.out)) : gb228 ≠ gb224));have n13_ := mk0 ((by rw [hg];exact Nat.ne_of_lt (blk_lt (by exact kX BK225.out)) : gb225 ≠ gb228));have n14_ := mk0 ((by rw [hg];exact Nat.ne_of_gt (blk_lt (by exact kX BK225.out)) : gb228 ≠ gb225));have n15_ := mk0 ((by rw [hg];exact Nat.ne_of_lt (blk_lt (by exact kX BK226.out)) : gb226 ≠ gb228));have n16_ := mk0 ((by rw [hg];exact Nat.ne_of_gt (blk_lt (by exact kX BK226.out)) : gb228 ≠ gb226));clear HO_227001;clear BK223;clear BK224;clear BK225;clear BK226;clear HB;have HO_227001 := n0_;have BK223 := n1_;have BK224 := n2_;have BK225 := n3_;have BK226 := n4_;have HB := n5_;have BK228 := n6_;have GW228 := n7_;have GE228 := n8_;have NB223_228 := n9_;have NB228_223 := n10_;have NB224_228 := n11_;have NB228_224 := n12_;have NB225_228 := n13_;have NB228_225 := n14_;have NB226_228 := n15_;have NB228_226 := n16_;clear q_ n0_ n1_ n2_ n3_ n4_ n5_ n6_ n7_ n8_ n9_ n10_ n11_ n12_ n13_ n14_ n15_ n16_;clear hb hbox hg;have hnb34 := NB228_223.out;have hnc34 := NB223_228.out;have hnb35 := NB228_224.out;have hnc35 := NB224_228.out;have hnb36 := NB228_225.out;have hnc36 := NB225_228.out;have hnb37 := NB228_226.out;have hnc37 := NB226_228.out;have z38 := bc2 BK228.out))
        have n0_ : Aside0 (Kd.R k70 70 ((w33.setCell ⟨gb228,0,none⟩ (.string ((rd_T70 l0_1 x26_1).f0))).setCell ⟨gb228,1,none⟩ (.int .i64 ((rd_T70 l0_1 x26_1).f1))) w.heap.size (fun k_ => k_ ≠ gb228) u227001 x227001_1) := ⟨by refine rX ?_;exact Kd.R_mono (Kd.R_far (p := ⟨gb228,1,none⟩) (Kd.R_far (p := ⟨gb228,0,none⟩) (Kd.R_mono HO_227001.out (fun k_ hk => (⟨hk,hk.2⟩ : _ ∧ k_ ≠ gb228))) (fun _ hk => hk.2) (.string ((rd_T70 l0_1 x26_1).f0))) (fun _ hk => hk.2) (.int .i64 ((rd_T70 l0_1 x26_1).f1))) (fun _ hk => hk.1.2)⟩
        have n1_ : Aside0 (((w33.setCell ⟨gb228,0,none⟩ (.string ((rd_T70 l0_1 x26_1).f0))).setCell ⟨gb228,1,none⟩ (.int .i64 ((rd_T70 l0_1 x26_1).f1))).heap[gb223]? = some (.cells #[.int .i64 a0_0,.slice (some ad227) l0_1.length c0_1] 28 (0,0))) := ⟨by refine kX ?_;refine blk_far ?_ NB223_228.out _;refine kX ?_;refine blk_far ?_ NB223_228.out _;refine kX ?_;exact BK223.out⟩
        have n2_ : Aside0 (((w33.setCell ⟨gb228,0,none⟩ (.string ((rd_T70 l0_1 x26_1).f0))).setCell ⟨gb228,1,none⟩ (.int .i64 ((rd_T70 l0_1 x26_1).f1))).heap[gb224]? = some (.cells #[.int .i64 a1_0,.slice A1_1 l1_1.length c1_1] 28 (0,0))) := ⟨by refine kX ?_;refine blk_far ?_ NB224_228.out _;refine kX ?_;refine blk_far ?_ NB224_228.out _;refine kX ?_;exact BK224.out⟩
        have n3_ : Aside0 (((w33.setCell ⟨gb228,0,none⟩ (.string ((rd_T70 l0_1 x26_1).f0))).setCell ⟨gb228,1,none⟩ (.int .i64 ((rd_T70 l0_1 x26_1).f1))).heap[gb225]? = some (.cells #[.int .i64 0,.slice none 0 0] 28 (0,0))) := ⟨by refine kX ?_;refine blk_far ?_ NB225_228.out _;refine kX ?_;refine blk_far ?_ NB225_228.out _;refine kX ?_;exact BK225.out⟩
        have n4_ : Aside0 (((w33.setCell ⟨gb228,0,none⟩ (.string ((rd_T70 l0_1 x26_1).f0))).setCell ⟨gb228,1,none⟩ (.int .i64 ((rd_T70 l0_1 x26_1).f1))).heap[gb226]? = some (.cells #[.int .i64 (wrap64 (a0_0 + (wrap64 (a2 * a1_0)))),u227001] 28 (0,0))) := ⟨by refine kX ?_;refine blk_far ?_ NB226_228.out _;refine kX ?_;refine blk_far ?_ NB226_228.out _;refine kX ?_;exact BK226.out⟩
        have n5_ : Aside0 (((w33.setCell ⟨gb228,0,none⟩ (.string ((rd_T70 l0_1 x26_1).f0))).setCell ⟨gb228,1,none⟩ (.int .i64 ((rd_T70 l0_1 x26_1).f1))).heap[gb228]? = some (.cells #[.string ((rd_T70 l0_1 x26_1).f0),.int .i64 ((rd_T70 l0_1 x26_1).f1)] 70 (0,0))) := ⟨by refine kX ?_;refine blk_put (cs := #[.string ((rd_T70 l0_1 x26_1).f0),.int .i64 0]) ?_ 1 _ rfl;refine kX ?_;refine blk_put (cs := #[.string (⟨#[]⟩ : ByteArray),.int .i64 0]) ?_ 0 _ rfl;refine kX ?_;exact BK228.out⟩
        have n6_ : Aside0 (Below w.heap.size w ((w33.setCell ⟨gb228,0,none⟩ (.string ((rd_T70 l0_1 x26_1).f0))).setCell ⟨gb228,1,none⟩ (.int .i64 ((rd_T70 l0_1 x26_1).f1)))) := ⟨by repeat (first|(with_reducible first|exact HB.out|apply bA|apply bN|apply bD|refine bS ?_ GE223.out|refine bS ?_ GE224.out|refine bS ?_ GE225.out|refine bS ?_ GE226.out|refine bS ?_ GE228.out)|exact HB.out)⟩
        (try clear HO_227001)
        (try clear BK223)
        (try clear BK224)
        (try clear BK225)
        (try clear BK226)
        (try clear BK228)
        (try clear HB)
        generalize ((w33.setCell ⟨gb228,0,none⟩ (.string ((rd_T70 l0_1 x26_1).f0))).setCell ⟨gb228,1,none⟩ (.int .i64 ((rd_T70 l0_1 x26_1).f1))) = w39 at n0_ n1_ n2_ n3_ n4_ n5_ n6_ ⊢
        have HO_227001 := n0_
        have BK223 := n1_
        have BK224 := n2_
        have BK225 := n3_
        have BK226 := n4_
        have BK228 := n5_
        have HB := n6_
        clear n0_ n1_ n2_ n3_ n4_ n5_ n6_
        have n0_ := mk0 (Kd.R_drew HO_227001.out)
        have n1_ := mk0 (kD BK223.out)
        have n2_ := mk0 (kD BK224.out)
        have n3_ := mk0 (kD BK225.out)
        have n4_ := mk0 (kD BK226.out)
        have n5_ := mk0 (kD BK228.out)
        have n6_ := mk0 (bD HB.out)
        clear HO_227001
        clear BK223
        clear BK224
        clear BK225
        clear BK226
        clear BK228
        clear HB
        have HO_227001 := n0_
        have BK223 := n1_
        have BK224 := n2_
        have BK225 := n3_
        have BK226 := n4_
        have BK228 := n5_
        have HB := n6_
        clear n0_ n1_ n2_ n3_ n4_ n5_ n6_
        refine start_ (n := 10) (S := fun w' => w'.cell? ⟨gb228,0,none⟩ = some (.string ((rd_T70 l0_1 x26_1).f0)) ∧ w'.cell? ⟨gb228,1,none⟩ = some (.int .i64 ((rd_T70 l0_1 x26_1).f1)) ∧ w'.cell? ⟨gb224,0,none⟩ = some (.int .i64 a1_0) ∧ w'.cell? ⟨gb224,1,none⟩ = some (.slice A1_1 l1_1.length c1_1)) (ds := []) #[false,false,false,false,false,false,false,false,false,false] (by kernel_rfl) rfl rfl ⟨(blk_cell BK228.out 0).trans rfl,(blk_cell BK228.out 1).trans rfl,(blk_cell BK224.out 0).trans rfl,(blk_cell BK224.out 1).trans rfl⟩ (fun hHeld => ?_);refine with_tabW impl_mix.tab5 impl_mix.bits5 (fun HT_ HW_ => ?_)
        generalize w39.drew = w40 at HO_227001 BK223 BK224 BK225 BK226 BK228 HB hHeld ⊢
        refine pure_ (i := 0) (N := some 30) (v := ?_) (a' := ?_) #[true,false,false,false,false,false,false,false,false,false] rfl rfl (any_of HT_.out (by kernel_rfl)) (fun _ _ _ h => h) (Or.inl ⟨by rfl,?_⟩) ?_ ?_
        rotate_left
        ·intro w'
         go_simp
         with_reducible rfl
        rotate_left
        ·simp only [Act.put,List.setIfInBounds_toArray,List.set_cons_zero,List.set_cons_succ,i64_w,i32_w]
         rfl
        refine pure_ (i := 2) (N := some 32) (v := ?_) (a' := ?_) #[true,false,true,false,false,false,false,false,false,false] rfl rfl (any_of HT_.out (by kernel_rfl)) (fun _ _ _ h => h) (Or.inl ⟨by rfl,?_⟩) ?_ ?_
        rotate_left
        ·intro w'
         go_simp
         with_reducible rfl
        rotate_left
        ·simp only [Act.put,List.setIfInBounds_toArray,List.set_cons_zero,List.set_cons_succ,i64_w,i32_w]
         rfl
        refine pure_ (i := 4) (N := some 34) (v := ?_) (a' := ?_) #[true,false,true,false,true,false,false,false,false,false] rfl rfl (any_of HT_.out (by kernel_rfl)) (fun _ _ _ h => h) (Or.inl ⟨by rfl,?_⟩) ?_ ?_
        rotate_left
        ·intro w'
         go_simp
         with_reducible rfl
        rotate_left
        ·simp only [Act.put,List.setIfInBounds_toArray,List.set_cons_zero,List.set_cons_succ,i64_w,i32_w]
         rfl
        refine take_ (i := 1) (N := some 31) (v := ?_) (a' := ?_) #[true,true,true,false,true,false,false,false,false,false] rfl rfl (take_ofW HT_.out HW_.out (by kernel_rfl)) (fun _ _ _ h => h) (Or.inl ⟨by rfl,?_⟩) hHeld ?_ ?_
        rotate_left
        ·rintro w' ⟨s0,s1,s2,s3⟩
         go_simp
         with_reducible rfl
        rotate_left
        ·simp only [Act.put,List.setIfInBounds_toArray,List.set_cons_zero,List.set_cons_succ,i64_w,i32_w]
         rfl
        refine take_ (i := 3) (N := some 33) (v := ?_) (a' := ?_) #[true,true,true,true,true,false,false,false,false,false] rfl rfl (take_ofW HT_.out HW_.out (by kernel_rfl)) (fun _ _ _ h => h) (Or.inl ⟨by rfl,?_⟩) hHeld ?_ ?_
        rotate_left
        ·rintro w' ⟨s0,s1,s2,s3⟩
         go_simp
         with_reducible rfl
        rotate_left
        ·simp only [Act.put,List.setIfInBounds_toArray,List.set_cons_zero,List.set_cons_succ,i64_w,i32_w]
         rfl
        refine take_ (i := 5) (N := some 35) (v := ?_) (a' := ?_) #[true,true,true,true,true,true,false,false,false,false] rfl rfl (take_ofW HT_.out HW_.out (by kernel_rfl)) (fun _ _ _ h => h) (Or.inl ⟨by rfl,?_⟩) hHeld ?_ ?_
        rotate_left
        ·rintro w' ⟨s0,s1,s2,s3⟩
         go_simp
         with_reducible rfl
        rotate_left
        ·simp only [Act.put,List.setIfInBounds_toArray,List.set_cons_zero,List.set_cons_succ,i64_w,i32_w]
         rfl
        refine one_ (i := 6) (N := some 36) #[true,true,true,true,true,true,true,false,false,false] rfl rfl (one_of HT_.out (by kernel_rfl)) (by decide) (fun K hK => ?_)
        refine goes_ Try.func21 (by kernel_rfl) rfl #[.agg #[.int .i64 a1_0,.slice A1_1 l1_1.length c1_1],.string ((rd_T70 l0_1 x26_1).f0)] (by rfl) rfl rfl (by (try simp only [List.map_toArray,List.map_cons,List.map_nil]);first|done|rfl) ?_
        with_reducible refine (impl_CoefOf.calls k1 a1_0 _ _ l1_1 ((rd_T70 l0_1 x26_1).f0) t229 _ ?side1 ?side2 A21.out).mono ?_
        (case side1 => repeat (first|exact (Kd.C_below HR1_1.out HB.out)|(with_reducible refine cA ?_ _)|(with_reducible refine cN ?_ _)|(with_reducible refine cD ?_)))
        (case side2 => exact HC1_1.out)
        rintro e w41 ⟨rfl,hb⟩
        refine ⟨_,rfl,?_⟩
        have n0_ := mk0 (Kd.R_below (by exact rX HO_227001.out) hb)
        have n1_ := mk0 (blk_below (by exact kX BK223.out) hb)
        have n2_ := mk0 (blk_below (by exact kX BK224.out) hb)
        have n3_ := mk0 (blk_below (by exact kX BK225.out) hb)
        have n4_ := mk0 (blk_below (by exact kX BK226.out) hb)
        have n5_ := mk0 (blk_below (by exact kX BK228.out) hb)
        have n6_ := mk0 (below_step (by repeat (first|(with_reducible first|exact HB.out|apply bA|apply bN|apply bD|refine bS ?_ GE223.out|refine bS ?_ GE224.out|refine bS ?_ GE225.out|refine bS ?_ GE226.out|refine bS ?_ GE228.out)|exact HB.out)) hb)
        clear HO_227001
        clear BK223
        clear BK224
        clear BK225
        clear BK226
        clear BK228
        clear HB
        have HO_227001 := n0_
        have BK223 := n1_
        have BK224 := n2_
        have BK225 := n3_
        have BK226 := n4_
        have BK228 := n5_
        have HB := n6_
        clear n0_ n1_ n2_ n3_ n4_ n5_ n6_
        (try clear hb)
        (try clear hb2)
        (try clear hk)
        (try clear hi)
        refine hK.out _ _ ⟨(blk_cell BK228.out 0).trans rfl,(blk_cell BK228.out 1).trans rfl,(blk_cell BK224.out 0).trans rfl,(blk_cell BK224.out 1).trans rfl⟩ (fun hHeld => ?_)
        clear hK K
        refine norm_ (a' := ?_) ?_ ?_
        rotate_left
        ·show Act.put _ (some 36) _ = _
         simp only [Act.put,List.setIfInBounds_toArray,List.set_cons_zero,List.set_cons_succ,i64_w,i32_w]
         rfl
        refine pure_ (i := 7) (N := some 37) (v := ?_) (a' := ?_) #[true,true,true,true,true,true,true,true,false,false] rfl rfl (any_of HT_.out (by kernel_rfl)) (fun _ _ _ h => h) (Or.inl ⟨by rfl,?_⟩) ?_ ?_
        rotate_left
        ·intro w'
         go_simp
         with_reducible rfl
        rotate_left
        ·simp only [Act.put,List.setIfInBounds_toArray,List.set_cons_zero,List.set_cons_succ,i64_w,i32_w]
         rfl
        refine pure_ (i := 8) (N := some 38) (v := ?_) (a' := ?_) #[true,true,true,true,true,true,true,true,true,false] rfl rfl (any_of HT_.out (by kernel_rfl)) (fun _ _ _ h => h) (Or.inl ⟨by rfl,?_⟩) ?_ ?_
        rotate_left
        ·intro w'
         go_simp
         with_reducible rfl
        rotate_left
        ·simp only [Act.put,List.setIfInBounds_toArray,List.set_cons_zero,List.set_cons_succ,i64_w,i32_w]
         rfl
        refine pure_ (i := 9) (N := some 11) (v := ?_) (a' := ?_) #[true,true,true,true,true,true,true,true,true,true] rfl rfl (any_of HT_.out (by kernel_rfl)) (fun _ _ _ h => h) (Or.inl ⟨by rfl,?_⟩) ?_ ?_
        rotate_left
        ·intro w'
         go_simp
         with_reducible rfl
        rotate_left
        ·simp only [Act.put,List.setIfInBounds_toArray,List.set_cons_zero,List.set_cons_succ,i64_w,i32_w]
         rfl
        refine done_ (done_of HT_.out (by kernel_rfl)) ?_
        have hnb42 := NB226_223.out
        have hnc42 := NB223_226.out
        have hnb43 := NB226_224.out
        have hnc43 := NB224_226.out
        have hnb44 := NB226_225.out
        have hnc44 := NB225_226.out
        have z45 := bc2 BK226.out
        have z46 := bc2 BK228.out
        try go_wp2_with (first|((with_reducible refine gate_builtin (b := .append) (xs := #[.tmp 42,.tmp 47]) rfl ?_);at_builtin;refine Kd.R_append k70 (w0 := w) w.heap.size rfl (.tmp 42) (.tmp 47) 26 70 (.agg #[(.string ⟨#[]⟩),(.int .i64 0)]) 24 rfl Try.underlying26 info70 rfl (by decide) (by omega) u227001 x227001_1 (⟨(rd_T70 l0_1 x26_1).f0,wrap64 (((rd_T70 l0_1 x26_1).f1) + (wrap64 (a2 * t229)))⟩ : S70) [.string ((rd_T70 l0_1 x26_1).f0),.int .i64 (wrap64 (((rd_T70 l0_1 x26_1).f1) + (wrap64 (a2 * t229))))] (fun k_ => k_ ≠ gb228) (fun _ => False) rfl rfl ?aP (fun _ hk => hk.elim) ?aF ?aO ?aB ?aS ?aL ?_;(case aP => exact k70_mkM _ _ _ (⟨(rd_T70 l0_1 x26_1).f0,wrap64 (((rd_T70 l0_1 x26_1).f1) + (wrap64 (a2 * t229)))⟩ : S70));(case aB => exact (by repeat (first|(with_reducible first|exact HB.out|apply bA|apply bN|apply bD|refine bS ?_ GE223.out|refine bS ?_ GE224.out|refine bS ?_ GE225.out|refine bS ?_ GE226.out|refine bS ?_ GE228.out)|exact HB.out)));(case aF => exact (fun k_ hk => Kd.freshB (g := gb228) (o := .cells #[.string ((rd_T70 l0_1 x26_1).f0),.int .i64 ((rd_T70 l0_1 x26_1).f1)] 70 (0,0)) (by exact kX BK228.out) k_ hk));(case aO => exact (by exact rX HO_227001.out));(case aS => exact (below_size (by repeat (first|(with_reducible first|exact HB.out|apply bA|apply bN|apply bD|refine bS ?_ GE223.out|refine bS ?_ GE224.out|refine bS ?_ GE225.out|refine bS ?_ GE226.out|refine bS ?_ GE228.out)|exact HB.out))));(case aL => have := LMc32.out;omega);intro v231 w47 ho hb hg hat;rw [← Ny230.out] at ho;have n0_ := mk0 (blk_grown (by exact kX BK223.out) hg (Kd.R_ne HO_227001.out BK223.out (by decide)));have n1_ := mk0 (blk_grown (by exact kX BK224.out) hg (Kd.R_ne HO_227001.out BK224.out (by decide)));have n2_ := mk0 (blk_grown (by exact kX BK225.out) hg (Kd.R_ne HO_227001.out BK225.out (by decide)));have n3_ := mk0 (blk_grown (by exact kX BK226.out) hg (Kd.R_ne HO_227001.out BK226.out (by decide)));have n4_ := mk0 (blk_grown (by exact kX BK228.out) hg (Kd.R_away HO_227001.out (fun _ hk => hk)));have n5_ := mk0 (hb);have n6_ := mk0 (ho);clear BK223;clear BK224;clear BK225;clear BK226;clear BK228;clear HB;clear HO_227001;have BK223 := n0_;have BK224 := n1_;have BK225 := n2_;have BK226 := n3_;have BK228 := n4_;have HB := n5_;have HO232 := n6_;clear n0_ n1_ n2_ n3_ n4_ n5_ n6_;clear ho hb hg hat;obtain ⟨Ao48,co48,eo48⟩ := Kd.R_slice HO232.out;subst eo48;have z49 := bc2 BK226.out))
        go_roundg k1
        case measure => have := HK1.out;omega
        case rel => exact ⟨(wrap64 (x26_1 + 1)),(y230),(.slice Ao48 y230.length co48),(by first|rfl|(simp;done)|(simp [*];done)),H',⟨by have := HK1.out;omega⟩,⟨by refine rX ?_;exact Kd.R_mono (Kd.R_far (p := ⟨gb226,1,none⟩) (Kd.R_types HO232.out BK226.out (by decide)) (fun _ hk => hk.2) (.slice Ao48 y230.length co48)) (fun _ hk => trivial)⟩,⟨by refine kX ?_;refine blk_far ?_ NB223_226.out _;refine kX ?_;exact BK223.out⟩,⟨by refine kX ?_;refine blk_far ?_ NB224_226.out _;refine kX ?_;exact BK224.out⟩,⟨by refine kX ?_;refine blk_far ?_ NB225_226.out _;refine kX ?_;exact BK225.out⟩,⟨by refine kX ?_;refine blk_put (cs := #[.int .i64 (wrap64 (a0_0 + (wrap64 (a2 * a1_0)))),u227001]) ?_ 1 _ rfl;refine kX ?_;exact BK226.out⟩,⟨by repeat (first|(with_reducible first|exact HB.out|apply bA|apply bN|apply bD|refine bS ?_ GE223.out|refine bS ?_ GE224.out|refine bS ?_ GE225.out|refine bS ?_ GE226.out|refine bS ?_ GE228.out)|exact HB.out)⟩⟩
       ·rw [if_neg c32] at H
        exact absurd H (by simp)
     ·rw [if_neg c20] at H
      exact absurd H (by simp)
    ·rw [if_neg c19] at H
     exact absurd H (by simp)
   ·rw [if_neg c18] at H
    have c18b0 : decide (x26_1 < (l0_1.length : Int)) = false := decide_eq_false c18
    clear c18
    have H' := mk0 H
    clear H
    have hnb50 := NB224_223.out
    have hnc50 := NB223_224.out
    have hnb51 := NB224_225.out
    have hnc51 := NB225_224.out
    have hnb52 := NB224_226.out
    have hnc52 := NB226_224.out
    have z53 := bc2 BK224.out
    go_wp2
    go_loopg [54] k1 (fun kq v54 w' => ∃ (x54_2 : Int) (x227001_2 : List (S70)) (u227001 : Value),v54 = .int .i64 x54_2 ∧ Aside0 (impl_mix.l1 kq a2 l1_1 (l1_1.length : Int) x54_2 a0_0 l0_1 (wrap64 (a0_0 + (wrap64 (a2 * a1_0)))) x227001_2 = some (r1,r2,r3)) ∧ Aside0 (kq ≤ k1) ∧ Aside0 (Kd.R k70 70 w' w.heap.size (fun _ => True) u227001 x227001_2) ∧ Aside0 (w'.heap[gb223]? = some (.cells #[.int .i64 a0_0,(.slice A0_1 l0_1.length c0_1)] 28 (0,0))) ∧ Aside0 (w'.heap[gb224]? = some (.cells #[.int .i64 a1_0,(.slice A1_1 l1_1.length c1_1)] 28 (0,0))) ∧ Aside0 (w'.heap[gb225]? = some (.cells #[.int .i64 0,(.slice none 0 0)] 28 (0,0))) ∧ Aside0 (w'.heap[gb226]? = some (.cells #[.int .i64 (wrap64 (a0_0 + (wrap64 (a2 * a1_0)))),u227001] 28 (0,0))) ∧ Aside0 (Below w.heap.size w w'))
    case atStart => exact ⟨(0),(x227001_1),(u227001),(by first|rfl|(simp;done)|(simp [*];done)),H',⟨Nat.le_refl _⟩,⟨by refine rX ?_;exact HO_227001.out⟩,⟨by refine kX ?_;exact BK223.out⟩,⟨by refine kX ?_;exact BK224.out⟩,⟨by refine kX ?_;exact BK225.out⟩,⟨by refine kX ?_;exact BK226.out⟩,⟨by repeat (first|(with_reducible first|exact HB.out|apply bA|apply bN|apply bD|refine bS ?_ GE223.out|refine bS ?_ GE224.out|refine bS ?_ GE225.out|refine bS ?_ GE226.out)|exact HB.out)⟩⟩
    case round =>
     clear H'
     try clear c1
     try clear c2
     try clear p2
     try clear q2
     try clear hx2
     try clear c3
     try clear c4
     try clear c5
     try clear p6
     try clear c7
     try clear c8
     try clear c10
     try clear c13
     try clear c14
     try clear c15
     try clear c18
     try clear c18b0
     try clear c19
     try clear c19b0
     try clear c20
     try clear c20b0
     try clear c21
     try clear c22
     try clear c22b0
     try clear c22b1
     try clear p22
     try clear q22
     try clear hx22
     try clear c24
     try clear c25
     try clear c26
     try clear c27
     try clear c32
     try clear c34
     try clear c35
     try clear c36
     try clear c37
     try clear c40
     try clear c42
     try clear c43
     try clear c44
     try clear c50
     try clear c51
     try clear c52
     try clear z11
     try clear z16
     try clear z17
     try clear z28
     try clear z38
     try clear z45
     try clear z46
     try clear z49
     try clear z53
     try clear z9
     try clear z11
     try clear z16
     try clear z17
     try clear z28
     try clear z38
     try clear z45
     try clear z46
     try clear z49
     try clear z53
     try clear z9
     try clear hx227_0
     try clear hx227_1
     try clear p2
     try clear p227
     try clear p6
     try clear q227
     obtain ⟨x54_2,x227001_2,u227001,rfl,HA,HK2,HO_227001,BK223,BK224,BK225,BK226,HB⟩ := hrel
     cases gk with
         |zero => exact absurd HA.out (by simp [impl_mix.l1])
         |succ k2 =>
      have H := HA.out
      clear HA
      simp only [impl_mix.l1] at H
      by_cases c54 : x54_2 < (l1_1.length : Int)
      ·rw [if_pos c54] at H
       have c54b0 : decide (x54_2 < (l1_1.length : Int)) = true := decide_eq_true c54
       clear c54
       by_cases c55 : 0 ≤ x54_2
       ·rw [if_pos c55] at H
        have c55b0 : decide (0 ≤ x54_2) = true := decide_eq_true c55
        clear c55
        by_cases c56 : x54_2 < (l1_1.length : Int)
        ·rw [if_pos c56] at H
         have c56b0 : decide (x54_2 < (l1_1.length : Int)) = true := decide_eq_true c56
         clear c56
         by_cases c57 : (wrap64 (a2 * ((rd_T70 l1_1 x54_2).f1))) = 0
         ·rw [if_pos c57] at H
          have c57b0 : ((wrap64 (a2 * ((rd_T70 l1_1 x54_2).f1))) == 0) = true := beq_iff_eq.mpr c57
          have c57b1 : ((wrap64 (a2 * ((rd_T70 l1_1 x54_2).f1))) != 0) = false := bne_eq_false_iff_eq.mpr c57
          clear c57
          have H' := mk0 H
          clear H
          have p233 : 0 ≤ (x54_2 : Int) := of_decide_eq_true (by first|(with_reducible assumption)|assumption)
          have q233 : x54_2 < (l1_1.length : Int) := of_decide_eq_true (by first|(with_reducible assumption)|assumption)
          obtain ⟨ad233,e233,hx233_0,hx233_1⟩ := at_T70 HR1_1.out x54_2 p233 q233
          cases e233
          replace hx233_0 := hbc HB.out hx233_0
          replace hx233_1 := hbc HB.out hx233_1
          replace p233 := eq_true p233
          replace q233 := eq_true q233
          go_wp2_with (first|((with_reducible refine gate_dst (N := 13) rfl ?_);refine box_event ?hg (N := 13) ?hd (cs := #[.string (⟨#[]⟩ : ByteArray),.int .i64 0]) (t := 70) ?hr ?_;(case hd => rfl);(case hg => rfl);(case hr => first|(go_simp;done)|(go_simp;rfl));intro gb234 hg w58 hbox hb;have q_ := qB (by repeat (first|(with_reducible first|exact HB.out|apply bA|apply bN|apply bD|refine bS ?_ GE223.out|refine bS ?_ GE224.out|refine bS ?_ GE225.out|refine bS ?_ GE226.out)|exact HB.out)) hb;have n0_ := mk0 (Kd.R_below (Kd.R_elderB (by exact rX HO_227001.out) gb234 (Nat.le_of_eq hg.symm)) hb);have n1_ := mk0 (blk_below (by exact kX BK223.out) hb);have n2_ := mk0 (blk_below (by exact kX BK224.out) hb);have n3_ := mk0 (blk_below (by exact kX BK225.out) hb);have n4_ := mk0 (blk_below (by exact kX BK226.out) hb);have n5_ := mk0 (below_step q_ hb);have n6_ := mk0 (hbox);have n7_ := mk0 (below_size2 q_ hg);have n8_ := n7_;have n9_ := mk0 ((by rw [hg];exact Nat.ne_of_lt (blk_lt (by exact kX BK223.out)) : gb223 ≠ gb234));have n10_ := mk0 ((by rw [hg];exact Nat.ne_of_gt (blk_lt (by exact kX BK223.out)) : gb234 ≠ gb223));have n11_ := mk0 ((by rw [hg];exact Nat.ne_of_lt (blk_lt (by exact kX BK224.out)) : gb224 ≠ gb234));have n12_ := mk0 ((by rw [hg];exact Nat.ne_of_gt (blk_lt (by exact kX BK224.out)) : gb234 ≠ gb224));have n13_ := mk0 ((by rw [hg];exact Nat.ne_of_lt (blk_lt (by exact kX BK225.out)) : gb225 ≠ gb234));have n14_ := mk0 ((by rw [hg];exact Nat.ne_of_gt (blk_lt (by exact kX BK225.out)) : gb234 ≠ gb225));have n15_ := mk0 ((by rw [hg];exact Nat.ne_of_lt (blk_lt (by exact kX BK226.out)) : gb226 ≠ gb234));have n16_ := mk0 ((by rw [hg];exact Nat.ne_of_gt (blk_lt (by exact kX BK226.out)) : gb234 ≠ gb226));clear HO_227001;clear BK223;clear BK224;clear BK225;clear BK226;clear HB;have HO_227001 := n0_;have BK223 := n1_;have BK224 := n2_;have BK225 := n3_;have BK226 := n4_;have HB := n5_;have BK234 := n6_;have GW234 := n7_;have GE234 := n8_;have NB223_234 := n9_;have NB234_223 := n10_;have NB224_234 := n11_;have NB234_224 := n12_;have NB225_234 := n13_;have NB234_225 := n14_;have NB226_234 := n15_;have NB234_226 := n16_;clear q_ n0_ n1_ n2_ n3_ n4_ n5_ n6_ n7_ n8_ n9_ n10_ n11_ n12_ n13_ n14_ n15_ n16_;clear hb hbox hg;have hnb59 := NB234_223.out;have hnc59 := NB223_234.out;have hnb60 := NB234_224.out;have hnc60 := NB224_234.out;have hnb61 := NB234_225.out;have hnc61 := NB225_234.out;have hnb62 := NB234_226.out;have hnc62 := NB226_234.out;have z63 := bc2 BK234.out))
          go_roundg k2
          case measure => have := HK1.out;have := HK2.out;omega
          case rel => exact ⟨(wrap64 (x54_2 + 1)),(x227001_2),(u227001),(by first|rfl|(simp;done)|(simp [*];done)),H',⟨by have := HK1.out;have := HK2.out;omega⟩,⟨by refine rX ?_;exact Kd.R_mono (Kd.R_far (p := ⟨gb234,1,none⟩) (Kd.R_far (p := ⟨gb234,0,none⟩) (Kd.R_mono HO_227001.out (fun k_ hk => (⟨hk,hk.2⟩ : _ ∧ k_ ≠ gb234))) (fun _ hk => hk.2) (.string ((rd_T70 l1_1 x54_2).f0))) (fun _ hk => hk.2) (.int .i64 ((rd_T70 l1_1 x54_2).f1))) (fun _ hk => trivial)⟩,⟨by refine kX ?_;refine blk_far ?_ NB223_234.out _;refine kX ?_;refine blk_far ?_ NB223_234.out _;refine kX ?_;exact BK223.out⟩,⟨by refine kX ?_;refine blk_far ?_ NB224_234.out _;refine kX ?_;refine blk_far ?_ NB224_234.out _;refine kX ?_;exact BK224.out⟩,⟨by refine kX ?_;refine blk_far ?_ NB225_234.out _;refine kX ?_;refine blk_far ?_ NB225_234.out _;refine kX ?_;exact BK225.out⟩,⟨by refine kX ?_;refine blk_far ?_ NB226_234.out _;refine kX ?_;refine blk_far ?_ NB226_234.out _;refine kX ?_;exact BK226.out⟩,⟨by repeat (first|(with_reducible first|exact HB.out|apply bA|apply bN|apply bD|refine bS ?_ GE223.out|refine bS ?_ GE224.out|refine bS ?_ GE225.out|refine bS ?_ GE226.out|refine bS ?_ GE234.out)|exact HB.out)⟩⟩
         ·rw [if_neg c57] at H
          have c57b0 : ((wrap64 (a2 * ((rd_T70 l1_1 x54_2).f1))) == 0) = false := beq_eq_false_iff_ne.mpr c57
          have c57b1 : ((wrap64 (a2 * ((rd_T70 l1_1 x54_2).f1))) != 0) = true := bne_iff_ne.mpr c57
          obtain ⟨t235,A64,H⟩ := bindA H
          by_cases c65 : t235 = 0
          ·rw [if_pos c65] at H
           have c65b0 : (t235 == 0) = true := beq_iff_eq.mpr c65
           have c65b1 : (t235 != 0) = false := bne_eq_false_iff_eq.mpr c65
           clear c65
           by_cases c66 : x227001_2.length < 5864062014805
           ·rw [if_pos c66] at H
            have LMc66 := mk0 c66
            clear c66
            obtain ⟨y236,hy236⟩ : ∃ y_ : List (S70),y_ = (x227001_2 ++ [(⟨(rd_T70 l1_1 x54_2).f0,wrap64 (a2 * ((rd_T70 l1_1 x54_2).f1))⟩ : S70)]) := ⟨_,rfl⟩
            replace H : (impl_mix.l1 k2 a2 l1_1 (l1_1.length : Int) (wrap64 (x54_2 + 1)) a0_0 l0_1 (wrap64 (a0_0 + (wrap64 (a2 * a1_0)))) y236) = some (r1,r2,r3) := by first|(rw [hy236];with_reducible exact H)|(have H2_ := (Option.bind_some _ _).symm.trans H;rw [hy236];with_reducible exact H2_)|(have H2_ := (Option.bind_some _ _).symm.trans H;with_reducible exact H2_)|with_reducible exact H|(rw [hy236];exact H)|exact H
            have Ny236 := mk0 hy236
            clear hy236
            have H' := mk0 H
            clear H
            have p233 : 0 ≤ (x54_2 : Int) := of_decide_eq_true (by first|(with_reducible assumption)|assumption)
            have q233 : x54_2 < (l1_1.length : Int) := of_decide_eq_true (by first|(with_reducible assumption)|assumption)
            obtain ⟨ad233,e233,hx233_0,hx233_1⟩ := at_T70 HR1_1.out x54_2 p233 q233
            cases e233
            replace hx233_0 := hbc HB.out hx233_0
            replace hx233_1 := hbc HB.out hx233_1
            replace p233 := eq_true p233
            replace q233 := eq_true q233
            go_wp2_with (first|((with_reducible refine gate_dst (N := 13) rfl ?_);refine box_event ?hg (N := 13) ?hd (cs := #[.string (⟨#[]⟩ : ByteArray),.int .i64 0]) (t := 70) ?hr ?_;(case hd => rfl);(case hg => rfl);(case hr => first|(go_simp;done)|(go_simp;rfl));intro gb234 hg w67 hbox hb;have q_ := qB (by repeat (first|(with_reducible first|exact HB.out|apply bA|apply bN|apply bD|refine bS ?_ GE223.out|refine bS ?_ GE224.out|refine bS ?_ GE225.out|refine bS ?_ GE226.out)|exact HB.out)) hb;have n0_ := mk0 (Kd.R_below (Kd.R_elderB (by exact rX HO_227001.out) gb234 (Nat.le_of_eq hg.symm)) hb);have n1_ := mk0 (blk_below (by exact kX BK223.out) hb);have n2_ := mk0 (blk_below (by exact kX BK224.out) hb);have n3_ := mk0 (blk_below (by exact kX BK225.out) hb);have n4_ := mk0 (blk_below (by exact kX BK226.out) hb);have n5_ := mk0 (below_step q_ hb);have n6_ := mk0 (hbox);have n7_ := mk0 (below_size2 q_ hg);have n8_ := n7_;have n9_ := mk0 ((by rw [hg];exact Nat.ne_of_lt (blk_lt (by exact kX BK223.out)) : gb223 ≠ gb234));have n10_ := mk0 ((by rw [hg];exact Nat.ne_of_gt (blk_lt (by exact kX BK223.out)) : gb234 ≠ gb223));have n11_ := mk0 ((by rw [hg];exact Nat.ne_of_lt (blk_lt (by exact kX BK224.out)) : gb224 ≠ gb234));have n12_ := mk0 ((by rw [hg];exact Nat.ne_of_gt (blk_lt (by exact kX BK224.out)) : gb234 ≠ gb224));have n13_ := mk0 ((by rw [hg];exact Nat.ne_of_lt (blk_lt (by exact kX BK225.out)) : gb225 ≠ gb234));have n14_ := mk0 ((by rw [hg];exact Nat.ne_of_gt (blk_lt (by exact kX BK225.out)) : gb234 ≠ gb225));have n15_ := mk0 ((by rw [hg];exact Nat.ne_of_lt (blk_lt (by exact kX BK226.out)) : gb226 ≠ gb234));have n16_ := mk0 ((by rw [hg];exact Nat.ne_of_gt (blk_lt (by exact kX BK226.out)) : gb234 ≠ gb226));clear HO_227001;clear BK223;clear BK224;clear BK225;clear BK226;clear HB;have HO_227001 := n0_;have BK223 := n1_;have BK224 := n2_;have BK225 := n3_;have BK226 := n4_;have HB := n5_;have BK234 := n6_;have GW234 := n7_;have GE234 := n8_;have NB223_234 := n9_;have NB234_223 := n10_;have NB224_234 := n11_;have NB234_224 := n12_;have NB225_234 := n13_;have NB234_225 := n14_;have NB226_234 := n15_;have NB234_226 := n16_;clear q_ n0_ n1_ n2_ n3_ n4_ n5_ n6_ n7_ n8_ n9_ n10_ n11_ n12_ n13_ n14_ n15_ n16_;clear hb hbox hg;have hnb68 := NB234_223.out;have hnc68 := NB223_234.out;have hnb69 := NB234_224.out;have hnc69 := NB224_234.out;have hnb70 := NB234_225.out;have hnc70 := NB225_234.out;have hnb71 := NB234_226.out;have hnc71 := NB226_234.out;have z72 := bc2 BK234.out;have hnb73 := NB223_224.out;have hnc73 := NB224_223.out;have hnb74 := NB223_225.out;have hnc74 := NB225_223.out;have hnb75 := NB223_226.out;have hnc75 := NB226_223.out;have z76 := bc2 BK223.out)|(go_at_call 21;(with_reducible refine (impl_CoefOf.calls k2 a0_0 _ _ l0_1 ((rd_T70 l1_1 x54_2).f0) t235 _ ?side1 ?side2 A64.out).mono ?_);(case side1 => exact Kd.C_below HR0_1.out (by repeat (first|(with_reducible first|exact HB.out|apply bA|apply bN|apply bD|refine bS ?_ GE223.out|refine bS ?_ GE224.out|refine bS ?_ GE225.out|refine bS ?_ GE226.out|refine bS ?_ GE234.out)|exact HB.out)));(case side2 => exact HC0_1.out);rintro e w77 ⟨rfl,hb⟩;have n0_ := mk0 (Kd.R_below (by exact rX (Kd.R_mono (Kd.R_far (p := ⟨gb234,1,none⟩) (Kd.R_far (p := ⟨gb234,0,none⟩) (Kd.R_mono HO_227001.out (fun k_ hk => (⟨hk,hk.2⟩ : _ ∧ k_ ≠ gb234))) (fun _ hk => hk.2) (.string ((rd_T70 l1_1 x54_2).f0))) (fun _ hk => hk.2) (.int .i64 ((rd_T70 l1_1 x54_2).f1))) (fun _ h_ => h_.1))) hb);have n1_ := mk0 (blk_below (g := gb223) (o := .cells #[.int .i64 a0_0,.slice A0_1 l0_1.length c0_1] 28 (0,0)) (by refine kX ?_;refine blk_far ?_ NB223_234.out _;refine kX ?_;refine blk_far ?_ NB223_234.out _;exact kX BK223.out) hb);have n2_ := mk0 (blk_below (g := gb224) (o := .cells #[.int .i64 a1_0,.slice (some ad233) l1_1.length c1_1] 28 (0,0)) (by refine kX ?_;refine blk_far ?_ NB224_234.out _;refine kX ?_;refine blk_far ?_ NB224_234.out _;exact kX BK224.out) hb);have n3_ := mk0 (blk_below (g := gb225) (o := .cells #[.int .i64 0,.slice none 0 0] 28 (0,0)) (by refine kX ?_;refine blk_far ?_ NB225_234.out _;refine kX ?_;refine blk_far ?_ NB225_234.out _;exact kX BK225.out) hb);have n4_ := mk0 (blk_below (g := gb226) (o := .cells #[.int .i64 (wrap64 (a0_0 + (wrap64 (a2 * a1_0)))),u227001] 28 (0,0)) (by refine kX ?_;refine blk_far ?_ NB226_234.out _;refine kX ?_;refine blk_far ?_ NB226_234.out _;exact kX BK226.out) hb);have n5_ := mk0 (blk_below (g := gb234) (o := .cells #[.string ((rd_T70 l1_1 x54_2).f0),.int .i64 ((rd_T70 l1_1 x54_2).f1)] 70 (0,0)) (by refine kX ?_;refine blk_put (cs := #[.string ((rd_T70 l1_1 x54_2).f0),.int .i64 0]) ?_ 1 _ rfl;refine kX ?_;refine blk_put (cs := #[.string (⟨#[]⟩ : ByteArray),.int .i64 0]) ?_ 0 _ rfl;exact kX BK234.out) hb);have n6_ := mk0 (below_step (by repeat (first|(with_reducible first|exact HB.out|apply bA|apply bN|apply bD|refine bS ?_ GE223.out|refine bS ?_ GE224.out|refine bS ?_ GE225.out|refine bS ?_ GE226.out|refine bS ?_ GE234.out)|exact HB.out)) hb);clear HO_227001;clear BK223;clear BK224;clear BK225;clear BK226;clear BK234;clear HB;have HO_227001 := n0_;have BK223 := n1_;have BK224 := n2_;have BK225 := n3_;have BK226 := n4_;have BK234 := n5_;have HB := n6_;clear n0_ n1_ n2_ n3_ n4_ n5_ n6_;(try clear hb);(try clear hb2);(try clear hk);(try clear hi);have hnb78 := NB226_224.out;have hnc78 := NB224_226.out;have hnb79 := NB226_225.out;have hnc79 := NB225_226.out;have z80 := bc2 BK226.out;have z81 := bc2 BK234.out)|((with_reducible refine gate_builtin (b := .append) (xs := #[.tmp 72,.tmp 77]) rfl ?_);at_builtin;refine Kd.R_append k70 (w0 := w) w.heap.size rfl (.tmp 72) (.tmp 77) 26 70 (.agg #[(.string ⟨#[]⟩),(.int .i64 0)]) 24 rfl Try.underlying26 info70 rfl (by decide) (by omega) u227001 x227001_2 (⟨(rd_T70 l1_1 x54_2).f0,wrap64 (a2 * ((rd_T70 l1_1 x54_2).f1))⟩ : S70) [.string ((rd_T70 l1_1 x54_2).f0),.int .i64 (wrap64 (a2 * ((rd_T70 l1_1 x54_2).f1)))] (fun k_ => k_ ≠ gb234) (fun _ => False) rfl rfl ?aP (fun _ hk => hk.elim) ?aF ?aO ?aB ?aS ?aL ?_;(case aP => exact k70_mkM _ _ _ (⟨(rd_T70 l1_1 x54_2).f0,wrap64 (a2 * ((rd_T70 l1_1 x54_2).f1))⟩ : S70));(case aB => exact (by repeat (first|(with_reducible first|exact HB.out|apply bA|apply bN|apply bD|refine bS ?_ GE223.out|refine bS ?_ GE224.out|refine bS ?_ GE225.out|refine bS ?_ GE226.out|refine bS ?_ GE234.out)|exact HB.out)));(case aF => exact (fun k_ hk => Kd.freshB (g := gb234) (o := .cells #[.string ((rd_T70 l1_1 x54_2).f0),.int .i64 ((rd_T70 l1_1 x54_2).f1)] 70 (0,0)) (by exact kX BK234.out) k_ hk));(case aO => exact (by refine rX ?_;exact Kd.R_mono HO_227001.out (fun _ hk => hk.2)));(case aS => exact (below_size (by repeat (first|(with_reducible first|exact HB.out|apply bA|apply bN|apply bD|refine bS ?_ GE223.out|refine bS ?_ GE224.out|refine bS ?_ GE225.out|refine bS ?_ GE226.out|refine bS ?_ GE234.out)|exact HB.out))));(case aL => have := LMc66.out;omega);intro v237 w82 ho hb hg hat;rw [← Ny236.out] at ho;have n0_ := mk0 (blk_grown (by exact kX BK223.out) hg (Kd.R_ne HO_227001.out BK223.out (by decide)));have n1_ := mk0 (blk_grown (by exact kX BK224.out) hg (Kd.R_ne HO_227001.out BK224.out (by decide)));have n2_ := mk0 (blk_grown (by exact kX BK225.out) hg (Kd.R_ne HO_227001.out BK225.out (by decide)));have n3_ := mk0 (blk_grown (by exact kX BK226.out) hg (Kd.R_ne HO_227001.out BK226.out (by decide)));have n4_ := mk0 (blk_grown (by exact kX BK234.out) hg (Kd.R_away HO_227001.out (fun _ hk => hk.2)));have n5_ := mk0 (hb);have n6_ := mk0 (ho);clear BK223;clear BK224;clear BK225;clear BK226;clear BK234;clear HB;clear HO_227001;have BK223 := n0_;have BK224 := n1_;have BK225 := n2_;have BK226 := n3_;have BK234 := n4_;have HB := n5_;have HO238 := n6_;clear n0_ n1_ n2_ n3_ n4_ n5_ n6_;clear ho hb hg hat;obtain ⟨Ao83,co83,eo83⟩ := Kd.R_slice HO238.out;subst eo83;have z84 := bc2 BK226.out))
            go_roundg k2
            case measure => have := HK1.out;have := HK2.out;omega
            case rel => exact ⟨(wrap64 (x54_2 + 1)),(y236),(.slice Ao83 y236.length co83),(by first|rfl|(simp;done)|(simp [*];done)),H',⟨by have := HK1.out;have := HK2.out;omega⟩,⟨by refine rX ?_;exact Kd.R_mono (Kd.R_far (p := ⟨gb226,1,none⟩) (Kd.R_types HO238.out BK226.out (by decide)) (fun _ hk => hk.2) (.slice Ao83 y236.length co83)) (fun _ hk => trivial)⟩,⟨by refine kX ?_;refine blk_far ?_ NB223_226.out _;refine kX ?_;exact BK223.out⟩,⟨by refine kX ?_;refine blk_far ?_ NB224_226.out _;refine kX ?_;exact BK224.out⟩,⟨by refine kX ?_;refine blk_far ?_ NB225_226.out _;refine kX ?_;exact BK225.out⟩,⟨by refine kX ?_;refine blk_put (cs := #[.int .i64 (wrap64 (a0_0 + (wrap64 (a2 * a1_0)))),u227001]) ?_ 1 _ rfl;refine kX ?_;exact BK226.out⟩,⟨by repeat (first|(with_reducible first|exact HB.out|apply bA|apply bN|apply bD|refine bS ?_ GE223.out|refine bS ?_ GE224.out|refine bS ?_ GE225.out|refine bS ?_ GE226.out|refine bS ?_ GE234.out)|exact HB.out)⟩⟩
           ·rw [if_neg c66] at H
            exact absurd H (by simp)
          ·rw [if_neg c65] at H
           have c65b0 : (t235 == 0) = false := beq_eq_false_iff_ne.mpr c65
           have c65b1 : (t235 != 0) = true := bne_iff_ne.mpr c65
           have H' := mk0 H
           clear H
           have p233 : 0 ≤ (x54_2 : Int) := of_decide_eq_true (by first|(with_reducible assumption)|assumption)
           have q233 : x54_2 < (l1_1.length : Int) := of_decide_eq_true (by first|(with_reducible assumption)|assumption)
           obtain ⟨ad233,e233,hx233_0,hx233_1⟩ := at_T70 HR1_1.out x54_2 p233 q233
           cases e233
           replace hx233_0 := hbc HB.out hx233_0
           replace hx233_1 := hbc HB.out hx233_1
           replace p233 := eq_true p233
           replace q233 := eq_true q233
           go_wp2_with (first|((with_reducible refine gate_dst (N := 13) rfl ?_);refine box_event ?hg (N := 13) ?hd (cs := #[.string (⟨#[]⟩ : ByteArray),.int .i64 0]) (t := 70) ?hr ?_;(case hd => rfl);(case hg => rfl);(case hr => first|(go_simp;done)|(go_simp;rfl));intro gb234 hg w85 hbox hb;have q_ := qB (by repeat (first|(with_reducible first|exact HB.out|apply bA|apply bN|apply bD|refine bS ?_ GE223.out|refine bS ?_ GE224.out|refine bS ?_ GE225.out|refine bS ?_ GE226.out)|exact HB.out)) hb;have n0_ := mk0 (Kd.R_below (Kd.R_elderB (by exact rX HO_227001.out) gb234 (Nat.le_of_eq hg.symm)) hb);have n1_ := mk0 (blk_below (by exact kX BK223.out) hb);have n2_ := mk0 (blk_below (by exact kX BK224.out) hb);have n3_ := mk0 (blk_below (by exact kX BK225.out) hb);have n4_ := mk0 (blk_below (by exact kX BK226.out) hb);have n5_ := mk0 (below_step q_ hb);have n6_ := mk0 (hbox);have n7_ := mk0 (below_size2 q_ hg);have n8_ := n7_;have n9_ := mk0 ((by rw [hg];exact Nat.ne_of_lt (blk_lt (by exact kX BK223.out)) : gb223 ≠ gb234));have n10_ := mk0 ((by rw [hg];exact Nat.ne_of_gt (blk_lt (by exact kX BK223.out)) : gb234 ≠ gb223));have n11_ := mk0 ((by rw [hg];exact Nat.ne_of_lt (blk_lt (by exact kX BK224.out)) : gb224 ≠ gb234));have n12_ := mk0 ((by rw [hg];exact Nat.ne_of_gt (blk_lt (by exact kX BK224.out)) : gb234 ≠ gb224));have n13_ := mk0 ((by rw [hg];exact Nat.ne_of_lt (blk_lt (by exact kX BK225.out)) : gb225 ≠ gb234));have n14_ := mk0 ((by rw [hg];exact Nat.ne_of_gt (blk_lt (by exact kX BK225.out)) : gb234 ≠ gb225));have n15_ := mk0 ((by rw [hg];exact Nat.ne_of_lt (blk_lt (by exact kX BK226.out)) : gb226 ≠ gb234));have n16_ := mk0 ((by rw [hg];exact Nat.ne_of_gt (blk_lt (by exact kX BK226.out)) : gb234 ≠ gb226));clear HO_227001;clear BK223;clear BK224;clear BK225;clear BK226;clear HB;have HO_227001 := n0_;have BK223 := n1_;have BK224 := n2_;have BK225 := n3_;have BK226 := n4_;have HB := n5_;have BK234 := n6_;have GW234 := n7_;have GE234 := n8_;have NB223_234 := n9_;have NB234_223 := n10_;have NB224_234 := n11_;have NB234_224 := n12_;have NB225_234 := n13_;have NB234_225 := n14_;have NB226_234 := n15_;have NB234_226 := n16_;clear q_ n0_ n1_ n2_ n3_ n4_ n5_ n6_ n7_ n8_ n9_ n10_ n11_ n12_ n13_ n14_ n15_ n16_;clear hb hbox hg;have hnb86 := NB234_223.out;have hnc86 := NB223_234.out;have hnb87 := NB234_224.out;have hnc87 := NB224_234.out;have hnb88 := NB234_225.out;have hnc88 := NB225_234.out;have hnb89 := NB234_226.out;have hnc89 := NB226_234.out;have z90 := bc2 BK234.out;have hnb91 := NB223_224.out;have hnc91 := NB224_223.out;have hnb92 := NB223_225.out;have hnc92 := NB225_223.out;have hnb93 := NB223_226.out;have hnc93 := NB226_223.out;have z94 := bc2 BK223.out)|(go_at_call 21;(with_reducible refine (impl_CoefOf.calls k2 a0_0 _ _ l0_1 ((rd_T70 l1_1 x54_2).f0) t235 _ ?side1 ?side2 A64.out).mono ?_);(case side1 => exact Kd.C_below HR0_1.out (by repeat (first|(with_reducible first|exact HB.out|apply bA|apply bN|apply bD|refine bS ?_ GE223.out|refine bS ?_ GE224.out|refine bS ?_ GE225.out|refine bS ?_ GE226.out|refine bS ?_ GE234.out)|exact HB.out)));(case side2 => exact HC0_1.out);rintro e w95 ⟨rfl,hb⟩;have n0_ := mk0 (Kd.R_below (by exact rX (Kd.R_mono (Kd.R_far (p := ⟨gb234,1,none⟩) (Kd.R_far (p := ⟨gb234,0,none⟩) (Kd.R_mono HO_227001.out (fun k_ hk => (⟨hk,hk.2⟩ : _ ∧ k_ ≠ gb234))) (fun _ hk => hk.2) (.string ((rd_T70 l1_1 x54_2).f0))) (fun _ hk => hk.2) (.int .i64 ((rd_T70 l1_1 x54_2).f1))) (fun _ h_ => h_.1))) hb);have n1_ := mk0 (blk_below (g := gb223) (o := .cells #[.int .i64 a0_0,.slice A0_1 l0_1.length c0_1] 28 (0,0)) (by refine kX ?_;refine blk_far ?_ NB223_234.out _;refine kX ?_;refine blk_far ?_ NB223_234.out _;exact kX BK223.out) hb);have n2_ := mk0 (blk_below (g := gb224) (o := .cells #[.int .i64 a1_0,.slice (some ad233) l1_1.length c1_1] 28 (0,0)) (by refine kX ?_;refine blk_far ?_ NB224_234.out _;refine kX ?_;refine blk_far ?_ NB224_234.out _;exact kX BK224.out) hb);have n3_ := mk0 (blk_below (g := gb225) (o := .cells #[.int .i64 0,.slice none 0 0] 28 (0,0)) (by refine kX ?_;refine blk_far ?_ NB225_234.out _;refine kX ?_;refine blk_far ?_ NB225_234.out _;exact kX BK225.out) hb);have n4_ := mk0 (blk_below (g := gb226) (o := .cells #[.int .i64 (wrap64 (a0_0 + (wrap64 (a2 * a1_0)))),u227001] 28 (0,0)) (by refine kX ?_;refine blk_far ?_ NB226_234.out _;refine kX ?_;refine blk_far ?_ NB226_234.out _;exact kX BK226.out) hb);have n5_ := mk0 (blk_below (g := gb234) (o := .cells #[.string ((rd_T70 l1_1 x54_2).f0),.int .i64 ((rd_T70 l1_1 x54_2).f1)] 70 (0,0)) (by refine kX ?_;refine blk_put (cs := #[.string ((rd_T70 l1_1 x54_2).f0),.int .i64 0]) ?_ 1 _ rfl;refine kX ?_;refine blk_put (cs := #[.string (⟨#[]⟩ : ByteArray),.int .i64 0]) ?_ 0 _ rfl;exact kX BK234.out) hb);have n6_ := mk0 (below_step (by repeat (first|(with_reducible first|exact HB.out|apply bA|apply bN|apply bD|refine bS ?_ GE223.out|refine bS ?_ GE224.out|refine bS ?_ GE225.out|refine bS ?_ GE226.out|refine bS ?_ GE234.out)|exact HB.out)) hb);clear HO_227001;clear BK223;clear BK224;clear BK225;clear BK226;clear BK234;clear HB;have HO_227001 := n0_;have BK223 := n1_;have BK224 := n2_;have BK225 := n3_;have BK226 := n4_;have BK234 := n5_;have HB := n6_;clear n0_ n1_ n2_ n3_ n4_ n5_ n6_;(try clear hb);(try clear hb2);(try clear hk);(try clear hi)))
           go_roundg k2
           case measure => have := HK1.out;have := HK2.out;omega
           case rel => exact ⟨(wrap64 (x54_2 + 1)),(x227001_2),(u227001),(by first|rfl|(simp;done)|(simp [*];done)),H',⟨by have := HK1.out;have := HK2.out;omega⟩,⟨by refine rX ?_;exact Kd.R_mono HO_227001.out (fun _ hk => trivial)⟩,⟨by refine kX ?_;exact BK223.out⟩,⟨by refine kX ?_;exact BK224.out⟩,⟨by refine kX ?_;exact BK225.out⟩,⟨by refine kX ?_;exact BK226.out⟩,⟨by repeat (first|(with_reducible first|exact HB.out|apply bA|apply bN|apply bD|refine bS ?_ GE223.out|refine bS ?_ GE224.out|refine bS ?_ GE225.out|refine bS ?_ GE226.out|refine bS ?_ GE234.out)|exact HB.out)⟩⟩
        ·rw [if_neg c56] at H
         exact absurd H (by simp)
       ·rw [if_neg c55] at H
        exact absurd H (by simp)
      ·rw [if_neg c54] at H
       have c54b0 : decide (x54_2 < (l1_1.length : Int)) = false := decide_eq_false c54
       clear c54
       obtain ⟨t239,A96,H⟩ := bindA H
       obtain ⟨t240,A97,H⟩ := bindA H
       by_cases c98 : t240 = true
       ·subst c98
        rw [if_pos rfl] at H
        simp only [Option.some.injEq,Prod.mk.injEq] at H
        obtain ⟨rfl,rfl,rfl⟩ := H
        have hnb99 := NB226_223.out
        have hnc99 := NB223_226.out
        have hnb100 := NB226_224.out
        have hnc100 := NB224_226.out
        have hnb101 := NB226_225.out
        have hnc101 := NB225_226.out
        have z102 := bc2 BK226.out
        obtain ⟨Ao103,co103,eo103⟩ := Kd.R_slice HO_227001.out
        subst eo103
        go_wp2_with (first|((with_reducible refine gate_callee (f := 75) rfl ?_);refine goesL_ (some 83) rfl rfl Try.func75 (by kernel_rfl) rfl #[.slice Ao103 x227001_2.length co103,.func (.func 76) #[] #[]] rfl (by (try simp only [List.map_toArray,List.map_cons,List.map_nil]);first|done|rfl) ?_;(with_reducible refine (impl_Term_75.calls (fun k_ => some k_ = (.slice Ao103 x227001_2.length co103 : Value).ownBlock) (.slice Ao103 x227001_2.length co103) x227001_2 t239 w _ ?side1 ?side2 A96.out).mono ?_);(case side1 => repeat (first|(with_reducible first|exact HB.out|apply bA|apply bN|apply bD|refine bS ?_ GE223.out|refine bS ?_ GE224.out|refine bS ?_ GE225.out|refine bS ?_ GE226.out)|exact HB.out));(case side2 => exact Kd.R_tight rfl HO_227001.out);rintro e w104 ⟨rfl,hy0,hb,hkp⟩;refine ⟨_,rfl,?_⟩;have n0_ := mk0 (Kd.R_reok rfl hy0 (fun k_ e_ => HO_227001.out.1 k_ e_));have n1_ := mk0 (blk_kept (by exact kX BK223.out) hkp (fun hs_ => (fun e_ => (Kd.R_ne HO_227001.out BK223.out (by decide)) e_) hs_));have n2_ := mk0 (blk_kept (by exact kX BK224.out) hkp (fun hs_ => (fun e_ => (Kd.R_ne HO_227001.out BK224.out (by decide)) e_) hs_));have n3_ := mk0 (blk_kept (by exact kX BK225.out) hkp (fun hs_ => (fun e_ => (Kd.R_ne HO_227001.out BK225.out (by decide)) e_) hs_));have n4_ := mk0 (blk_kept (by exact kX BK226.out) hkp (fun hs_ => (fun e_ => (Kd.R_ne HO_227001.out BK226.out (by decide)) e_) hs_));have n5_ := mk0 (hb);clear HO_227001;clear BK223;clear BK224;clear BK225;clear BK226;clear HB;have HO_227001 := n0_;have BK223 := n1_;have BK224 := n2_;have BK225 := n3_;have BK226 := n4_;have HB := n5_;clear n0_ n1_ n2_ n3_ n4_ n5_;(try clear hb);(try clear hkp);(try clear hy0);have z105 := bc2 BK226.out)|((with_reducible refine gate_callee (f := 20) rfl ?_);refine goesL_ (some 85) rfl rfl Try.func20 (by kernel_rfl) rfl #[.agg #[.int .i64 (wrap64 (a0_0 + (wrap64 (a2 * a1_0)))),.slice Ao103 t239.length co103]] rfl (by (try simp only [List.map_toArray,List.map_cons,List.map_nil]);first|done|(rw [show t239.length = x227001_2.length from (Kd.R_reads' HO_227001.out).1.symm] <;> rfl)|rfl|(simp only [List.length_drop,List.length_take];rfl)) ?_;(with_reducible refine (impl_AffOk.calls k2 (wrap64 (a0_0 + (wrap64 (a2 * a1_0)))) _ _ t239 true _ ?side1 ?side2 A97.out).mono ?_);(case side1 => repeat (first|exact (Kd.R_reads' HO_227001.out).2.2|(with_reducible refine cA ?_ _)|(with_reducible refine cN ?_ _)|(with_reducible refine cD ?_)));(case side2 => rw [show t239.length = x227001_2.length from (Kd.R_reads' HO_227001.out).1.symm];exact (Kd.R_reads' HO_227001.out).2.1);rintro e w106 ⟨rfl,hb⟩;refine ⟨_,rfl,?_⟩;have n0_ := mk0 (Kd.R_below (by exact rX HO_227001.out) hb);have n1_ := mk0 (blk_below (by exact kX BK223.out) hb);have n2_ := mk0 (blk_below (by exact kX BK224.out) hb);have n3_ := mk0 (blk_below (by exact kX BK225.out) hb);have n4_ := mk0 (blk_below (by exact kX BK226.out) hb);have n5_ := mk0 (below_step (by repeat (first|(with_reducible first|exact HB.out|apply bA|apply bN|apply bD|refine bS ?_ GE223.out|refine bS ?_ GE224.out|refine bS ?_ GE225.out|refine bS ?_ GE226.out)|exact HB.out)) hb);clear HO_227001;clear BK223;clear BK224;clear BK225;clear BK226;clear HB;have HO_227001 := n0_;have BK223 := n1_;have BK224 := n2_;have BK225 := n3_;have BK226 := n4_;have HB := n5_;clear n0_ n1_ n2_ n3_ n4_ n5_;(try clear hb);(try clear hb2);(try clear hk);(try clear hi);have z107 := bc2 BK226.out;have hnb108 := NB225_223.out;have hnc108 := NB223_225.out;have hnb109 := NB225_224.out;have hnc109 := NB224_225.out;have z110 := bc2 BK225.out))
        refine bodyPost_ret (results_ct rfl _ _ gb225 28 #[.int .i64 (wrap64 (a0_0 + (wrap64 (a2 * a1_0)))),.slice Ao103 x227001_2.length co103] (0,0) _ rfl (by refine kX ?_;refine blk_put (cs := #[.int .i64 (wrap64 (a0_0 + (wrap64 (a2 * a1_0)))),.slice none 0 0]) ?_ 1 _ rfl;refine kX ?_;refine blk_put (cs := #[.int .i64 0,.slice none 0 0]) ?_ 0 _ rfl;exact kX BK225.out) Try.underlying28 rfl (by kernel_rfl)) rfl ?_
        exact ⟨_,by first|rfl|(simp [errW_none,errW_some] <;> rfl)|(simp [*,errW_none,errW_some] <;> rfl),by refine rX ?_;exact Kd.R_mono (Kd.R_far (p := ⟨gb225,1,none⟩) (Kd.R_far (p := ⟨gb225,0,none⟩) (Kd.R_types HO_227001.out BK225.out (by decide)) (fun _ hk => hk.2) (.int .i64 (wrap64 (a0_0 + (wrap64 (a2 * a1_0)))))) (fun _ hk => hk.2) (.slice Ao103 x227001_2.length co103)) (fun _ hk => trivial),by repeat (first|(with_reducible first|exact HB.out|apply bA|apply bN|apply bD|refine bS ?_ GE223.out|refine bS ?_ GE224.out|refine bS ?_ GE225.out|refine bS ?_ GE226.out)|exact HB.out)⟩
       ·replace c98 := Bool.eq_false_iff.mpr c98
        subst c98
        rw [if_neg (show ¬ (false = true) by decide)] at H
        simp only [Option.some.injEq,Prod.mk.injEq] at H
        obtain ⟨rfl,rfl,rfl⟩ := H
        have hnb111 := NB226_223.out
        have hnc111 := NB223_226.out
        have hnb112 := NB226_224.out
        have hnc112 := NB224_226.out
        have hnb113 := NB226_225.out
        have hnc113 := NB225_226.out
        have z114 := bc2 BK226.out
        obtain ⟨Ao115,co115,eo115⟩ := Kd.R_slice HO_227001.out
        subst eo115
        go_wp2_with (first|((with_reducible refine gate_callee (f := 75) rfl ?_);refine goesL_ (some 83) rfl rfl Try.func75 (by kernel_rfl) rfl #[.slice Ao115 x227001_2.length co115,.func (.func 76) #[] #[]] rfl (by (try simp only [List.map_toArray,List.map_cons,List.map_nil]);first|done|rfl) ?_;(with_reducible refine (impl_Term_75.calls (fun k_ => some k_ = (.slice Ao115 x227001_2.length co115 : Value).ownBlock) (.slice Ao115 x227001_2.length co115) x227001_2 t239 w _ ?side1 ?side2 A96.out).mono ?_);(case side1 => repeat (first|(with_reducible first|exact HB.out|apply bA|apply bN|apply bD|refine bS ?_ GE223.out|refine bS ?_ GE224.out|refine bS ?_ GE225.out|refine bS ?_ GE226.out)|exact HB.out));(case side2 => exact Kd.R_tight rfl HO_227001.out);rintro e w116 ⟨rfl,hy0,hb,hkp⟩;refine ⟨_,rfl,?_⟩;have n0_ := mk0 (Kd.R_reok rfl hy0 (fun k_ e_ => HO_227001.out.1 k_ e_));have n1_ := mk0 (blk_kept (by exact kX BK223.out) hkp (fun hs_ => (fun e_ => (Kd.R_ne HO_227001.out BK223.out (by decide)) e_) hs_));have n2_ := mk0 (blk_kept (by exact kX BK224.out) hkp (fun hs_ => (fun e_ => (Kd.R_ne HO_227001.out BK224.out (by decide)) e_) hs_));have n3_ := mk0 (blk_kept (by exact kX BK225.out) hkp (fun hs_ => (fun e_ => (Kd.R_ne HO_227001.out BK225.out (by decide)) e_) hs_));have n4_ := mk0 (blk_kept (by exact kX BK226.out) hkp (fun hs_ => (fun e_ => (Kd.R_ne HO_227001.out BK226.out (by decide)) e_) hs_));have n5_ := mk0 (hb);clear HO_227001;clear BK223;clear BK224;clear BK225;clear BK226;clear HB;have HO_227001 := n0_;have BK223 := n1_;have BK224 := n2_;have BK225 := n3_;have BK226 := n4_;have HB := n5_;clear n0_ n1_ n2_ n3_ n4_ n5_;(try clear hb);(try clear hkp);(try clear hy0);have z117 := bc2 BK226.out)|((with_reducible refine gate_callee (f := 20) rfl ?_);refine goesL_ (some 85) rfl rfl Try.func20 (by kernel_rfl) rfl #[.agg #[.int .i64 (wrap64 (a0_0 + (wrap64 (a2 * a1_0)))),.slice Ao115 t239.length co115]] rfl (by (try simp only [List.map_toArray,List.map_cons,List.map_nil]);first|done|(rw [show t239.length = x227001_2.length from (Kd.R_reads' HO_227001.out).1.symm] <;> rfl)|rfl|(simp only [List.length_drop,List.length_take];rfl)) ?_;(with_reducible refine (impl_AffOk.calls k2 (wrap64 (a0_0 + (wrap64 (a2 * a1_0)))) _ _ t239 false _ ?side1 ?side2 A97.out).mono ?_);(case side1 => repeat (first|exact (Kd.R_reads' HO_227001.out).2.2|(with_reducible refine cA ?_ _)|(with_reducible refine cN ?_ _)|(with_reducible refine cD ?_)));(case side2 => rw [show t239.length = x227001_2.length from (Kd.R_reads' HO_227001.out).1.symm];exact (Kd.R_reads' HO_227001.out).2.1);rintro e w118 ⟨rfl,hb⟩;refine ⟨_,rfl,?_⟩;have n0_ := mk0 (Kd.R_below (by exact rX HO_227001.out) hb);have n1_ := mk0 (blk_below (by exact kX BK223.out) hb);have n2_ := mk0 (blk_below (by exact kX BK224.out) hb);have n3_ := mk0 (blk_below (by exact kX BK225.out) hb);have n4_ := mk0 (blk_below (by exact kX BK226.out) hb);have n5_ := mk0 (below_step (by repeat (first|(with_reducible first|exact HB.out|apply bA|apply bN|apply bD|refine bS ?_ GE223.out|refine bS ?_ GE224.out|refine bS ?_ GE225.out|refine bS ?_ GE226.out)|exact HB.out)) hb);clear HO_227001;clear BK223;clear BK224;clear BK225;clear BK226;clear HB;have HO_227001 := n0_;have BK223 := n1_;have BK224 := n2_;have BK225 := n3_;have BK226 := n4_;have HB := n5_;clear n0_ n1_ n2_ n3_ n4_ n5_;(try clear hb);(try clear hb2);(try clear hk);(try clear hi);have hnb119 := NB225_223.out;have hnc119 := NB223_225.out;have hnb120 := NB225_224.out;have hnc120 := NB224_225.out;have z121 := bc2 BK225.out))
        refine bodyPost_ret (results_ct rfl _ _ gb225 28 #[.int .i64 0,.slice none 0 0] (0,0) _ rfl (by refine kX ?_;refine blk_put (cs := #[.int .i64 0,.slice none 0 0]) ?_ 1 _ rfl;refine kX ?_;refine blk_put (cs := #[.int .i64 0,.slice none 0 0]) ?_ 0 _ rfl;exact kX BK225.out) Try.underlying28 rfl (by kernel_rfl)) rfl ?_
        exact ⟨_,by first|rfl|(simp [errW_none,errW_some] <;> rfl)|(simp [*,errW_none,errW_some] <;> rfl),by first|exact Kd.R_nil _ _ _ _ _|exact Kd.N_nil _ _ _ _ _|exact Kd.V_nil _ _ _ _ _|exact Kd.Q_nil _ _ _ _ _|exact Kd.S_nil _ _ _ _ _,by repeat (first|(with_reducible first|exact HB.out|apply bA|apply bN|apply bD|refine bS ?_ GE223.out|refine bS ?_ GE224.out|refine bS ?_ GE225.out|refine bS ?_ GE226.out)|exact HB.out)⟩

/-! ### impl_SubA: function 16 -/
def impl_SubA.f (k : Nat) (a0_0 : Int) (l0_1 : List (S70)) (a1_0 : Int) (l1_1 : List (S70)) : Option (Int × (List (S70)) × Bool) := (impl_AffOk.f k a0_0 l0_1).bind fun t244 => (if t244 = true then ((impl_AffOk.f k a1_0 l1_1).bind fun t245 => (if t245 = true then ((impl_mix.f k a0_0 l0_1 a1_0 l1_1 (-1)).bind fun bt246 => (some (bt246.1,bt246.2.1,bt246.2.2))) else (some (0,([] : List (S70)),false)))) else (some (0,([] : List (S70)),false)))
theorem impl_SubA.mono : ∀ a0 a1 a2 a3 k, LeO (impl_SubA.f k a0 a1 a2 a3) (impl_SubA.f (k + 1) a0 a1 a2 a3) := by
 intro a0 a1 a2 a3 k
 unfold impl_SubA.f
 repeat' first
   | (with_reducible exact impl_AffOk.mono _ _ _)
   | (with_reducible exact impl_mix.mono _ _ _ _ _ _)
   | (with_reducible exact LeO.refl _)
   | (with_reducible exact LeO.none _)
   | (with_reducible refine LeO.ite ?_ ?_)
   | (with_reducible refine LeO.bind ?_ (fun _ => ?_))
   | exact impl_AffOk.mono _ _ _
   | exact impl_mix.mono _ _ _ _ _ _
   | exact LeO.none _
   | refine LeO.ite ?_ ?_
   | refine LeO.bind ?_ (fun _ => ?_)
set_option maxHeartbeats 8000000 in
set_option maxRecDepth 100000 in
theorem impl_SubA.calls (k : Nat) (a0_0 : Int) (A0_1 : Option Addr) (c0_1 : Nat) (l0_1 : List (S70)) (a1_0 : Int) (A1_1 : Option Addr) (c1_1 : Nat) (l1_1 : List (S70)) (r1 : Int) (r2 : List (S70)) (r3 : Bool) (w : World) (hr0_1 : Kd.C k70 w A0_1 l0_1.length l0_1) (hc0_1 : l0_1.length ≤ c0_1) (hr1_1 : Kd.C k70 w A1_1 l1_1.length l1_1) (hc1_1 : l1_1.length ≤ c1_1) (h : impl_SubA.f k a0_0 l0_1 a1_0 l1_1 = some (r1, r2, r3)) :
  Calls Try.prog 16 #[.agg #[.int .i64 a0_0, .slice A0_1 l0_1.length c0_1], .agg #[.int .i64 a1_0, .slice A1_1 l1_1.length c1_1]] w fun e w' => ∃ v1_ : Value, e = .returned (.tuple #[.agg #[.int .i64 r1, v1_], .bool r3]) ∧ Kd.R k70 70 w' w.heap.size (fun _ => True) v1_ r2 ∧ Below w.heap.size w w' := by
 have hu28 := Try.underlying28
 have HR0_1 := mk0 hr0_1
 have HC0_1 := mk0 hc0_1
 clear hr0_1 hc0_1
 have HR1_1 := mk0 hr1_1
 have HC1_1 := mk0 hc1_1
 clear hr1_1 hc1_1
 have HB := mk0 (Below.refl w.heap.size w)
 have H : ((impl_AffOk.f k a0_0 l0_1).bind fun t244 => (if t244 = true then ((impl_AffOk.f k a1_0 l1_1).bind fun t245 => (if t245 = true then ((impl_mix.f k a0_0 l0_1 a1_0 l1_1 (-1)).bind fun bt246 => (some (bt246.1,bt246.2.1,bt246.2.2))) else (some (0,([] : List (S70)),false)))) else (some (0,([] : List (S70)),false)))) = some (r1,r2,r3) := h
 clear h
 obtain ⟨t244,A3,H⟩ := bindA H
 by_cases c4 : t244 = true
 ·subst c4
  rw [if_pos rfl] at H
  obtain ⟨t245,A5,H⟩ := bindA H
  by_cases c6 : t245 = true
  ·subst c6
   rw [if_pos rfl] at H
   replace H := Option.bind_eq_some_iff.mp H
   obtain ⟨⟨t246,t247,t250⟩,A70,H⟩ := H
   replace H : (some (t246,t247,t250)) = some (r1,r2,r3) := H
   have A7 := mk0 A70
   clear A70
   simp only [Option.some.injEq,Prod.mk.injEq] at H
   obtain ⟨rfl,rfl,rfl⟩ := H
   go_enter Try.func16,Try.ntmps16
   go_wp2_with (first|((with_reducible refine gate_dst (N := 2) rfl ?_);refine box_event ?hg (N := 2) ?hd (cs := #[.int .i64 a0_0,.slice A0_1 l0_1.length c0_1]) (t := 28) ?hr ?_;(case hd => rfl);(case hg => rfl);(case hr => first|(go_simp;done)|(go_simp;rfl));intro gb241 hg w8 hbox hb;have q_ := qB (by repeat (first|(with_reducible first|exact HB.out|apply bA|apply bN|apply bD)|exact HB.out)) hb;have n0_ := mk0 (below_step q_ hb);have n1_ := mk0 (hbox);have n2_ := mk0 (below_size2 q_ hg);have n3_ := n2_;clear HB;have HB := n0_;have BK241 := n1_;have GW241 := n2_;have GE241 := n3_;clear q_ n0_ n1_ n2_ n3_;clear hb hbox hg)|((with_reducible refine gate_dst (N := 3) rfl ?_);refine box_event ?hg (N := 3) ?hd (cs := #[.int .i64 a1_0,.slice A1_1 l1_1.length c1_1]) (t := 28) ?hr ?_;(case hd => rfl);(case hg => rfl);(case hr => first|(go_simp;done)|(go_simp;rfl));intro gb242 hg w9 hbox hb;have q_ := qB (by repeat (first|(with_reducible first|exact HB.out|apply bA|apply bN|apply bD|refine bS ?_ GE241.out)|exact HB.out)) hb;have n0_ := mk0 (blk_below (by exact kX BK241.out) hb);have n1_ := mk0 (below_step q_ hb);have n2_ := mk0 (hbox);have n3_ := mk0 (below_size2 q_ hg);have n4_ := n3_;have n5_ := mk0 ((by rw [hg];exact Nat.ne_of_lt (blk_lt (by exact kX BK241.out)) : gb241 ≠ gb242));have n6_ := mk0 ((by rw [hg];exact Nat.ne_of_gt (blk_lt (by exact kX BK241.out)) : gb242 ≠ gb241));clear BK241;clear HB;have BK241 := n0_;have HB := n1_;have BK242 := n2_;have GW242 := n3_;have GE242 := n4_;have NB241_242 := n5_;have NB242_241 := n6_;clear q_ n0_ n1_ n2_ n3_ n4_ n5_ n6_;clear hb hbox hg)|((with_reducible refine gate_dst (N := 4) rfl ?_);refine box_event ?hg (N := 4) ?hd (cs := #[.int .i64 0,.slice none 0 0]) (t := 28) ?hr ?_;(case hd => rfl);(case hg => rfl);(case hr => first|(go_simp;done)|(go_simp;rfl));intro gb243 hg w10 hbox hb;have q_ := qB (by repeat (first|(with_reducible first|exact HB.out|apply bA|apply bN|apply bD|refine bS ?_ GE241.out|refine bS ?_ GE242.out)|exact HB.out)) hb;have n0_ := mk0 (blk_below (by exact kX BK241.out) hb);have n1_ := mk0 (blk_below (by exact kX BK242.out) hb);have n2_ := mk0 (below_step q_ hb);have n3_ := mk0 (hbox);have n4_ := mk0 (below_size2 q_ hg);have n5_ := n4_;have n6_ := mk0 ((by rw [hg];exact Nat.ne_of_lt (blk_lt (by exact kX BK241.out)) : gb241 ≠ gb243));have n7_ := mk0 ((by rw [hg];exact Nat.ne_of_gt (blk_lt (by exact kX BK241.out)) : gb243 ≠ gb241));have n8_ := mk0 ((by rw [hg];exact Nat.ne_of_lt (blk_lt (by exact kX BK242.out)) : gb242 ≠ gb243));have n9_ := mk0 ((by rw [hg];exact Nat.ne_of_gt (blk_lt (by exact kX BK242.out)) : gb243 ≠ gb242));clear BK241;clear BK242;clear HB;have BK241 := n0_;have BK242 := n1_;have HB := n2_;have BK243 := n3_;have GW243 := n4_;have GE243 := n5_;have NB241_243 := n6_;have NB243_241 := n7_;have NB242_243 := n8_;have NB243_242 := n9_;clear q_ n0_ n1_ n2_ n3_ n4_ n5_ n6_ n7_ n8_ n9_;clear hb hbox hg;have hnb11 := NB241_242.out;have hnc11 := NB242_241.out;have hnb12 := NB241_243.out;have hnc12 := NB243_241.out;have z13 := bc2 BK241.out)|((with_reducible refine gate_callee (f := 20) rfl ?_);refine goesL_ (some 7) rfl rfl Try.func20 (by kernel_rfl) rfl #[.agg #[.int .i64 a0_0,.slice A0_1 l0_1.length c0_1]] rfl (by (try simp only [List.map_toArray,List.map_cons,List.map_nil]);first|done|rfl) ?_;(with_reducible refine (impl_AffOk.calls k a0_0 _ _ l0_1 true _ ?side1 ?side2 A3.out).mono ?_);(case side1 => repeat (first|exact (Kd.C_below HR0_1.out HB.out)|(with_reducible refine cA ?_ _)|(with_reducible refine cN ?_ _)|(with_reducible refine cD ?_)));(case side2 => exact HC0_1.out);rintro e w14 ⟨rfl,hb⟩;refine ⟨_,rfl,?_⟩;have n0_ := mk0 (blk_below (by exact kX BK241.out) hb);have n1_ := mk0 (blk_below (by exact kX BK242.out) hb);have n2_ := mk0 (blk_below (by exact kX BK243.out) hb);have n3_ := mk0 (below_step (by repeat (first|(with_reducible first|exact HB.out|apply bA|apply bN|apply bD|refine bS ?_ GE241.out|refine bS ?_ GE242.out|refine bS ?_ GE243.out)|exact HB.out)) hb);clear BK241;clear BK242;clear BK243;clear HB;have BK241 := n0_;have BK242 := n1_;have BK243 := n2_;have HB := n3_;clear n0_ n1_ n2_ n3_;(try clear hb);(try clear hb2);(try clear hk);(try clear hi);have hnb15 := NB242_243.out;have hnc15 := NB243_242.out;have z16 := bc2 BK242.out)|(go_at_call 20;(with_reducible refine (impl_AffOk.calls k a1_0 _ _ l1_1 true _ ?side1 ?side2 A5.out).mono ?_);(case side1 => repeat (first|exact (Kd.C_below HR1_1.out HB.out)|(with_reducible refine cA ?_ _)|(with_reducible refine cN ?_ _)|(with_reducible refine cD ?_)));(case side2 => exact HC1_1.out);rintro e w17 ⟨rfl,hb⟩;have n0_ := mk0 (blk_below (by exact kX BK241.out) hb);have n1_ := mk0 (blk_below (by exact kX BK242.out) hb);have n2_ := mk0 (blk_below (by exact kX BK243.out) hb);have n3_ := mk0 (below_step (by repeat (first|(with_reducible first|exact HB.out|apply bA|apply bN|apply bD|refine bS ?_ GE241.out|refine bS ?_ GE242.out|refine bS ?_ GE243.out)|exact HB.out)) hb);clear BK241;clear BK242;clear BK243;clear HB;have BK241 := n0_;have BK242 := n1_;have BK243 := n2_;have HB := n3_;clear n0_ n1_ n2_ n3_;(try clear hb);(try clear hb2);(try clear hk);(try clear hi);have z18 := bc2 BK241.out;have z19 := bc2 BK242.out)|((with_reducible refine gate_callee (f := 40) rfl ?_);refine goesL_ (some 17) rfl rfl Try.func40 (by kernel_rfl) rfl #[.agg #[.int .i64 a0_0,.slice A0_1 l0_1.length c0_1],.agg #[.int .i64 a1_0,.slice A1_1 l1_1.length c1_1],.int .i64 (-1)] rfl (by (try simp only [List.map_toArray,List.map_cons,List.map_nil]);first|done|rfl) ?_;(with_reducible refine (impl_mix.calls k a0_0 _ _ l0_1 a1_0 _ _ l1_1 (-1) t246 t247 t250 _ ?side1 ?side2 ?side3 ?side4 A7.out).mono ?_);(case side1 => repeat (first|exact (Kd.C_below HR0_1.out HB.out)|(with_reducible refine cA ?_ _)|(with_reducible refine cN ?_ _)|(with_reducible refine cD ?_)));(case side2 => exact HC0_1.out);(case side3 => repeat (first|exact (Kd.C_below HR1_1.out HB.out)|(with_reducible refine cA ?_ _)|(with_reducible refine cN ?_ _)|(with_reducible refine cD ?_)));(case side4 => exact HC1_1.out);rintro e w20 ⟨v248,rfl,ho0,hb⟩;refine ⟨_,rfl,?_⟩;have q_ := qB (by repeat (first|(with_reducible first|exact HB.out|apply bA|apply bN|apply bD|refine bS ?_ GE241.out|refine bS ?_ GE242.out|refine bS ?_ GE243.out)|exact HB.out)) hb;have n0_ := mk0 (Kd.R_lower ho0 (below_size q_));have n1_ := mk0 (blk_below (by exact kX BK241.out) hb);have n2_ := mk0 (blk_below (by exact kX BK242.out) hb);have n3_ := mk0 (blk_below (by exact kX BK243.out) hb);have n4_ := mk0 (below_step q_ hb);clear BK241;clear BK242;clear BK243;clear HB;have HO249 := n0_;have BK241 := n1_;have BK242 := n2_;have BK243 := n3_;have HB := n4_;clear q_ n0_ n1_ n2_ n3_ n4_;(try clear hb);(try clear hb2);(try clear hk);(try clear hi);(try clear ho0);have z21 := bc2 BK243.out;obtain ⟨Ao22,co22,eo22⟩ := Kd.R_slice HO249.out;subst eo22))
   refine bodyPost_ret (results_ct rfl _ _ gb243 28 #[.int .i64 t246,.slice Ao22 t247.length co22] (0,0) _ rfl (by refine kX ?_;refine blk_put (cs := #[.int .i64 t246,.slice none 0 0]) ?_ 1 _ rfl;refine kX ?_;refine blk_put (cs := #[.int .i64 0,.slice none 0 0]) ?_ 0 _ rfl;exact kX BK243.out) Try.underlying28 rfl (by kernel_rfl)) rfl ?_
   exact ⟨_,by first|rfl|(simp [errW_none,errW_some] <;> rfl)|(simp [*,errW_none,errW_some] <;> rfl),by refine rX ?_;exact Kd.R_mono (Kd.R_far (p := ⟨gb243,1,none⟩) (Kd.R_far (p := ⟨gb243,0,none⟩) (Kd.R_types HO249.out BK243.out (by decide)) (fun _ hk => hk.2) (.int .i64 t246)) (fun _ hk => hk.2) (.slice Ao22 t247.length co22)) (fun _ hk => trivial),by repeat (first|(with_reducible first|exact HB.out|apply bA|apply bN|apply bD|refine bS ?_ GE241.out|refine bS ?_ GE242.out|refine bS ?_ GE243.out)|exact HB.out)⟩
  ·replace c6 := Bool.eq_false_iff.mpr c6
   subst c6
   rw [if_neg (show ¬ (false = true) by decide)] at H
   simp only [Option.some.injEq,Prod.mk.injEq] at H
   obtain ⟨rfl,rfl,rfl⟩ := H
   go_enter Try.func16,Try.ntmps16
   go_wp2_with (first|((with_reducible refine gate_dst (N := 2) rfl ?_);refine box_event ?hg (N := 2) ?hd (cs := #[.int .i64 a0_0,.slice A0_1 l0_1.length c0_1]) (t := 28) ?hr ?_;(case hd => rfl);(case hg => rfl);(case hr => first|(go_simp;done)|(go_simp;rfl));intro gb241 hg w23 hbox hb;have q_ := qB (by repeat (first|(with_reducible first|exact HB.out|apply bA|apply bN|apply bD)|exact HB.out)) hb;have n0_ := mk0 (below_step q_ hb);have n1_ := mk0 (hbox);have n2_ := mk0 (below_size2 q_ hg);have n3_ := n2_;clear HB;have HB := n0_;have BK241 := n1_;have GW241 := n2_;have GE241 := n3_;clear q_ n0_ n1_ n2_ n3_;clear hb hbox hg)|((with_reducible refine gate_dst (N := 3) rfl ?_);refine box_event ?hg (N := 3) ?hd (cs := #[.int .i64 a1_0,.slice A1_1 l1_1.length c1_1]) (t := 28) ?hr ?_;(case hd => rfl);(case hg => rfl);(case hr => first|(go_simp;done)|(go_simp;rfl));intro gb242 hg w24 hbox hb;have q_ := qB (by repeat (first|(with_reducible first|exact HB.out|apply bA|apply bN|apply bD|refine bS ?_ GE241.out)|exact HB.out)) hb;have n0_ := mk0 (blk_below (by exact kX BK241.out) hb);have n1_ := mk0 (below_step q_ hb);have n2_ := mk0 (hbox);have n3_ := mk0 (below_size2 q_ hg);have n4_ := n3_;have n5_ := mk0 ((by rw [hg];exact Nat.ne_of_lt (blk_lt (by exact kX BK241.out)) : gb241 ≠ gb242));have n6_ := mk0 ((by rw [hg];exact Nat.ne_of_gt (blk_lt (by exact kX BK241.out)) : gb242 ≠ gb241));clear BK241;clear HB;have BK241 := n0_;have HB := n1_;have BK242 := n2_;have GW242 := n3_;have GE242 := n4_;have NB241_242 := n5_;have NB242_241 := n6_;clear q_ n0_ n1_ n2_ n3_ n4_ n5_ n6_;clear hb hbox hg)|((with_reducible refine gate_dst (N := 4) rfl ?_);refine box_event ?hg (N := 4) ?hd (cs := #[.int .i64 0,.slice none 0 0]) (t := 28) ?hr ?_;(case hd => rfl);(case hg => rfl);(case hr => first|(go_simp;done)|(go_simp;rfl));intro gb243 hg w25 hbox hb;have q_ := qB (by repeat (first|(with_reducible first|exact HB.out|apply bA|apply bN|apply bD|refine bS ?_ GE241.out|refine bS ?_ GE242.out)|exact HB.out)) hb;have n0_ := mk0 (blk_below (by exact kX BK241.out) hb);have n1_ := mk0 (blk_below (by exact kX BK242.out) hb);have n2_ := mk0 (below_step q_ hb);have n3_ := mk0 (hbox);have n4_ := mk0 (below_size2 q_ hg);have n5_ := n4_;have n6_ := mk0 ((by rw [hg];exact Nat.ne_of_lt (blk_lt (by exact kX BK241.out)) : gb241 ≠ gb243));have n7_ := mk0 ((by rw [hg];exact Nat.ne_of_gt (blk_lt (by exact kX BK241.out)) : gb243 ≠ gb241));have n8_ := mk0 ((by rw [hg];exact Nat.ne_of_lt (blk_lt (by exact kX BK242.out)) : gb242 ≠ gb243));have n9_ := mk0 ((by rw [hg];exact Nat.ne_of_gt (blk_lt (by exact kX BK242.out)) : gb243 ≠ gb242));clear BK241;clear BK242;clear HB;have BK241 := n0_;have BK242 := n1_;have HB := n2_;have BK243 := n3_;have GW243 := n4_;have GE243 := n5_;have NB241_243 := n6_;have NB243_241 := n7_;have NB242_243 := n8_;have NB243_242 := n9_;clear q_ n0_ n1_ n2_ n3_ n4_ n5_ n6_ n7_ n8_ n9_;clear hb hbox hg;have hnb26 := NB241_242.out;have hnc26 := NB242_241.out;have hnb27 := NB241_243.out;have hnc27 := NB243_241.out;have z28 := bc2 BK241.out)|((with_reducible refine gate_callee (f := 20) rfl ?_);refine goesL_ (some 7) rfl rfl Try.func20 (by kernel_rfl) rfl #[.agg #[.int .i64 a0_0,.slice A0_1 l0_1.length c0_1]] rfl (by (try simp only [List.map_toArray,List.map_cons,List.map_nil]);first|done|rfl) ?_;(with_reducible refine (impl_AffOk.calls k a0_0 _ _ l0_1 true _ ?side1 ?side2 A3.out).mono ?_);(case side1 => repeat (first|exact (Kd.C_below HR0_1.out HB.out)|(with_reducible refine cA ?_ _)|(with_reducible refine cN ?_ _)|(with_reducible refine cD ?_)));(case side2 => exact HC0_1.out);rintro e w29 ⟨rfl,hb⟩;refine ⟨_,rfl,?_⟩;have n0_ := mk0 (blk_below (by exact kX BK241.out) hb);have n1_ := mk0 (blk_below (by exact kX BK242.out) hb);have n2_ := mk0 (blk_below (by exact kX BK243.out) hb);have n3_ := mk0 (below_step (by repeat (first|(with_reducible first|exact HB.out|apply bA|apply bN|apply bD|refine bS ?_ GE241.out|refine bS ?_ GE242.out|refine bS ?_ GE243.out)|exact HB.out)) hb);clear BK241;clear BK242;clear BK243;clear HB;have BK241 := n0_;have BK242 := n1_;have BK243 := n2_;have HB := n3_;clear n0_ n1_ n2_ n3_;(try clear hb);(try clear hb2);(try clear hk);(try clear hi);have hnb30 := NB242_243.out;have hnc30 := NB243_242.out;have z31 := bc2 BK242.out)|(go_at_call 20;(with_reducible refine (impl_AffOk.calls k a1_0 _ _ l1_1 false _ ?side1 ?side2 A5.out).mono ?_);(case side1 => repeat (first|exact (Kd.C_below HR1_1.out HB.out)|(with_reducible refine cA ?_ _)|(with_reducible refine cN ?_ _)|(with_reducible refine cD ?_)));(case side2 => exact HC1_1.out);rintro e w32 ⟨rfl,hb⟩;have n0_ := mk0 (blk_below (by exact kX BK241.out) hb);have n1_ := mk0 (blk_below (by exact kX BK242.out) hb);have n2_ := mk0 (blk_below (by exact kX BK243.out) hb);have n3_ := mk0 (below_step (by repeat (first|(with_reducible first|exact HB.out|apply bA|apply bN|apply bD|refine bS ?_ GE241.out|refine bS ?_ GE242.out|refine bS ?_ GE243.out)|exact HB.out)) hb);clear BK241;clear BK242;clear BK243;clear HB;have BK241 := n0_;have BK242 := n1_;have BK243 := n2_;have HB := n3_;clear n0_ n1_ n2_ n3_;(try clear hb);(try clear hb2);(try clear hk);(try clear hi);have z33 := bc2 BK243.out))
   refine bodyPost_ret (results_ct rfl _ _ gb243 28 #[.int .i64 0,.slice none 0 0] (0,0) _ rfl (by refine kX ?_;refine blk_put (cs := #[.int .i64 0,.slice none 0 0]) ?_ 1 _ rfl;refine kX ?_;refine blk_put (cs := #[.int .i64 0,.slice none 0 0]) ?_ 0 _ rfl;exact kX BK243.out) Try.underlying28 rfl (by kernel_rfl)) rfl ?_
   exact ⟨_,by first|rfl|(simp [errW_none,errW_some] <;> rfl)|(simp [*,errW_none,errW_some] <;> rfl),by first|exact Kd.R_nil _ _ _ _ _|exact Kd.N_nil _ _ _ _ _|exact Kd.V_nil _ _ _ _ _|exact Kd.Q_nil _ _ _ _ _|exact Kd.S_nil _ _ _ _ _,by repeat (first|(with_reducible first|exact HB.out|apply bA|apply bN|apply bD|refine bS ?_ GE241.out|refine bS ?_ GE242.out|refine bS ?_ GE243.out)|exact HB.out)⟩
 ·replace c4 := Bool.eq_false_iff.mpr c4
  subst c4
  rw [if_neg (show ¬ (false = true) by decide)] at H
  simp only [Option.some.injEq,Prod.mk.injEq] at H
  obtain ⟨rfl,rfl,rfl⟩ := H
  go_enter Try.func16,Try.ntmps16
  go_wp2_with (first|((with_reducible refine gate_dst (N := 2) rfl ?_);refine box_event ?hg (N := 2) ?hd (cs := #[.int .i64 a0_0,.slice A0_1 l0_1.length c0_1]) (t := 28) ?hr ?_;(case hd => rfl);(case hg => rfl);(case hr => first|(go_simp;done)|(go_simp;rfl));intro gb241 hg w34 hbox hb;have q_ := qB (by repeat (first|(with_reducible first|exact HB.out|apply bA|apply bN|apply bD)|exact HB.out)) hb;have n0_ := mk0 (below_step q_ hb);have n1_ := mk0 (hbox);have n2_ := mk0 (below_size2 q_ hg);have n3_ := n2_;clear HB;have HB := n0_;have BK241 := n1_;have GW241 := n2_;have GE241 := n3_;clear q_ n0_ n1_ n2_ n3_;clear hb hbox hg)|((with_reducible refine gate_dst (N := 3) rfl ?_);refine box_event ?hg (N := 3) ?hd (cs := #[.int .i64 a1_0,.slice A1_1 l1_1.length c1_1]) (t := 28) ?hr ?_;(case hd => rfl);(case hg => rfl);(case hr => first|(go_simp;done)|(go_simp;rfl));intro gb242 hg w35 hbox hb;have q_ := qB (by repeat (first|(with_reducible first|exact HB.out|apply bA|apply bN|apply bD|refine bS ?_ GE241.out)|exact HB.out)) hb;have n0_ := mk0 (blk_below (by exact kX BK241.out) hb);have n1_ := mk0 (below_step q_ hb);have n2_ := mk0 (hbox);have n3_ := mk0 (below_size2 q_ hg);have n4_ := n3_;have n5_ := mk0 ((by rw [hg];exact Nat.ne_of_lt (blk_lt (by exact kX BK241.out)) : gb241 ≠ gb242));have n6_ := mk0 ((by rw [hg];exact Nat.ne_of_gt (blk_lt (by exact kX BK241.out)) : gb242 ≠ gb241));clear BK241;clear HB;have BK241 := n0_;have HB := n1_;have BK242 := n2_;have GW242 := n3_;have GE242 := n4_;have NB241_242 := n5_;have NB242_241 := n6_;clear q_ n0_ n1_ n2_ n3_ n4_ n5_ n6_;clear hb hbox hg)|((with_reducible refine gate_dst (N := 4) rfl ?_);refine box_event ?hg (N := 4) ?hd (cs := #[.int .i64 0,.slice none 0 0]) (t := 28) ?hr ?_;(case hd => rfl);(case hg => rfl);(case hr => first|(go_simp;done)|(go_simp;rfl));intro gb243 hg w36 hbox hb;have q_ := qB (by repeat (first|(with_reducible first|exact HB.out|apply bA|apply bN|apply bD|refine bS ?_ GE241.out|refine bS ?_ GE242.out)|exact HB.out)) hb;have n0_ := mk0 (blk_below (by exact kX BK241.out) hb);have n1_ := mk0 (blk_below (by exact kX BK242.out) hb);have n2_ := mk0 (below_step q_ hb);have n3_ := mk0 (hbox);have n4_ := mk0 (below_size2 q_ hg);have n5_ := n4_;have n6_ := mk0 ((by rw [hg];exact Nat.ne_of_lt (blk_lt (by exact kX BK241.out)) : gb241 ≠ gb243));have n7_ := mk0 ((by rw [hg];exact Nat.ne_of_gt (blk_lt (by exact kX BK241.out)) : gb243 ≠ gb241));have n8_ := mk0 ((by rw [hg];exact Nat.ne_of_lt (blk_lt (by exact kX BK242.out)) : gb242 ≠ gb243));have n9_ := mk0 ((by rw [hg];exact Nat.ne_of_gt (blk_lt (by exact kX BK242.out)) : gb243 ≠ gb242));clear BK241;clear BK242;clear HB;have BK241 := n0_;have BK242 := n1_;have HB := n2_;have BK243 := n3_;have GW243 := n4_;have GE243 := n5_;have NB241_243 := n6_;have NB243_241 := n7_;have NB242_243 := n8_;have NB243_242 := n9_;clear q_ n0_ n1_ n2_ n3_ n4_ n5_ n6_ n7_ n8_ n9_;clear hb hbox hg;have hnb37 := NB241_242.out;have hnc37 := NB242_241.out;have hnb38 := NB241_243.out;have hnc38 := NB243_241.out;have z39 := bc2 BK241.out)|((with_reducible refine gate_callee (f := 20) rfl ?_);refine goesL_ (some 7) rfl rfl Try.func20 (by kernel_rfl) rfl #[.agg #[.int .i64 a0_0,.slice A0_1 l0_1.length c0_1]] rfl (by (try simp only [List.map_toArray,List.map_cons,List.map_nil]);first|done|rfl) ?_;(with_reducible refine (impl_AffOk.calls k a0_0 _ _ l0_1 false _ ?side1 ?side2 A3.out).mono ?_);(case side1 => repeat (first|exact (Kd.C_below HR0_1.out HB.out)|(with_reducible refine cA ?_ _)|(with_reducible refine cN ?_ _)|(with_reducible refine cD ?_)));(case side2 => exact HC0_1.out);rintro e w40 ⟨rfl,hb⟩;refine ⟨_,rfl,?_⟩;have n0_ := mk0 (blk_below (by exact kX BK241.out) hb);have n1_ := mk0 (blk_below (by exact kX BK242.out) hb);have n2_ := mk0 (blk_below (by exact kX BK243.out) hb);have n3_ := mk0 (below_step (by repeat (first|(with_reducible first|exact HB.out|apply bA|apply bN|apply bD|refine bS ?_ GE241.out|refine bS ?_ GE242.out|refine bS ?_ GE243.out)|exact HB.out)) hb);clear BK241;clear BK242;clear BK243;clear HB;have BK241 := n0_;have BK242 := n1_;have BK243 := n2_;have HB := n3_;clear n0_ n1_ n2_ n3_;(try clear hb);(try clear hb2);(try clear hk);(try clear hi);have hnb41 := NB243_242.out;have hnc41 := NB242_243.out;have z42 := bc2 BK243.out))
  refine bodyPost_ret (results_ct rfl _ _ gb243 28 #[.int .i64 0,.slice none 0 0] (0,0) _ rfl (by refine kX ?_;refine blk_put (cs := #[.int .i64 0,.slice none 0 0]) ?_ 1 _ rfl;refine kX ?_;refine blk_put (cs := #[.int .i64 0,.slice none 0 0]) ?_ 0 _ rfl;exact kX BK243.out) Try.underlying28 rfl (by kernel_rfl)) rfl ?_
  exact ⟨_,by first|rfl|(simp [errW_none,errW_some] <;> rfl)|(simp [*,errW_none,errW_some] <;> rfl),by first|exact Kd.R_nil _ _ _ _ _|exact Kd.N_nil _ _ _ _ _|exact Kd.V_nil _ _ _ _ _|exact Kd.Q_nil _ _ _ _ _|exact Kd.S_nil _ _ _ _ _,by repeat (first|(with_reducible first|exact HB.out|apply bA|apply bN|apply bD|refine bS ?_ GE241.out|refine bS ?_ GE242.out|refine bS ?_ GE243.out)|exact HB.out)⟩
end Go.Proofs.Ytmomablfmhkppaa.PFnExactSubA
