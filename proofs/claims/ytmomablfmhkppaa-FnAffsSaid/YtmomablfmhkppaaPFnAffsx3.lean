-- The functions of a law as plain Lean functions, each with its contract: written by a program of this session.
import Derived.Test.YtmomablfmhkppaaPFnAffsx0
import Derived.Test.YtmomablfmhkppaaPFnAffsx2
namespace Go.Proofs.Ytmomablfmhkppaa.PFnAffs
open Go.RowKit Go.Proofs.YtmomablfmhkppaaW.PrintWords Go.Proofs.YtmomablfmhkppaaW.PrintLast Go.Proofs.YtmomablfmhkppaaW.PrintMore
attribute [local go_sem] max2_int min2_int max_two min_two max_three min_three max_four min_four   -- for this text's walks alone
set_option linter.unusedVariables false
set_option linter.unusedSimpArgs false

/-! ### impl_mix: function 40 -/
mutual
def impl_mix.l0 : Nat → Int → List (S70) → Int → Int → Int → List (S70) → Int → List (S70) → Int → List (S70) → Option (Int × (List (S70)) × Bool)
  | 0, _, _, _, _, _, _, _, _, _, _ => none
  | k + 1, x2, x24, x25, x26, x109000, x109001, x110000, x110001, x112000, x112001 => if x26 < x25 then (if 0 ≤ x26 then (if x26 < (x24.length : Int) then ((impl_CoefOf.f k x110000 x110001 ((rd_T70 x24 x26).f0)).bind fun t114 => (if (wrap64 (((rd_T70 x24 x26).f1) + (wrap64 (x2 * t114)))) = 0 then (impl_mix.l0 k x2 x24 x25 (wrap64 (x26 + 1)) x109000 x109001 x110000 x110001 x112000 x112001) else (if x112001.length < 5864062014805 then (impl_mix.l0 k x2 x24 x25 (wrap64 (x26 + 1)) x109000 x109001 x110000 x110001 x112000 (x112001 ++ [(⟨(rd_T70 x24 x26).f0, wrap64 (((rd_T70 x24 x26).f1) + (wrap64 (x2 * t114)))⟩ : S70)])) else (none)))) else (none)) else (none)) else (impl_mix.l1 k x2 x110001 (x110001.length : Int) 0 x109000 x109001 x112000 x112001)
def impl_mix.l1 : Nat → Int → List (S70) → Int → Int → Int → List (S70) → Int → List (S70) → Option (Int × (List (S70)) × Bool)
  | 0, _, _, _, _, _, _, _, _ => none
  | k + 1, x2, x52, x53, x54, x109000, x109001, x112000, x112001 => if x54 < x53 then (if 0 ≤ x54 then (if x54 < (x52.length : Int) then (if (wrap64 (x2 * ((rd_T70 x52 x54).f1))) = 0 then (impl_mix.l1 k x2 x52 x53 (wrap64 (x54 + 1)) x109000 x109001 x112000 x112001) else ((impl_CoefOf.f k x109000 x109001 ((rd_T70 x52 x54).f0)).bind fun t120 => (if t120 = 0 then (if x112001.length < 5864062014805 then (impl_mix.l1 k x2 x52 x53 (wrap64 (x54 + 1)) x109000 x109001 x112000 (x112001 ++ [(⟨(rd_T70 x52 x54).f0, wrap64 (x2 * ((rd_T70 x52 x54).f1))⟩ : S70)])) else (none)) else (impl_mix.l1 k x2 x52 x53 (wrap64 (x54 + 1)) x109000 x109001 x112000 x112001)))) else (none)) else (none)) else ((impl_Term_75.f x112001).bind fun t124 => ((impl_AffOk.f k x112000 t124).bind fun t125 => (if t125 = true then (some (x112000, t124, true)) else (some (0, ([] : List (S70)), false)))))
end
def impl_mix.f (k : Nat) (a0_0 : Int) (l0_1 : List (S70)) (a1_0 : Int) (l1_1 : List (S70)) (a2 : Int) : Option (Int × (List (S70)) × Bool) := impl_mix.l0 k a2 l0_1 (l0_1.length : Int) 0 a0_0 l0_1 a1_0 l1_1 (wrap64 (a0_0 + (wrap64 (a2 * a1_0)))) ([] : List (S70))
theorem impl_mix.mono_l : ∀ k, (∀ y0 y1 y2 y3 y4 y5 y6 y7 y8 y9, LeO (impl_mix.l0 k y0 y1 y2 y3 y4 y5 y6 y7 y8 y9) (impl_mix.l0 (k + 1) y0 y1 y2 y3 y4 y5 y6 y7 y8 y9)) ∧ (∀ y0 y1 y2 y3 y4 y5 y6 y7, LeO (impl_mix.l1 k y0 y1 y2 y3 y4 y5 y6 y7) (impl_mix.l1 (k + 1) y0 y1 y2 y3 y4 y5 y6 y7))
  | 0 => ⟨fun _ _ _ _ _ _ _ _ _ _ r h => by simp [impl_mix.l0] at h, fun _ _ _ _ _ _ _ _ r h => by simp [impl_mix.l1] at h⟩
  | k + 1 => by
    obtain ⟨ih0, ih1⟩ := impl_mix.mono_l k
    refine ⟨?_, ?_⟩
    · intro y0 y1 y2 y3 y4 y5 y6 y7 y8 y9
      unfold impl_mix.l0
      repeat' first
      | (with_reducible exact ih0 _ _ _ _ _ _ _ _ _ _)
      | (with_reducible exact ih1 _ _ _ _ _ _ _ _)
      | (with_reducible exact impl_AffOk.mono _ _ _)
      | (with_reducible exact impl_CoefOf.mono _ _ _ _)
      | (with_reducible exact LeO.refl _)
      | (with_reducible exact LeO.none _)
      | (with_reducible refine LeO.ite ?_ ?_)
      | (with_reducible refine LeO.bind ?_ (fun _ => ?_))
      | exact ih0 _ _ _ _ _ _ _ _ _ _
      | exact ih1 _ _ _ _ _ _ _ _
      | exact impl_AffOk.mono _ _ _
      | exact impl_CoefOf.mono _ _ _ _
      | exact LeO.none _
      | refine LeO.ite ?_ ?_
      | refine LeO.bind ?_ (fun _ => ?_)
    · intro y0 y1 y2 y3 y4 y5 y6 y7
      unfold impl_mix.l1
      repeat' first
      | (with_reducible exact ih0 _ _ _ _ _ _ _ _ _ _)
      | (with_reducible exact ih1 _ _ _ _ _ _ _ _)
      | (with_reducible exact impl_AffOk.mono _ _ _)
      | (with_reducible exact impl_CoefOf.mono _ _ _ _)
      | (with_reducible exact LeO.refl _)
      | (with_reducible exact LeO.none _)
      | (with_reducible refine LeO.ite ?_ ?_)
      | (with_reducible refine LeO.bind ?_ (fun _ => ?_))
      | exact ih0 _ _ _ _ _ _ _ _ _ _
      | exact ih1 _ _ _ _ _ _ _ _
      | exact impl_AffOk.mono _ _ _
      | exact impl_CoefOf.mono _ _ _ _
      | exact LeO.none _
      | refine LeO.ite ?_ ?_
      | refine LeO.bind ?_ (fun _ => ?_)
theorem impl_mix.mono : ∀ a0 a1 a2 a3 a4 k, LeO (impl_mix.f k a0 a1 a2 a3 a4) (impl_mix.f (k + 1) a0 a1 a2 a3 a4) := by
  intro a0 a1 a2 a3 a4 k
  obtain ⟨ih0, ih1⟩ := impl_mix.mono_l k
  unfold impl_mix.f
  repeat' first
      | (with_reducible exact ih0 _ _ _ _ _ _ _ _ _ _)
      | (with_reducible exact ih1 _ _ _ _ _ _ _ _)
      | (with_reducible exact impl_AffOk.mono _ _ _)
      | (with_reducible exact impl_CoefOf.mono _ _ _ _)
      | (with_reducible exact LeO.refl _)
      | (with_reducible exact LeO.none _)
      | (with_reducible refine LeO.ite ?_ ?_)
      | (with_reducible refine LeO.bind ?_ (fun _ => ?_))
      | exact ih0 _ _ _ _ _ _ _ _ _ _
      | exact ih1 _ _ _ _ _ _ _ _
      | exact impl_AffOk.mono _ _ _
      | exact impl_CoefOf.mono _ _ _ _
      | exact LeO.none _
      | refine LeO.ite ?_ ?_
      | refine LeO.bind ?_ (fun _ => ?_)
def impl_mix.T5 : Bool × List (List Nat × List Nat) := (true, [([], []), ([0], [0]), ([], []), ([], []), ([], []), ([4], [4]), ([3, 5], [3, 5]), ([2, 6], [2, 6]), ([1, 7], [1, 7]), ([8, 6, 0, 1, 2, 3, 4, 5, 6, 7, 8], [8])])
def impl_mix.B5 : List Nat := [0, 1, 0, 0, 0, 16, 56, 124, 255, 511]
theorem impl_mix.tab5 : rtab .any (opsOf Try.f40 5) = impl_mix.T5 := by kernel_rfl
theorem impl_mix.bits5 : waitsOk impl_mix.T5.2 impl_mix.B5 = true := by kernel_rfl
set_option maxHeartbeats 8000000 in
set_option maxRecDepth 100000 in
theorem impl_mix.calls (k : Nat) (a0_0 : Int) (A0_1 : Option Addr) (c0_1 : Nat) (l0_1 : List (S70)) (a1_0 : Int) (A1_1 : Option Addr) (c1_1 : Nat) (l1_1 : List (S70)) (a2 : Int) (r1 : Int) (r2 : List (S70)) (r3 : Bool) (w : World) (hr0_1 : Kd.C k70 w A0_1 l0_1.length l0_1) (hc0_1 : l0_1.length ≤ c0_1) (hr1_1 : Kd.C k70 w A1_1 l1_1.length l1_1) (hc1_1 : l1_1.length ≤ c1_1) (h : impl_mix.f k a0_0 l0_1 a1_0 l1_1 a2 = some (r1, r2, r3)) :
    Calls Try.prog 40 #[.agg #[.int .i64 a0_0, .slice A0_1 l0_1.length c0_1], .agg #[.int .i64 a1_0, .slice A1_1 l1_1.length c1_1], .int .i64 a2] w fun e w' => ∃ v1_ : Value, e = .returned (.tuple #[.agg #[.int .i64 r1, v1_], .bool r3]) ∧ Kd.R k70 70 w' w.heap.size (fun _ => True) v1_ r2 ∧ Below w.heap.size w w' := by
  have hu28 := Try.underlying28
  have hu70 := Try.underlying70
  have HR0_1 := mk0 hr0_1
  have HC0_1 := mk0 hc0_1
  clear hr0_1 hc0_1
  have HR1_1 := mk0 hr1_1
  have HC1_1 := mk0 hc1_1
  clear hr1_1 hc1_1
  have HB := mk0 (Below.refl w.heap.size w)
  have H : (impl_mix.l0 k a2 l0_1 (l0_1.length : Int) 0 a0_0 l0_1 a1_0 l1_1 (wrap64 (a0_0 + (wrap64 (a2 * a1_0)))) ([] : List (S70))) = some (r1, r2, r3) := h
  clear h
  have H' := mk0 H
  clear H
  go_enter Try.func40, Try.ntmps40
  go_wp2_with (first | ((with_reducible refine gate_dst (N := 3) rfl ?_); refine box_event ?hg (N := 3) ?hd (cs := #[.int .i64 a0_0, .slice A0_1 l0_1.length c0_1]) (t := 28) ?hr ?_; (case hd => rfl); (case hg => rfl); (case hr => first | (go_simp; done) | (go_simp; rfl)); intro gb108 hg w4 hbox hb; have q_ := qB (by repeat (first | (with_reducible first | exact HB.out | apply bA | apply bN | apply bD) | exact HB.out)) hb; have n0_ := mk0 (below_step q_ hb); have n1_ := mk0 (hbox); have n2_ := mk0 (below_size2 q_ hg); have n3_ := n2_; clear HB; have HB := n0_; have BK108 := n1_; have GW108 := n2_; have GE108 := n3_; clear q_ n0_ n1_ n2_ n3_; clear hb hbox hg) | ((with_reducible refine gate_dst (N := 4) rfl ?_); refine box_event ?hg (N := 4) ?hd (cs := #[.int .i64 a1_0, .slice A1_1 l1_1.length c1_1]) (t := 28) ?hr ?_; (case hd => rfl); (case hg => rfl); (case hr => first | (go_simp; done) | (go_simp; rfl)); intro gb109 hg w5 hbox hb; have q_ := qB (by repeat (first | (with_reducible first | exact HB.out | apply bA | apply bN | apply bD | refine bS ?_ GE108.out) | exact HB.out)) hb; have n0_ := mk0 (blk_below (by (with_reducible repeat (first | refine kN ?_ _ | refine kD ?_ | refine kA ?_ _)); exact BK108.out) hb); have n1_ := mk0 (below_step q_ hb); have n2_ := mk0 (hbox); have n3_ := mk0 (below_size2 q_ hg); have n4_ := n3_; have n5_ := mk0 ((by rw [hg]; exact Nat.ne_of_lt (blk_lt (by (with_reducible repeat (first | refine kN ?_ _ | refine kD ?_ | refine kA ?_ _)); exact BK108.out)) : gb108 ≠ gb109)); have n6_ := mk0 ((by rw [hg]; exact Nat.ne_of_gt (blk_lt (by (with_reducible repeat (first | refine kN ?_ _ | refine kD ?_ | refine kA ?_ _)); exact BK108.out)) : gb109 ≠ gb108)); clear BK108; clear HB; have BK108 := n0_; have HB := n1_; have BK109 := n2_; have GW109 := n3_; have GE109 := n4_; have NB108_109 := n5_; have NB109_108 := n6_; clear q_ n0_ n1_ n2_ n3_ n4_ n5_ n6_; clear hb hbox hg) | ((with_reducible refine gate_dst (N := 6) rfl ?_); refine box_event ?hg (N := 6) ?hd (cs := #[.int .i64 0, .slice none 0 0]) (t := 28) ?hr ?_; (case hd => rfl); (case hg => rfl); (case hr => first | (go_simp; done) | (go_simp; rfl)); intro gb110 hg w6 hbox hb; have q_ := qB (by repeat (first | (with_reducible first | exact HB.out | apply bA | apply bN | apply bD | refine bS ?_ GE108.out | refine bS ?_ GE109.out) | exact HB.out)) hb; have n0_ := mk0 (blk_below (by (with_reducible repeat (first | refine kN ?_ _ | refine kD ?_ | refine kA ?_ _)); exact BK108.out) hb); have n1_ := mk0 (blk_below (by (with_reducible repeat (first | refine kN ?_ _ | refine kD ?_ | refine kA ?_ _)); exact BK109.out) hb); have n2_ := mk0 (below_step q_ hb); have n3_ := mk0 (hbox); have n4_ := mk0 (below_size2 q_ hg); have n5_ := n4_; have n6_ := mk0 ((by rw [hg]; exact Nat.ne_of_lt (blk_lt (by (with_reducible repeat (first | refine kN ?_ _ | refine kD ?_ | refine kA ?_ _)); exact BK108.out)) : gb108 ≠ gb110)); have n7_ := mk0 ((by rw [hg]; exact Nat.ne_of_gt (blk_lt (by (with_reducible repeat (first | refine kN ?_ _ | refine kD ?_ | refine kA ?_ _)); exact BK108.out)) : gb110 ≠ gb108)); have n8_ := mk0 ((by rw [hg]; exact Nat.ne_of_lt (blk_lt (by (with_reducible repeat (first | refine kN ?_ _ | refine kD ?_ | refine kA ?_ _)); exact BK109.out)) : gb109 ≠ gb110)); have n9_ := mk0 ((by rw [hg]; exact Nat.ne_of_gt (blk_lt (by (with_reducible repeat (first | refine kN ?_ _ | refine kD ?_ | refine kA ?_ _)); exact BK109.out)) : gb110 ≠ gb109)); clear BK108; clear BK109; clear HB; have BK108 := n0_; have BK109 := n1_; have HB := n2_; have BK110 := n3_; have GW110 := n4_; have GE110 := n5_; have NB108_110 := n6_; have NB110_108 := n7_; have NB109_110 := n8_; have NB110_109 := n9_; clear q_ n0_ n1_ n2_ n3_ n4_ n5_ n6_ n7_ n8_ n9_; clear hb hbox hg; have hnb7 := NB108_109.out; have hnc7 := NB109_108.out; have hnb8 := NB108_110.out; have hnc8 := NB110_108.out; have z9 := bc2 BK108.out; have hnb10 := NB109_110.out; have hnc10 := NB110_109.out; have z11 := bc2 BK109.out) | ((with_reducible refine gate_dst (N := 8) rfl ?_); refine box_event ?hg (N := 8) ?hd (cs := #[.int .i64 0, .slice none 0 0]) (t := 28) ?hr ?_; (case hd => rfl); (case hg => rfl); (case hr => first | (go_simp; done) | (go_simp; rfl)); intro gb111 hg w12 hbox hb; have q_ := qB (by repeat (first | (with_reducible first | exact HB.out | apply bA | apply bN | apply bD | refine bS ?_ GE108.out | refine bS ?_ GE109.out | refine bS ?_ GE110.out) | exact HB.out)) hb; have n0_ := mk0 (blk_below (by (with_reducible repeat (first | refine kN ?_ _ | refine kD ?_ | refine kA ?_ _)); exact BK108.out) hb); have n1_ := mk0 (blk_below (by (with_reducible repeat (first | refine kN ?_ _ | refine kD ?_ | refine kA ?_ _)); exact BK109.out) hb); have n2_ := mk0 (blk_below (by (with_reducible repeat (first | refine kN ?_ _ | refine kD ?_ | refine kA ?_ _)); exact BK110.out) hb); have n3_ := mk0 (below_step q_ hb); have n4_ := mk0 (hbox); have n5_ := mk0 (below_size2 q_ hg); have n6_ := n5_; have n7_ := mk0 ((by rw [hg]; exact Nat.ne_of_lt (blk_lt (by (with_reducible repeat (first | refine kN ?_ _ | refine kD ?_ | refine kA ?_ _)); exact BK108.out)) : gb108 ≠ gb111)); have n8_ := mk0 ((by rw [hg]; exact Nat.ne_of_gt (blk_lt (by (with_reducible repeat (first | refine kN ?_ _ | refine kD ?_ | refine kA ?_ _)); exact BK108.out)) : gb111 ≠ gb108)); have n9_ := mk0 ((by rw [hg]; exact Nat.ne_of_lt (blk_lt (by (with_reducible repeat (first | refine kN ?_ _ | refine kD ?_ | refine kA ?_ _)); exact BK109.out)) : gb109 ≠ gb111)); have n10_ := mk0 ((by rw [hg]; exact Nat.ne_of_gt (blk_lt (by (with_reducible repeat (first | refine kN ?_ _ | refine kD ?_ | refine kA ?_ _)); exact BK109.out)) : gb111 ≠ gb109)); have n11_ := mk0 ((by rw [hg]; exact Nat.ne_of_lt (blk_lt (by (with_reducible repeat (first | refine kN ?_ _ | refine kD ?_ | refine kA ?_ _)); exact BK110.out)) : gb110 ≠ gb111)); have n12_ := mk0 ((by rw [hg]; exact Nat.ne_of_gt (blk_lt (by (with_reducible repeat (first | refine kN ?_ _ | refine kD ?_ | refine kA ?_ _)); exact BK110.out)) : gb111 ≠ gb110)); clear BK108; clear BK109; clear BK110; clear HB; have BK108 := n0_; have BK109 := n1_; have BK110 := n2_; have HB := n3_; have BK111 := n4_; have GW111 := n5_; have GE111 := n6_; have NB108_111 := n7_; have NB111_108 := n8_; have NB109_111 := n9_; have NB111_109 := n10_; have NB110_111 := n11_; have NB111_110 := n12_; clear q_ n0_ n1_ n2_ n3_ n4_ n5_ n6_ n7_ n8_ n9_ n10_ n11_ n12_; clear hb hbox hg; have hnb13 := NB111_108.out; have hnc13 := NB108_111.out; have hnb14 := NB111_109.out; have hnc14 := NB109_111.out; have hnb15 := NB111_110.out; have hnc15 := NB110_111.out; have z16 := bc2 BK111.out; have z17 := bc2 BK108.out))
  go_loopg [26] k (fun kq v26 w' => ∃ (x26_1 : Int) (x112001_1 : List (S70)) (u112001 : Value), v26 = .int .i64 x26_1 ∧ Aside0 (impl_mix.l0 kq a2 l0_1 (l0_1.length : Int) x26_1 a0_0 l0_1 a1_0 l1_1 (wrap64 (a0_0 + (wrap64 (a2 * a1_0)))) x112001_1 = some (r1, r2, r3)) ∧ Aside0 (kq ≤ k) ∧ Aside0 (Kd.R k70 70 w' w.heap.size (fun _ => True) u112001 x112001_1) ∧ Aside0 (w'.heap[gb108]? = some (.cells #[.int .i64 a0_0, (.slice A0_1 l0_1.length c0_1)] 28 (0, 0))) ∧ Aside0 (w'.heap[gb109]? = some (.cells #[.int .i64 a1_0, (.slice A1_1 l1_1.length c1_1)] 28 (0, 0))) ∧ Aside0 (w'.heap[gb110]? = some (.cells #[.int .i64 0, (.slice none 0 0)] 28 (0, 0))) ∧ Aside0 (w'.heap[gb111]? = some (.cells #[.int .i64 (wrap64 (a0_0 + (wrap64 (a2 * a1_0)))), u112001] 28 (0, 0))) ∧ Aside0 (Below w.heap.size w w'))
  case atStart => exact ⟨(0), (([] : List (S70))), (.slice none 0 0), (by first | rfl | (simp; done) | (simp [*]; done)), H', ⟨Nat.le_refl _⟩, ⟨by first | exact Kd.R_nil _ _ _ _ _ | exact Kd.N_nil _ _ _ _ _ | exact Kd.V_nil _ _ _ _ _ | exact Kd.Q_nil _ _ _ _ _ | exact Kd.S_nil _ _ _ _ _⟩, ⟨by (with_reducible repeat (first | refine kN ?_ _ | refine kD ?_ | refine kA ?_ _)); refine blk_far ?_ NB108_111.out _; (with_reducible repeat (first | refine kN ?_ _ | refine kD ?_ | refine kA ?_ _)); refine blk_far ?_ NB108_111.out _; (with_reducible repeat (first | refine kN ?_ _ | refine kD ?_ | refine kA ?_ _)); exact BK108.out⟩, ⟨by (with_reducible repeat (first | refine kN ?_ _ | refine kD ?_ | refine kA ?_ _)); refine blk_far ?_ NB109_111.out _; (with_reducible repeat (first | refine kN ?_ _ | refine kD ?_ | refine kA ?_ _)); refine blk_far ?_ NB109_111.out _; (with_reducible repeat (first | refine kN ?_ _ | refine kD ?_ | refine kA ?_ _)); exact BK109.out⟩, ⟨by (with_reducible repeat (first | refine kN ?_ _ | refine kD ?_ | refine kA ?_ _)); refine blk_far ?_ NB110_111.out _; (with_reducible repeat (first | refine kN ?_ _ | refine kD ?_ | refine kA ?_ _)); refine blk_far ?_ NB110_111.out _; (with_reducible repeat (first | refine kN ?_ _ | refine kD ?_ | refine kA ?_ _)); exact BK110.out⟩, ⟨by (with_reducible repeat (first | refine kN ?_ _ | refine kD ?_ | refine kA ?_ _)); refine blk_put (cs := #[.int .i64 (wrap64 (a0_0 + (wrap64 (a2 * a1_0)))), .slice none 0 0]) ?_ 1 _ rfl; (with_reducible repeat (first | refine kN ?_ _ | refine kD ?_ | refine kA ?_ _)); refine blk_put (cs := #[.int .i64 0, .slice none 0 0]) ?_ 0 _ rfl; (with_reducible repeat (first | refine kN ?_ _ | refine kD ?_ | refine kA ?_ _)); exact BK111.out⟩, ⟨by repeat (first | (with_reducible first | exact HB.out | apply bA | apply bN | apply bD | refine bS ?_ GE108.out | refine bS ?_ GE109.out | refine bS ?_ GE110.out | refine bS ?_ GE111.out) | exact HB.out)⟩⟩
  case round =>
    clear H'
    try clear c1
    try clear p2
    try clear c4
    try clear p6
    try clear c7
    try clear c8
    try clear c10
    try clear c13
    try clear c14
    try clear c15
    try clear z11
    try clear z16
    try clear z17
    try clear z9
    try clear z11
    try clear z16
    try clear z17
    try clear z9
    obtain ⟨x26_1, x112001_1, u112001, rfl, HA, HK1, HO_112001, BK108, BK109, BK110, BK111, HB⟩ := hrel
    cases gk with
    | zero => exact absurd HA.out (by simp [impl_mix.l0])
    | succ k1 =>
      have H := HA.out
      clear HA
      simp only [impl_mix.l0] at H
      by_cases c18 : x26_1 < (l0_1.length : Int)
      · rw [if_pos c18] at H
        have c18b0 : decide (x26_1 < (l0_1.length : Int)) = true := decide_eq_true c18
        clear c18
        by_cases c19 : 0 ≤ x26_1
        · rw [if_pos c19] at H
          have c19b0 : decide (0 ≤ x26_1) = true := decide_eq_true c19
          clear c19
          by_cases c20 : x26_1 < (l0_1.length : Int)
          · rw [if_pos c20] at H
            have c20b0 : decide (x26_1 < (l0_1.length : Int)) = true := decide_eq_true c20
            clear c20
            obtain ⟨t114, A21, H⟩ := bindA H
            by_cases c22 : (wrap64 (((rd_T70 l0_1 x26_1).f1) + (wrap64 (a2 * t114)))) = 0
            · rw [if_pos c22] at H
              have c22b0 : ((wrap64 (((rd_T70 l0_1 x26_1).f1) + (wrap64 (a2 * t114)))) == 0) = true := beq_iff_eq.mpr c22
              have c22b1 : ((wrap64 (((rd_T70 l0_1 x26_1).f1) + (wrap64 (a2 * t114)))) != 0) = false := bne_eq_false_iff_eq.mpr c22
              clear c22
              have H' := mk0 H
              clear H
              have p112 : 0 ≤ (x26_1 : Int) := of_decide_eq_true (by first | (with_reducible assumption) | assumption)
              have q112 : x26_1 < (l0_1.length : Int) := of_decide_eq_true (by first | (with_reducible assumption) | assumption)
              obtain ⟨ad112, e112, hx112_0, hx112_1⟩ := at_T70 HR0_1.out x26_1 p112 q112
              cases e112
              replace hx112_0 := hbc HB.out hx112_0
              replace hx112_1 := hbc HB.out hx112_1
              replace p112 := eq_true p112
              replace q112 := eq_true q112
              try go_wp2_with (first | ((with_reducible refine gate_dst (N := 10) rfl ?_); refine box_event ?hg (N := 10) ?hd (cs := #[.string (⟨#[]⟩ : ByteArray), .int .i64 0]) (t := 70) ?hr ?_; (case hd => rfl); (case hg => rfl); (case hr => first | (go_simp; done) | (go_simp; rfl)); intro gb113 hg w23 hbox hb; have q_ := qB (by repeat (first | (with_reducible first | exact HB.out | apply bA | apply bN | apply bD | refine bS ?_ GE108.out | refine bS ?_ GE109.out | refine bS ?_ GE110.out | refine bS ?_ GE111.out) | exact HB.out)) hb; have n0_ := mk0 (Kd.R_below (Kd.R_elderB (by (with_reducible repeat (first | apply Kd.R_alloc | apply Kd.R_drewN | apply Kd.R_drew)); exact HO_112001.out) gb113 (Nat.le_of_eq hg.symm)) hb); have n1_ := mk0 (blk_below (by (with_reducible repeat (first | refine kN ?_ _ | refine kD ?_ | refine kA ?_ _)); exact BK108.out) hb); have n2_ := mk0 (blk_below (by (with_reducible repeat (first | refine kN ?_ _ | refine kD ?_ | refine kA ?_ _)); exact BK109.out) hb); have n3_ := mk0 (blk_below (by (with_reducible repeat (first | refine kN ?_ _ | refine kD ?_ | refine kA ?_ _)); exact BK110.out) hb); have n4_ := mk0 (blk_below (by (with_reducible repeat (first | refine kN ?_ _ | refine kD ?_ | refine kA ?_ _)); exact BK111.out) hb); have n5_ := mk0 (below_step q_ hb); have n6_ := mk0 (hbox); have n7_ := mk0 (below_size2 q_ hg); have n8_ := n7_; have n9_ := mk0 ((by rw [hg]; exact Nat.ne_of_lt (blk_lt (by (with_reducible repeat (first | refine kN ?_ _ | refine kD ?_ | refine kA ?_ _)); exact BK108.out)) : gb108 ≠ gb113)); have n10_ := mk0 ((by rw [hg]; exact Nat.ne_of_gt (blk_lt (by (with_reducible repeat (first | refine kN ?_ _ | refine kD ?_ | refine kA ?_ _)); exact BK108.out)) : gb113 ≠ gb108)); have n11_ := mk0 ((by rw [hg]; exact Nat.ne_of_lt (blk_lt (by (with_reducible repeat (first | refine kN ?_ _ | refine kD ?_ | refine kA ?_ _)); exact BK109.out)) : gb109 ≠ gb113)); have n12_ := mk0 ((by rw [hg]; exact Nat.ne_of_gt (blk_lt (by (with_reducible repeat (first | refine kN ?_ _ | refine kD ?_ | refine kA ?_ _)); exact BK109.out)) : gb113 ≠ gb109)); have n13_ := mk0 ((by rw [hg]; exact Nat.ne_of_lt (blk_lt (by (with_reducible repeat (first | refine kN ?_ _ | refine kD ?_ | refine kA ?_ _)); exact BK110.out)) : gb110 ≠ gb113)); have n14_ := mk0 ((by rw [hg]; exact Nat.ne_of_gt (blk_lt (by (with_reducible repeat (first | refine kN ?_ _ | refine kD ?_ | refine kA ?_ _)); exact BK110.out)) : gb113 ≠ gb110)); have n15_ := mk0 ((by rw [hg]; exact Nat.ne_of_lt (blk_lt (by (with_reducible repeat (first | refine kN ?_ _ | refine kD ?_ | refine kA ?_ _)); exact BK111.out)) : gb111 ≠ gb113)); have n16_ := mk0 ((by rw [hg]; exact Nat.ne_of_gt (blk_lt (by (with_reducible repeat (first | refine kN ?_ _ | refine kD ?_ | refine kA ?_ _)); exact BK111.out)) : gb113 ≠ gb111)); clear HO_112001; clear BK108; clear BK109; clear BK110; clear BK111; clear HB; have HO_112001 := n0_; have BK108 := n1_; have BK109 := n2_; have BK110 := n3_; have BK111 := n4_; have HB := n5_; have BK113 := n6_; have GW113 := n7_; have GE113 := n8_; have NB108_113 := n9_; have NB113_108 := n10_; have NB109_113 := n11_; have NB113_109 := n12_; have NB110_113 := n13_; have NB113_110 := n14_; have NB111_113 := n15_; have NB113_111 := n16_; clear q_ n0_ n1_ n2_ n3_ n4_ n5_ n6_ n7_ n8_ n9_ n10_ n11_ n12_ n13_ n14_ n15_ n16_; clear hb hbox hg; have hnb24 := NB113_108.out; have hnc24 := NB108_113.out; have hnb25 := NB113_109.out; have hnc25 := NB109_113.out; have hnb26 := NB113_110.out; have hnc26 := NB110_113.out; have hnb27 := NB113_111.out; have hnc27 := NB111_113.out; have z28 := bc2 BK113.out))
              have n0_ : Aside0 (Kd.R k70 70 ((w23.setCell ⟨gb113, 0, none⟩ (.string ((rd_T70 l0_1 x26_1).f0))).setCell ⟨gb113, 1, none⟩ (.int .i64 ((rd_T70 l0_1 x26_1).f1))) w.heap.size (fun k_ => k_ ≠ gb113) u112001 x112001_1) := ⟨by (with_reducible repeat (first | apply Kd.R_alloc | apply Kd.R_drewN | apply Kd.R_drew)); exact Kd.R_mono (Kd.R_far (p := ⟨gb113, 1, none⟩) (Kd.R_far (p := ⟨gb113, 0, none⟩) (Kd.R_mono HO_112001.out (fun k_ hk => (⟨hk, hk.2⟩ : _ ∧ k_ ≠ gb113))) (fun _ hk => hk.2) (.string ((rd_T70 l0_1 x26_1).f0))) (fun _ hk => hk.2) (.int .i64 ((rd_T70 l0_1 x26_1).f1))) (fun _ hk => hk.1.2)⟩
              have n1_ : Aside0 (((w23.setCell ⟨gb113, 0, none⟩ (.string ((rd_T70 l0_1 x26_1).f0))).setCell ⟨gb113, 1, none⟩ (.int .i64 ((rd_T70 l0_1 x26_1).f1))).heap[gb108]? = some (.cells #[.int .i64 a0_0, .slice (some ad112) l0_1.length c0_1] 28 (0, 0))) := ⟨by (with_reducible repeat (first | refine kN ?_ _ | refine kD ?_ | refine kA ?_ _)); refine blk_far ?_ NB108_113.out _; (with_reducible repeat (first | refine kN ?_ _ | refine kD ?_ | refine kA ?_ _)); refine blk_far ?_ NB108_113.out _; (with_reducible repeat (first | refine kN ?_ _ | refine kD ?_ | refine kA ?_ _)); exact BK108.out⟩
              have n2_ : Aside0 (((w23.setCell ⟨gb113, 0, none⟩ (.string ((rd_T70 l0_1 x26_1).f0))).setCell ⟨gb113, 1, none⟩ (.int .i64 ((rd_T70 l0_1 x26_1).f1))).heap[gb109]? = some (.cells #[.int .i64 a1_0, .slice A1_1 l1_1.length c1_1] 28 (0, 0))) := ⟨by (with_reducible repeat (first | refine kN ?_ _ | refine kD ?_ | refine kA ?_ _)); refine blk_far ?_ NB109_113.out _; (with_reducible repeat (first | refine kN ?_ _ | refine kD ?_ | refine kA ?_ _)); refine blk_far ?_ NB109_113.out _; (with_reducible repeat (first | refine kN ?_ _ | refine kD ?_ | refine kA ?_ _)); exact BK109.out⟩
              have n3_ : Aside0 (((w23.setCell ⟨gb113, 0, none⟩ (.string ((rd_T70 l0_1 x26_1).f0))).setCell ⟨gb113, 1, none⟩ (.int .i64 ((rd_T70 l0_1 x26_1).f1))).heap[gb110]? = some (.cells #[.int .i64 0, .slice none 0 0] 28 (0, 0))) := ⟨by (with_reducible repeat (first | refine kN ?_ _ | refine kD ?_ | refine kA ?_ _)); refine blk_far ?_ NB110_113.out _; (with_reducible repeat (first | refine kN ?_ _ | refine kD ?_ | refine kA ?_ _)); refine blk_far ?_ NB110_113.out _; (with_reducible repeat (first | refine kN ?_ _ | refine kD ?_ | refine kA ?_ _)); exact BK110.out⟩
              have n4_ : Aside0 (((w23.setCell ⟨gb113, 0, none⟩ (.string ((rd_T70 l0_1 x26_1).f0))).setCell ⟨gb113, 1, none⟩ (.int .i64 ((rd_T70 l0_1 x26_1).f1))).heap[gb111]? = some (.cells #[.int .i64 (wrap64 (a0_0 + (wrap64 (a2 * a1_0)))), u112001] 28 (0, 0))) := ⟨by (with_reducible repeat (first | refine kN ?_ _ | refine kD ?_ | refine kA ?_ _)); refine blk_far ?_ NB111_113.out _; (with_reducible repeat (first | refine kN ?_ _ | refine kD ?_ | refine kA ?_ _)); refine blk_far ?_ NB111_113.out _; (with_reducible repeat (first | refine kN ?_ _ | refine kD ?_ | refine kA ?_ _)); exact BK111.out⟩
              have n5_ : Aside0 (((w23.setCell ⟨gb113, 0, none⟩ (.string ((rd_T70 l0_1 x26_1).f0))).setCell ⟨gb113, 1, none⟩ (.int .i64 ((rd_T70 l0_1 x26_1).f1))).heap[gb113]? = some (.cells #[.string ((rd_T70 l0_1 x26_1).f0), .int .i64 ((rd_T70 l0_1 x26_1).f1)] 70 (0, 0))) := ⟨by (with_reducible repeat (first | refine kN ?_ _ | refine kD ?_ | refine kA ?_ _)); refine blk_put (cs := #[.string ((rd_T70 l0_1 x26_1).f0), .int .i64 0]) ?_ 1 _ rfl; (with_reducible repeat (first | refine kN ?_ _ | refine kD ?_ | refine kA ?_ _)); refine blk_put (cs := #[.string (⟨#[]⟩ : ByteArray), .int .i64 0]) ?_ 0 _ rfl; (with_reducible repeat (first | refine kN ?_ _ | refine kD ?_ | refine kA ?_ _)); exact BK113.out⟩
              have n6_ : Aside0 (Below w.heap.size w ((w23.setCell ⟨gb113, 0, none⟩ (.string ((rd_T70 l0_1 x26_1).f0))).setCell ⟨gb113, 1, none⟩ (.int .i64 ((rd_T70 l0_1 x26_1).f1)))) := ⟨by repeat (first | (with_reducible first | exact HB.out | apply bA | apply bN | apply bD | refine bS ?_ GE108.out | refine bS ?_ GE109.out | refine bS ?_ GE110.out | refine bS ?_ GE111.out | refine bS ?_ GE113.out) | exact HB.out)⟩
              (try clear HO_112001)
              (try clear BK108)
              (try clear BK109)
              (try clear BK110)
              (try clear BK111)
              (try clear BK113)
              (try clear HB)
              generalize ((w23.setCell ⟨gb113, 0, none⟩ (.string ((rd_T70 l0_1 x26_1).f0))).setCell ⟨gb113, 1, none⟩ (.int .i64 ((rd_T70 l0_1 x26_1).f1))) = w29 at n0_ n1_ n2_ n3_ n4_ n5_ n6_ ⊢
              have HO_112001 := n0_
              have BK108 := n1_
              have BK109 := n2_
              have BK110 := n3_
              have BK111 := n4_
              have BK113 := n5_
              have HB := n6_
              clear n0_ n1_ n2_ n3_ n4_ n5_ n6_
              have n0_ := mk0 (Kd.R_drew HO_112001.out)
              have n1_ := mk0 (kD BK108.out)
              have n2_ := mk0 (kD BK109.out)
              have n3_ := mk0 (kD BK110.out)
              have n4_ := mk0 (kD BK111.out)
              have n5_ := mk0 (kD BK113.out)
              have n6_ := mk0 (bD HB.out)
              clear HO_112001
              clear BK108
              clear BK109
              clear BK110
              clear BK111
              clear BK113
              clear HB
              have HO_112001 := n0_
              have BK108 := n1_
              have BK109 := n2_
              have BK110 := n3_
              have BK111 := n4_
              have BK113 := n5_
              have HB := n6_
              clear n0_ n1_ n2_ n3_ n4_ n5_ n6_
              refine start_ (n := 10) (S := fun w' => w'.cell? ⟨gb113, 0, none⟩ = some (.string ((rd_T70 l0_1 x26_1).f0)) ∧ w'.cell? ⟨gb113, 1, none⟩ = some (.int .i64 ((rd_T70 l0_1 x26_1).f1)) ∧ w'.cell? ⟨gb109, 0, none⟩ = some (.int .i64 a1_0) ∧ w'.cell? ⟨gb109, 1, none⟩ = some (.slice A1_1 l1_1.length c1_1)) (ds := []) #[false, false, false, false, false, false, false, false, false, false] (by kernel_rfl) rfl rfl ⟨(blk_cell BK113.out 0).trans rfl, (blk_cell BK113.out 1).trans rfl, (blk_cell BK109.out 0).trans rfl, (blk_cell BK109.out 1).trans rfl⟩ (fun hHeld => ?_); refine with_tabW impl_mix.tab5 impl_mix.bits5 (fun HT_ HW_ => ?_)
              generalize w29.drew = w30 at HO_112001 BK108 BK109 BK110 BK111 BK113 HB hHeld ⊢
              refine pure_ (i := 0) (N := some 30) (v := ?_) (a' := ?_) #[true, false, false, false, false, false, false, false, false, false] rfl rfl (any_of HT_.out (by kernel_rfl)) (fun _ _ _ h => h) (Or.inl ⟨by rfl, ?_⟩) ?_ ?_
              rotate_left
              · intro w'
                go_simp
                with_reducible rfl
              rotate_left
              · simp only [Act.put, List.setIfInBounds_toArray, List.set_cons_zero, List.set_cons_succ, i64_w, i32_w]
                rfl
              refine pure_ (i := 2) (N := some 32) (v := ?_) (a' := ?_) #[true, false, true, false, false, false, false, false, false, false] rfl rfl (any_of HT_.out (by kernel_rfl)) (fun _ _ _ h => h) (Or.inl ⟨by rfl, ?_⟩) ?_ ?_
              rotate_left
              · intro w'
                go_simp
                with_reducible rfl
              rotate_left
              · simp only [Act.put, List.setIfInBounds_toArray, List.set_cons_zero, List.set_cons_succ, i64_w, i32_w]
                rfl
              refine pure_ (i := 4) (N := some 34) (v := ?_) (a' := ?_) #[true, false, true, false, true, false, false, false, false, false] rfl rfl (any_of HT_.out (by kernel_rfl)) (fun _ _ _ h => h) (Or.inl ⟨by rfl, ?_⟩) ?_ ?_
              rotate_left
              · intro w'
                go_simp
                with_reducible rfl
              rotate_left
              · simp only [Act.put, List.setIfInBounds_toArray, List.set_cons_zero, List.set_cons_succ, i64_w, i32_w]
                rfl
              refine take_ (i := 1) (N := some 31) (v := ?_) (a' := ?_) #[true, true, true, false, true, false, false, false, false, false] rfl rfl (take_ofW HT_.out HW_.out (by kernel_rfl)) (fun _ _ _ h => h) (Or.inl ⟨by rfl, ?_⟩) hHeld ?_ ?_
              rotate_left
              · rintro w' ⟨s0, s1, s2, s3⟩
                go_simp
                with_reducible rfl
              rotate_left
              · simp only [Act.put, List.setIfInBounds_toArray, List.set_cons_zero, List.set_cons_succ, i64_w, i32_w]
                rfl
              refine take_ (i := 3) (N := some 33) (v := ?_) (a' := ?_) #[true, true, true, true, true, false, false, false, false, false] rfl rfl (take_ofW HT_.out HW_.out (by kernel_rfl)) (fun _ _ _ h => h) (Or.inl ⟨by rfl, ?_⟩) hHeld ?_ ?_
              rotate_left
              · rintro w' ⟨s0, s1, s2, s3⟩
                go_simp
                with_reducible rfl
              rotate_left
              · simp only [Act.put, List.setIfInBounds_toArray, List.set_cons_zero, List.set_cons_succ, i64_w, i32_w]
                rfl
              refine take_ (i := 5) (N := some 35) (v := ?_) (a' := ?_) #[true, true, true, true, true, true, false, false, false, false] rfl rfl (take_ofW HT_.out HW_.out (by kernel_rfl)) (fun _ _ _ h => h) (Or.inl ⟨by rfl, ?_⟩) hHeld ?_ ?_
              rotate_left
              · rintro w' ⟨s0, s1, s2, s3⟩
                go_simp
                with_reducible rfl
              rotate_left
              · simp only [Act.put, List.setIfInBounds_toArray, List.set_cons_zero, List.set_cons_succ, i64_w, i32_w]
                rfl
              refine one_ (i := 6) (N := some 36) #[true, true, true, true, true, true, true, false, false, false] rfl rfl (one_of HT_.out (by kernel_rfl)) (by decide) (fun K hK => ?_)
              refine goes_ Try.func21 (by kernel_rfl) rfl #[.agg #[.int .i64 a1_0, .slice A1_1 l1_1.length c1_1], .string ((rd_T70 l0_1 x26_1).f0)] (by rfl) rfl rfl (by (try simp only [List.map_toArray, List.map_cons, List.map_nil]); first | done | rfl) ?_
              with_reducible refine (impl_CoefOf.calls k1 a1_0 _ _ l1_1 ((rd_T70 l0_1 x26_1).f0) t114 _ ?side1 ?side2 A21.out).mono ?_
              (case side1 => repeat (first | exact (Kd.C_below HR1_1.out HB.out) | (with_reducible refine cA ?_ _) | (with_reducible refine cN ?_ _) | (with_reducible refine cD ?_)))
              (case side2 => exact HC1_1.out)
              rintro e w31 ⟨rfl, hb⟩
              refine ⟨_, rfl, ?_⟩
              have n0_ := mk0 (Kd.R_below (by (with_reducible repeat (first | apply Kd.R_alloc | apply Kd.R_drewN | apply Kd.R_drew)); exact HO_112001.out) hb)
              have n1_ := mk0 (blk_below (by (with_reducible repeat (first | refine kN ?_ _ | refine kD ?_ | refine kA ?_ _)); exact BK108.out) hb)
              have n2_ := mk0 (blk_below (by (with_reducible repeat (first | refine kN ?_ _ | refine kD ?_ | refine kA ?_ _)); exact BK109.out) hb)
              have n3_ := mk0 (blk_below (by (with_reducible repeat (first | refine kN ?_ _ | refine kD ?_ | refine kA ?_ _)); exact BK110.out) hb)
              have n4_ := mk0 (blk_below (by (with_reducible repeat (first | refine kN ?_ _ | refine kD ?_ | refine kA ?_ _)); exact BK111.out) hb)
              have n5_ := mk0 (blk_below (by (with_reducible repeat (first | refine kN ?_ _ | refine kD ?_ | refine kA ?_ _)); exact BK113.out) hb)
              have n6_ := mk0 (below_step (by repeat (first | (with_reducible first | exact HB.out | apply bA | apply bN | apply bD | refine bS ?_ GE108.out | refine bS ?_ GE109.out | refine bS ?_ GE110.out | refine bS ?_ GE111.out | refine bS ?_ GE113.out) | exact HB.out)) hb)
              clear HO_112001
              clear BK108
              clear BK109
              clear BK110
              clear BK111
              clear BK113
              clear HB
              have HO_112001 := n0_
              have BK108 := n1_
              have BK109 := n2_
              have BK110 := n3_
              have BK111 := n4_
              have BK113 := n5_
              have HB := n6_
              clear n0_ n1_ n2_ n3_ n4_ n5_ n6_
              (try clear hb)
              (try clear hb2)
              (try clear hk)
              (try clear hi)
              refine hK.out _ _ ⟨(blk_cell BK113.out 0).trans rfl, (blk_cell BK113.out 1).trans rfl, (blk_cell BK109.out 0).trans rfl, (blk_cell BK109.out 1).trans rfl⟩ (fun hHeld => ?_)
              clear hK K
              refine norm_ (a' := ?_) ?_ ?_
              rotate_left
              · show Act.put _ (some 36) _ = _
                simp only [Act.put, List.setIfInBounds_toArray, List.set_cons_zero, List.set_cons_succ, i64_w, i32_w]
                rfl
              refine pure_ (i := 7) (N := some 37) (v := ?_) (a' := ?_) #[true, true, true, true, true, true, true, true, false, false] rfl rfl (any_of HT_.out (by kernel_rfl)) (fun _ _ _ h => h) (Or.inl ⟨by rfl, ?_⟩) ?_ ?_
              rotate_left
              · intro w'
                go_simp
                with_reducible rfl
              rotate_left
              · simp only [Act.put, List.setIfInBounds_toArray, List.set_cons_zero, List.set_cons_succ, i64_w, i32_w]
                rfl
              refine pure_ (i := 8) (N := some 38) (v := ?_) (a' := ?_) #[true, true, true, true, true, true, true, true, true, false] rfl rfl (any_of HT_.out (by kernel_rfl)) (fun _ _ _ h => h) (Or.inl ⟨by rfl, ?_⟩) ?_ ?_
              rotate_left
              · intro w'
                go_simp
                with_reducible rfl
              rotate_left
              · simp only [Act.put, List.setIfInBounds_toArray, List.set_cons_zero, List.set_cons_succ, i64_w, i32_w]
                rfl
              refine pure_ (i := 9) (N := some 11) (v := ?_) (a' := ?_) #[true, true, true, true, true, true, true, true, true, true] rfl rfl (any_of HT_.out (by kernel_rfl)) (fun _ _ _ h => h) (Or.inl ⟨by rfl, ?_⟩) ?_ ?_
              rotate_left
              · intro w'
                go_simp
                with_reducible rfl
              rotate_left
              · simp only [Act.put, List.setIfInBounds_toArray, List.set_cons_zero, List.set_cons_succ, i64_w, i32_w]
                rfl
              refine done_ (done_of HT_.out (by kernel_rfl)) ?_
              try go_wp2
              go_roundg k1
              case measure => have := HK1.out; omega
              case rel => exact ⟨(wrap64 (x26_1 + 1)), (x112001_1), (u112001), (by first | rfl | (simp; done) | (simp [*]; done)), H', ⟨by have := HK1.out; omega⟩, ⟨by (with_reducible repeat (first | apply Kd.R_alloc | apply Kd.R_drewN | apply Kd.R_drew)); exact Kd.R_mono HO_112001.out (fun _ hk => trivial)⟩, ⟨by (with_reducible repeat (first | refine kN ?_ _ | refine kD ?_ | refine kA ?_ _)); exact BK108.out⟩, ⟨by (with_reducible repeat (first | refine kN ?_ _ | refine kD ?_ | refine kA ?_ _)); exact BK109.out⟩, ⟨by (with_reducible repeat (first | refine kN ?_ _ | refine kD ?_ | refine kA ?_ _)); exact BK110.out⟩, ⟨by (with_reducible repeat (first | refine kN ?_ _ | refine kD ?_ | refine kA ?_ _)); exact BK111.out⟩, ⟨by repeat (first | (with_reducible first | exact HB.out | apply bA | apply bN | apply bD | refine bS ?_ GE108.out | refine bS ?_ GE109.out | refine bS ?_ GE110.out | refine bS ?_ GE111.out | refine bS ?_ GE113.out) | exact HB.out)⟩⟩
            · rw [if_neg c22] at H
              have c22b0 : ((wrap64 (((rd_T70 l0_1 x26_1).f1) + (wrap64 (a2 * t114)))) == 0) = false := beq_eq_false_iff_ne.mpr c22
              have c22b1 : ((wrap64 (((rd_T70 l0_1 x26_1).f1) + (wrap64 (a2 * t114)))) != 0) = true := bne_iff_ne.mpr c22
              by_cases c32 : x112001_1.length < 5864062014805
              · rw [if_pos c32] at H
                have LMc32 := mk0 c32
                clear c32
                obtain ⟨y115, hy115⟩ : ∃ y_ : List (S70), y_ = (x112001_1 ++ [(⟨(rd_T70 l0_1 x26_1).f0, wrap64 (((rd_T70 l0_1 x26_1).f1) + (wrap64 (a2 * t114)))⟩ : S70)]) := ⟨_, rfl⟩
                replace H : (impl_mix.l0 k1 a2 l0_1 (l0_1.length : Int) (wrap64 (x26_1 + 1)) a0_0 l0_1 a1_0 l1_1 (wrap64 (a0_0 + (wrap64 (a2 * a1_0)))) y115) = some (r1, r2, r3) := by first | (rw [hy115]; with_reducible exact H) | (have H2_ := (Option.bind_some _ _).symm.trans H; rw [hy115]; with_reducible exact H2_) | (have H2_ := (Option.bind_some _ _).symm.trans H; with_reducible exact H2_) | with_reducible exact H | (rw [hy115]; exact H) | exact H
                have Ny115 := mk0 hy115
                clear hy115
                have H' := mk0 H
                clear H
                have p112 : 0 ≤ (x26_1 : Int) := of_decide_eq_true (by first | (with_reducible assumption) | assumption)
                have q112 : x26_1 < (l0_1.length : Int) := of_decide_eq_true (by first | (with_reducible assumption) | assumption)
                obtain ⟨ad112, e112, hx112_0, hx112_1⟩ := at_T70 HR0_1.out x26_1 p112 q112
                cases e112
                replace hx112_0 := hbc HB.out hx112_0
                replace hx112_1 := hbc HB.out hx112_1
                replace p112 := eq_true p112
                replace q112 := eq_true q112
                try go_wp2_with (first | ((with_reducible refine gate_dst (N := 10) rfl ?_); refine box_event ?hg (N := 10) ?hd (cs := #[.string (⟨#[]⟩ : ByteArray), .int .i64 0]) (t := 70) ?hr ?_; (case hd => rfl); (case hg => rfl); (case hr => first | (go_simp; done) | (go_simp; rfl)); intro gb113 hg w33 hbox hb; have q_ := qB (by repeat (first | (with_reducible first | exact HB.out | apply bA | apply bN | apply bD | refine bS ?_ GE108.out | refine bS ?_ GE109.out | refine bS ?_ GE110.out | refine bS ?_ GE111.out) | exact HB.out)) hb; have n0_ := mk0 (Kd.R_below (Kd.R_elderB (by (with_reducible repeat (first | apply Kd.R_alloc | apply Kd.R_drewN | apply Kd.R_drew)); exact HO_112001.out) gb113 (Nat.le_of_eq hg.symm)) hb); have n1_ := mk0 (blk_below (by (with_reducible repeat (first | refine kN ?_ _ | refine kD ?_ | refine kA ?_ _)); exact BK108.out) hb); have n2_ := mk0 (blk_below (by (with_reducible repeat (first | refine kN ?_ _ | refine kD ?_ | refine kA ?_ _)); exact BK109.out) hb); have n3_ := mk0 (blk_below (by (with_reducible repeat (first | refine kN ?_ _ | refine kD ?_ | refine kA ?_ _)); exact BK110.out) hb); have n4_ := mk0 (blk_below (by (with_reducible repeat (first | refine kN ?_ _ | refine kD ?_ | refine kA ?_ _)); exact BK111.out) hb); have n5_ := mk0 (below_step q_ hb); have n6_ := mk0 (hbox); have n7_ := mk0 (below_size2 q_ hg); have n8_ := n7_; have n9_ := mk0 ((by rw [hg]; exact Nat.ne_of_lt (blk_lt (by (with_reducible repeat (first | refine kN ?_ _ | refine kD ?_ | refine kA ?_ _)); exact BK108.out)) : gb108 ≠ gb113)); have n10_ := mk0 ((by rw [hg]; exact Nat.ne_of_gt (blk_lt (by (with_reducible repeat (first | refine kN ?_ _ | refine kD ?_ | refine kA ?_ _)); exact BK108.out)) : gb113 ≠ gb108)); have n11_ := mk0 ((by rw [hg]; exact Nat.ne_of_lt (blk_lt (by (with_reducible repeat (first | refine kN ?_ _ | refine kD ?_ | refine kA ?_ _)); exact BK109.out)) : gb109 ≠ gb113)); have n12_ := mk0 ((by rw [hg]; exact Nat.ne_of_gt (blk_lt (by (with_reducible repeat (first | refine kN ?_ _ | refine kD ?_ | refine kA ?_ _)); exact BK109.out)) : gb113 ≠ gb109)); have n13_ := mk0 ((by rw [hg]; exact Nat.ne_of_lt (blk_lt (by (with_reducible repeat (first | refine kN ?_ _ | refine kD ?_ | refine kA ?_ _)); exact BK110.out)) : gb110 ≠ gb113)); have n14_ := mk0 ((by rw [hg]; exact Nat.ne_of_gt (blk_lt (by (with_reducible repeat (first | refine kN ?_ _ | refine kD ?_ | refine kA ?_ _)); exact BK110.out)) : gb113 ≠ gb110)); have n15_ := mk0 ((by rw [hg]; exact Nat.ne_of_lt (blk_lt (by (with_reducible repeat (first | refine kN ?_ _ | refine kD ?_ | refine kA ?_ _)); exact BK111.out)) : gb111 ≠ gb113)); have n16_ := mk0 ((by rw [hg]; exact Nat.ne_of_gt (blk_lt (by (with_reducible repeat (first | refine kN ?_ _ | refine kD ?_ | refine kA ?_ _)); exact BK111.out)) : gb113 ≠ gb111)); clear HO_112001; clear BK108; clear BK109; clear BK110; clear BK111; clear HB; have HO_112001 := n0_; have BK108 := n1_; have BK109 := n2_; have BK110 := n3_; have BK111 := n4_; have HB := n5_; have BK113 := n6_; have GW113 := n7_; have GE113 := n8_; have NB108_113 := n9_; have NB113_108 := n10_; have NB109_113 := n11_; have NB113_109 := n12_; have NB110_113 := n13_; have NB113_110 := n14_; have NB111_113 := n15_; have NB113_111 := n16_; clear q_ n0_ n1_ n2_ n3_ n4_ n5_ n6_ n7_ n8_ n9_ n10_ n11_ n12_ n13_ n14_ n15_ n16_; clear hb hbox hg; have hnb34 := NB113_108.out; have hnc34 := NB108_113.out; have hnb35 := NB113_109.out; have hnc35 := NB109_113.out; have hnb36 := NB113_110.out; have hnc36 := NB110_113.out; have hnb37 := NB113_111.out; have hnc37 := NB111_113.out; have z38 := bc2 BK113.out))
                have n0_ : Aside0 (Kd.R k70 70 ((w33.setCell ⟨gb113, 0, none⟩ (.string ((rd_T70 l0_1 x26_1).f0))).setCell ⟨gb113, 1, none⟩ (.int .i64 ((rd_T70 l0_1 x26_1).f1))) w.heap.size (fun k_ => k_ ≠ gb113) u112001 x112001_1) := ⟨by (with_reducible repeat (first | apply Kd.R_alloc | apply Kd.R_drewN | apply Kd.R_drew)); exact Kd.R_mono (Kd.R_far (p := ⟨gb113, 1, none⟩) (Kd.R_far (p := ⟨gb113, 0, none⟩) (Kd.R_mono HO_112001.out (fun k_ hk => (⟨hk, hk.2⟩ : _ ∧ k_ ≠ gb113))) (fun _ hk => hk.2) (.string ((rd_T70 l0_1 x26_1).f0))) (fun _ hk => hk.2) (.int .i64 ((rd_T70 l0_1 x26_1).f1))) (fun _ hk => hk.1.2)⟩
                have n1_ : Aside0 (((w33.setCell ⟨gb113, 0, none⟩ (.string ((rd_T70 l0_1 x26_1).f0))).setCell ⟨gb113, 1, none⟩ (.int .i64 ((rd_T70 l0_1 x26_1).f1))).heap[gb108]? = some (.cells #[.int .i64 a0_0, .slice (some ad112) l0_1.length c0_1] 28 (0, 0))) := ⟨by (with_reducible repeat (first | refine kN ?_ _ | refine kD ?_ | refine kA ?_ _)); refine blk_far ?_ NB108_113.out _; (with_reducible repeat (first | refine kN ?_ _ | refine kD ?_ | refine kA ?_ _)); refine blk_far ?_ NB108_113.out _; (with_reducible repeat (first | refine kN ?_ _ | refine kD ?_ | refine kA ?_ _)); exact BK108.out⟩
                have n2_ : Aside0 (((w33.setCell ⟨gb113, 0, none⟩ (.string ((rd_T70 l0_1 x26_1).f0))).setCell ⟨gb113, 1, none⟩ (.int .i64 ((rd_T70 l0_1 x26_1).f1))).heap[gb109]? = some (.cells #[.int .i64 a1_0, .slice A1_1 l1_1.length c1_1] 28 (0, 0))) := ⟨by (with_reducible repeat (first | refine kN ?_ _ | refine kD ?_ | refine kA ?_ _)); refine blk_far ?_ NB109_113.out _; (with_reducible repeat (first | refine kN ?_ _ | refine kD ?_ | refine kA ?_ _)); refine blk_far ?_ NB109_113.out _; (with_reducible repeat (first | refine kN ?_ _ | refine kD ?_ | refine kA ?_ _)); exact BK109.out⟩
                have n3_ : Aside0 (((w33.setCell ⟨gb113, 0, none⟩ (.string ((rd_T70 l0_1 x26_1).f0))).setCell ⟨gb113, 1, none⟩ (.int .i64 ((rd_T70 l0_1 x26_1).f1))).heap[gb110]? = some (.cells #[.int .i64 0, .slice none 0 0] 28 (0, 0))) := ⟨by (with_reducible repeat (first | refine kN ?_ _ | refine kD ?_ | refine kA ?_ _)); refine blk_far ?_ NB110_113.out _; (with_reducible repeat (first | refine kN ?_ _ | refine kD ?_ | refine kA ?_ _)); refine blk_far ?_ NB110_113.out _; (with_reducible repeat (first | refine kN ?_ _ | refine kD ?_ | refine kA ?_ _)); exact BK110.out⟩
                have n4_ : Aside0 (((w33.setCell ⟨gb113, 0, none⟩ (.string ((rd_T70 l0_1 x26_1).f0))).setCell ⟨gb113, 1, none⟩ (.int .i64 ((rd_T70 l0_1 x26_1).f1))).heap[gb111]? = some (.cells #[.int .i64 (wrap64 (a0_0 + (wrap64 (a2 * a1_0)))), u112001] 28 (0, 0))) := ⟨by (with_reducible repeat (first | refine kN ?_ _ | refine kD ?_ | refine kA ?_ _)); refine blk_far ?_ NB111_113.out _; (with_reducible repeat (first | refine kN ?_ _ | refine kD ?_ | refine kA ?_ _)); refine blk_far ?_ NB111_113.out _; (with_reducible repeat (first | refine kN ?_ _ | refine kD ?_ | refine kA ?_ _)); exact BK111.out⟩
                have n5_ : Aside0 (((w33.setCell ⟨gb113, 0, none⟩ (.string ((rd_T70 l0_1 x26_1).f0))).setCell ⟨gb113, 1, none⟩ (.int .i64 ((rd_T70 l0_1 x26_1).f1))).heap[gb113]? = some (.cells #[.string ((rd_T70 l0_1 x26_1).f0), .int .i64 ((rd_T70 l0_1 x26_1).f1)] 70 (0, 0))) := ⟨by (with_reducible repeat (first | refine kN ?_ _ | refine kD ?_ | refine kA ?_ _)); refine blk_put (cs := #[.string ((rd_T70 l0_1 x26_1).f0), .int .i64 0]) ?_ 1 _ rfl; (with_reducible repeat (first | refine kN ?_ _ | refine kD ?_ | refine kA ?_ _)); refine blk_put (cs := #[.string (⟨#[]⟩ : ByteArray), .int .i64 0]) ?_ 0 _ rfl; (with_reducible repeat (first | refine kN ?_ _ | refine kD ?_ | refine kA ?_ _)); exact BK113.out⟩
                have n6_ : Aside0 (Below w.heap.size w ((w33.setCell ⟨gb113, 0, none⟩ (.string ((rd_T70 l0_1 x26_1).f0))).setCell ⟨gb113, 1, none⟩ (.int .i64 ((rd_T70 l0_1 x26_1).f1)))) := ⟨by repeat (first | (with_reducible first | exact HB.out | apply bA | apply bN | apply bD | refine bS ?_ GE108.out | refine bS ?_ GE109.out | refine bS ?_ GE110.out | refine bS ?_ GE111.out | refine bS ?_ GE113.out) | exact HB.out)⟩
                (try clear HO_112001)
                (try clear BK108)
                (try clear BK109)
                (try clear BK110)
                (try clear BK111)
                (try clear BK113)
                (try clear HB)
                generalize ((w33.setCell ⟨gb113, 0, none⟩ (.string ((rd_T70 l0_1 x26_1).f0))).setCell ⟨gb113, 1, none⟩ (.int .i64 ((rd_T70 l0_1 x26_1).f1))) = w39 at n0_ n1_ n2_ n3_ n4_ n5_ n6_ ⊢
                have HO_112001 := n0_
                have BK108 := n1_
                have BK109 := n2_
                have BK110 := n3_
                have BK111 := n4_
                have BK113 := n5_
                have HB := n6_
                clear n0_ n1_ n2_ n3_ n4_ n5_ n6_
                have n0_ := mk0 (Kd.R_drew HO_112001.out)
                have n1_ := mk0 (kD BK108.out)
                have n2_ := mk0 (kD BK109.out)
                have n3_ := mk0 (kD BK110.out)
                have n4_ := mk0 (kD BK111.out)
                have n5_ := mk0 (kD BK113.out)
                have n6_ := mk0 (bD HB.out)
                clear HO_112001
                clear BK108
                clear BK109
                clear BK110
                clear BK111
                clear BK113
                clear HB
                have HO_112001 := n0_
                have BK108 := n1_
                have BK109 := n2_
                have BK110 := n3_
                have BK111 := n4_
                have BK113 := n5_
                have HB := n6_
                clear n0_ n1_ n2_ n3_ n4_ n5_ n6_
                refine start_ (n := 10) (S := fun w' => w'.cell? ⟨gb113, 0, none⟩ = some (.string ((rd_T70 l0_1 x26_1).f0)) ∧ w'.cell? ⟨gb113, 1, none⟩ = some (.int .i64 ((rd_T70 l0_1 x26_1).f1)) ∧ w'.cell? ⟨gb109, 0, none⟩ = some (.int .i64 a1_0) ∧ w'.cell? ⟨gb109, 1, none⟩ = some (.slice A1_1 l1_1.length c1_1)) (ds := []) #[false, false, false, false, false, false, false, false, false, false] (by kernel_rfl) rfl rfl ⟨(blk_cell BK113.out 0).trans rfl, (blk_cell BK113.out 1).trans rfl, (blk_cell BK109.out 0).trans rfl, (blk_cell BK109.out 1).trans rfl⟩ (fun hHeld => ?_); refine with_tabW impl_mix.tab5 impl_mix.bits5 (fun HT_ HW_ => ?_)
                generalize w39.drew = w40 at HO_112001 BK108 BK109 BK110 BK111 BK113 HB hHeld ⊢
                refine pure_ (i := 0) (N := some 30) (v := ?_) (a' := ?_) #[true, false, false, false, false, false, false, false, false, false] rfl rfl (any_of HT_.out (by kernel_rfl)) (fun _ _ _ h => h) (Or.inl ⟨by rfl, ?_⟩) ?_ ?_
                rotate_left
                · intro w'
                  go_simp
                  with_reducible rfl
                rotate_left
                · simp only [Act.put, List.setIfInBounds_toArray, List.set_cons_zero, List.set_cons_succ, i64_w, i32_w]
                  rfl
                refine pure_ (i := 2) (N := some 32) (v := ?_) (a' := ?_) #[true, false, true, false, false, false, false, false, false, false] rfl rfl (any_of HT_.out (by kernel_rfl)) (fun _ _ _ h => h) (Or.inl ⟨by rfl, ?_⟩) ?_ ?_
                rotate_left
                · intro w'
                  go_simp
                  with_reducible rfl
                rotate_left
                · simp only [Act.put, List.setIfInBounds_toArray, List.set_cons_zero, List.set_cons_succ, i64_w, i32_w]
                  rfl
                refine pure_ (i := 4) (N := some 34) (v := ?_) (a' := ?_) #[true, false, true, false, true, false, false, false, false, false] rfl rfl (any_of HT_.out (by kernel_rfl)) (fun _ _ _ h => h) (Or.inl ⟨by rfl, ?_⟩) ?_ ?_
                rotate_left
                · intro w'
                  go_simp
                  with_reducible rfl
                rotate_left
                · simp only [Act.put, List.setIfInBounds_toArray, List.set_cons_zero, List.set_cons_succ, i64_w, i32_w]
                  rfl
                refine take_ (i := 1) (N := some 31) (v := ?_) (a' := ?_) #[true, true, true, false, true, false, false, false, false, false] rfl rfl (take_ofW HT_.out HW_.out (by kernel_rfl)) (fun _ _ _ h => h) (Or.inl ⟨by rfl, ?_⟩) hHeld ?_ ?_
                rotate_left
                · rintro w' ⟨s0, s1, s2, s3⟩
                  go_simp
                  with_reducible rfl
                rotate_left
                · simp only [Act.put, List.setIfInBounds_toArray, List.set_cons_zero, List.set_cons_succ, i64_w, i32_w]
                  rfl
                refine take_ (i := 3) (N := some 33) (v := ?_) (a' := ?_) #[true, true, true, true, true, false, false, false, false, false] rfl rfl (take_ofW HT_.out HW_.out (by kernel_rfl)) (fun _ _ _ h => h) (Or.inl ⟨by rfl, ?_⟩) hHeld ?_ ?_
                rotate_left
                · rintro w' ⟨s0, s1, s2, s3⟩
                  go_simp
                  with_reducible rfl
                rotate_left
                · simp only [Act.put, List.setIfInBounds_toArray, List.set_cons_zero, List.set_cons_succ, i64_w, i32_w]
                  rfl
                refine take_ (i := 5) (N := some 35) (v := ?_) (a' := ?_) #[true, true, true, true, true, true, false, false, false, false] rfl rfl (take_ofW HT_.out HW_.out (by kernel_rfl)) (fun _ _ _ h => h) (Or.inl ⟨by rfl, ?_⟩) hHeld ?_ ?_
                rotate_left
                · rintro w' ⟨s0, s1, s2, s3⟩
                  go_simp
                  with_reducible rfl
                rotate_left
                · simp only [Act.put, List.setIfInBounds_toArray, List.set_cons_zero, List.set_cons_succ, i64_w, i32_w]
                  rfl
                refine one_ (i := 6) (N := some 36) #[true, true, true, true, true, true, true, false, false, false] rfl rfl (one_of HT_.out (by kernel_rfl)) (by decide) (fun K hK => ?_)
                refine goes_ Try.func21 (by kernel_rfl) rfl #[.agg #[.int .i64 a1_0, .slice A1_1 l1_1.length c1_1], .string ((rd_T70 l0_1 x26_1).f0)] (by rfl) rfl rfl (by (try simp only [List.map_toArray, List.map_cons, List.map_nil]); first | done | rfl) ?_
                with_reducible refine (impl_CoefOf.calls k1 a1_0 _ _ l1_1 ((rd_T70 l0_1 x26_1).f0) t114 _ ?side1 ?side2 A21.out).mono ?_
                (case side1 => repeat (first | exact (Kd.C_below HR1_1.out HB.out) | (with_reducible refine cA ?_ _) | (with_reducible refine cN ?_ _) | (with_reducible refine cD ?_)))
                (case side2 => exact HC1_1.out)
                rintro e w41 ⟨rfl, hb⟩
                refine ⟨_, rfl, ?_⟩
                have n0_ := mk0 (Kd.R_below (by (with_reducible repeat (first | apply Kd.R_alloc | apply Kd.R_drewN | apply Kd.R_drew)); exact HO_112001.out) hb)
                have n1_ := mk0 (blk_below (by (with_reducible repeat (first | refine kN ?_ _ | refine kD ?_ | refine kA ?_ _)); exact BK108.out) hb)
                have n2_ := mk0 (blk_below (by (with_reducible repeat (first | refine kN ?_ _ | refine kD ?_ | refine kA ?_ _)); exact BK109.out) hb)
                have n3_ := mk0 (blk_below (by (with_reducible repeat (first | refine kN ?_ _ | refine kD ?_ | refine kA ?_ _)); exact BK110.out) hb)
                have n4_ := mk0 (blk_below (by (with_reducible repeat (first | refine kN ?_ _ | refine kD ?_ | refine kA ?_ _)); exact BK111.out) hb)
                have n5_ := mk0 (blk_below (by (with_reducible repeat (first | refine kN ?_ _ | refine kD ?_ | refine kA ?_ _)); exact BK113.out) hb)
                have n6_ := mk0 (below_step (by repeat (first | (with_reducible first | exact HB.out | apply bA | apply bN | apply bD | refine bS ?_ GE108.out | refine bS ?_ GE109.out | refine bS ?_ GE110.out | refine bS ?_ GE111.out | refine bS ?_ GE113.out) | exact HB.out)) hb)
                clear HO_112001
                clear BK108
                clear BK109
                clear BK110
                clear BK111
                clear BK113
                clear HB
                have HO_112001 := n0_
                have BK108 := n1_
                have BK109 := n2_
                have BK110 := n3_
                have BK111 := n4_
                have BK113 := n5_
                have HB := n6_
                clear n0_ n1_ n2_ n3_ n4_ n5_ n6_
                (try clear hb)
                (try clear hb2)
                (try clear hk)
                (try clear hi)
                refine hK.out _ _ ⟨(blk_cell BK113.out 0).trans rfl, (blk_cell BK113.out 1).trans rfl, (blk_cell BK109.out 0).trans rfl, (blk_cell BK109.out 1).trans rfl⟩ (fun hHeld => ?_)
                clear hK K
                refine norm_ (a' := ?_) ?_ ?_
                rotate_left
                · show Act.put _ (some 36) _ = _
                  simp only [Act.put, List.setIfInBounds_toArray, List.set_cons_zero, List.set_cons_succ, i64_w, i32_w]
                  rfl
                refine pure_ (i := 7) (N := some 37) (v := ?_) (a' := ?_) #[true, true, true, true, true, true, true, true, false, false] rfl rfl (any_of HT_.out (by kernel_rfl)) (fun _ _ _ h => h) (Or.inl ⟨by rfl, ?_⟩) ?_ ?_
                rotate_left
                · intro w'
                  go_simp
                  with_reducible rfl
                rotate_left
                · simp only [Act.put, List.setIfInBounds_toArray, List.set_cons_zero, List.set_cons_succ, i64_w, i32_w]
                  rfl
                refine pure_ (i := 8) (N := some 38) (v := ?_) (a' := ?_) #[true, true, true, true, true, true, true, true, true, false] rfl rfl (any_of HT_.out (by kernel_rfl)) (fun _ _ _ h => h) (Or.inl ⟨by rfl, ?_⟩) ?_ ?_
                rotate_left
                · intro w'
                  go_simp
                  with_reducible rfl
                rotate_left
                · simp only [Act.put, List.setIfInBounds_toArray, List.set_cons_zero, List.set_cons_succ, i64_w, i32_w]
                  rfl
                refine pure_ (i := 9) (N := some 11) (v := ?_) (a' := ?_) #[true, true, true, true, true, true, true, true, true, true] rfl rfl (any_of HT_.out (by kernel_rfl)) (fun _ _ _ h => h) (Or.inl ⟨by rfl, ?_⟩) ?_ ?_
                rotate_left
                · intro w'
                  go_simp
                  with_reducible rfl
                rotate_left
                · simp only [Act.put, List.setIfInBounds_toArray, List.set_cons_zero, List.set_cons_succ, i64_w, i32_w]
                  rfl
                refine done_ (done_of HT_.out (by kernel_rfl)) ?_
                have hnb42 := NB111_108.out
                have hnc42 := NB108_111.out
                have hnb43 := NB111_109.out
                have hnc43 := NB109_111.out
                have hnb44 := NB111_110.out
                have hnc44 := NB110_111.out
                have z45 := bc2 BK111.out
                have z46 := bc2 BK113.out
                try go_wp2_with (first | ((with_reducible refine gate_builtin (b := .append) (xs := #[.tmp 42, .tmp 47]) rfl ?_); at_builtin; refine Kd.R_append k70 (w0 := w) w.heap.size rfl (.tmp 42) (.tmp 47) 26 70 (.agg #[(.string ⟨#[]⟩), (.int .i64 0)]) 24 rfl Try.underlying26 info70 rfl (by decide) (by omega) u112001 x112001_1 (⟨(rd_T70 l0_1 x26_1).f0, wrap64 (((rd_T70 l0_1 x26_1).f1) + (wrap64 (a2 * t114)))⟩ : S70) [.string ((rd_T70 l0_1 x26_1).f0), .int .i64 (wrap64 (((rd_T70 l0_1 x26_1).f1) + (wrap64 (a2 * t114))))] (fun k_ => k_ ≠ gb113) (fun _ => False) rfl rfl ?aP (fun _ hk => hk.elim) ?aF ?aO ?aB ?aS ?aL ?_; (case aP => exact k70_mkM _ _ _ (⟨(rd_T70 l0_1 x26_1).f0, wrap64 (((rd_T70 l0_1 x26_1).f1) + (wrap64 (a2 * t114)))⟩ : S70)); (case aB => exact (by repeat (first | (with_reducible first | exact HB.out | apply bA | apply bN | apply bD | refine bS ?_ GE108.out | refine bS ?_ GE109.out | refine bS ?_ GE110.out | refine bS ?_ GE111.out | refine bS ?_ GE113.out) | exact HB.out))); (case aF => exact (fun k_ hk => Kd.freshB (g := gb113) (o := .cells #[.string ((rd_T70 l0_1 x26_1).f0), .int .i64 ((rd_T70 l0_1 x26_1).f1)] 70 (0, 0)) (by (with_reducible repeat (first | refine kN ?_ _ | refine kD ?_ | refine kA ?_ _)); exact BK113.out) k_ hk)); (case aO => exact (by (with_reducible repeat (first | apply Kd.R_alloc | apply Kd.R_drewN | apply Kd.R_drew)); exact HO_112001.out)); (case aS => exact (below_size (by repeat (first | (with_reducible first | exact HB.out | apply bA | apply bN | apply bD | refine bS ?_ GE108.out | refine bS ?_ GE109.out | refine bS ?_ GE110.out | refine bS ?_ GE111.out | refine bS ?_ GE113.out) | exact HB.out)))); (case aL => have := LMc32.out; omega); intro v116 w47 ho hb hg hat; rw [← Ny115.out] at ho; have n0_ := mk0 (blk_grown (by (with_reducible repeat (first | refine kN ?_ _ | refine kD ?_ | refine kA ?_ _)); exact BK108.out) hg (Kd.R_ne HO_112001.out BK108.out (by decide))); have n1_ := mk0 (blk_grown (by (with_reducible repeat (first | refine kN ?_ _ | refine kD ?_ | refine kA ?_ _)); exact BK109.out) hg (Kd.R_ne HO_112001.out BK109.out (by decide))); have n2_ := mk0 (blk_grown (by (with_reducible repeat (first | refine kN ?_ _ | refine kD ?_ | refine kA ?_ _)); exact BK110.out) hg (Kd.R_ne HO_112001.out BK110.out (by decide))); have n3_ := mk0 (blk_grown (by (with_reducible repeat (first | refine kN ?_ _ | refine kD ?_ | refine kA ?_ _)); exact BK111.out) hg (Kd.R_ne HO_112001.out BK111.out (by decide))); have n4_ := mk0 (blk_grown (by (with_reducible repeat (first | refine kN ?_ _ | refine kD ?_ | refine kA ?_ _)); exact BK113.out) hg (Kd.R_away HO_112001.out (fun _ hk => hk))); have n5_ := mk0 (hb); have n6_ := mk0 (ho); clear BK108; clear BK109; clear BK110; clear BK111; clear BK113; clear HB; clear HO_112001; have BK108 := n0_; have BK109 := n1_; have BK110 := n2_; have BK111 := n3_; have BK113 := n4_; have HB := n5_; have HO117 := n6_; clear n0_ n1_ n2_ n3_ n4_ n5_ n6_; clear ho hb hg hat; obtain ⟨Ao48, co48, eo48⟩ := Kd.R_slice HO117.out; subst eo48; have z49 := bc2 BK111.out))
                go_roundg k1
                case measure => have := HK1.out; omega
                case rel => exact ⟨(wrap64 (x26_1 + 1)), (y115), (.slice Ao48 y115.length co48), (by first | rfl | (simp; done) | (simp [*]; done)), H', ⟨by have := HK1.out; omega⟩, ⟨by (with_reducible repeat (first | apply Kd.R_alloc | apply Kd.R_drewN | apply Kd.R_drew)); exact Kd.R_mono (Kd.R_far (p := ⟨gb111, 1, none⟩) (Kd.R_types HO117.out BK111.out (by decide)) (fun _ hk => hk.2) (.slice Ao48 y115.length co48)) (fun _ hk => trivial)⟩, ⟨by (with_reducible repeat (first | refine kN ?_ _ | refine kD ?_ | refine kA ?_ _)); refine blk_far ?_ NB108_111.out _; (with_reducible repeat (first | refine kN ?_ _ | refine kD ?_ | refine kA ?_ _)); exact BK108.out⟩, ⟨by (with_reducible repeat (first | refine kN ?_ _ | refine kD ?_ | refine kA ?_ _)); refine blk_far ?_ NB109_111.out _; (with_reducible repeat (first | refine kN ?_ _ | refine kD ?_ | refine kA ?_ _)); exact BK109.out⟩, ⟨by (with_reducible repeat (first | refine kN ?_ _ | refine kD ?_ | refine kA ?_ _)); refine blk_far ?_ NB110_111.out _; (with_reducible repeat (first | refine kN ?_ _ | refine kD ?_ | refine kA ?_ _)); exact BK110.out⟩, ⟨by (with_reducible repeat (first | refine kN ?_ _ | refine kD ?_ | refine kA ?_ _)); refine blk_put (cs := #[.int .i64 (wrap64 (a0_0 + (wrap64 (a2 * a1_0)))), u112001]) ?_ 1 _ rfl; (with_reducible repeat (first | refine kN ?_ _ | refine kD ?_ | refine kA ?_ _)); exact BK111.out⟩, ⟨by repeat (first | (with_reducible first | exact HB.out | apply bA | apply bN | apply bD | refine bS ?_ GE108.out | refine bS ?_ GE109.out | refine bS ?_ GE110.out | refine bS ?_ GE111.out | refine bS ?_ GE113.out) | exact HB.out)⟩⟩
              · rw [if_neg c32] at H
                exact absurd H (by simp)
          · rw [if_neg c20] at H
            exact absurd H (by simp)
        · rw [if_neg c19] at H
          exact absurd H (by simp)
      · rw [if_neg c18] at H
        have c18b0 : decide (x26_1 < (l0_1.length : Int)) = false := decide_eq_false c18
        clear c18
        have H' := mk0 H
        clear H
        have hnb50 := NB109_108.out
        have hnc50 := NB108_109.out
        have hnb51 := NB109_110.out
        have hnc51 := NB110_109.out
        have hnb52 := NB109_111.out
        have hnc52 := NB111_109.out
        have z53 := bc2 BK109.out
        go_wp2
        go_loopg [54] k1 (fun kq v54 w' => ∃ (x54_2 : Int) (x112001_2 : List (S70)) (u112001 : Value), v54 = .int .i64 x54_2 ∧ Aside0 (impl_mix.l1 kq a2 l1_1 (l1_1.length : Int) x54_2 a0_0 l0_1 (wrap64 (a0_0 + (wrap64 (a2 * a1_0)))) x112001_2 = some (r1, r2, r3)) ∧ Aside0 (kq ≤ k1) ∧ Aside0 (Kd.R k70 70 w' w.heap.size (fun _ => True) u112001 x112001_2) ∧ Aside0 (w'.heap[gb108]? = some (.cells #[.int .i64 a0_0, (.slice A0_1 l0_1.length c0_1)] 28 (0, 0))) ∧ Aside0 (w'.heap[gb109]? = some (.cells #[.int .i64 a1_0, (.slice A1_1 l1_1.length c1_1)] 28 (0, 0))) ∧ Aside0 (w'.heap[gb110]? = some (.cells #[.int .i64 0, (.slice none 0 0)] 28 (0, 0))) ∧ Aside0 (w'.heap[gb111]? = some (.cells #[.int .i64 (wrap64 (a0_0 + (wrap64 (a2 * a1_0)))), u112001] 28 (0, 0))) ∧ Aside0 (Below w.heap.size w w'))
        case atStart => exact ⟨(0), (x112001_1), (u112001), (by first | rfl | (simp; done) | (simp [*]; done)), H', ⟨Nat.le_refl _⟩, ⟨by (with_reducible repeat (first | apply Kd.R_alloc | apply Kd.R_drewN | apply Kd.R_drew)); exact HO_112001.out⟩, ⟨by (with_reducible repeat (first | refine kN ?_ _ | refine kD ?_ | refine kA ?_ _)); exact BK108.out⟩, ⟨by (with_reducible repeat (first | refine kN ?_ _ | refine kD ?_ | refine kA ?_ _)); exact BK109.out⟩, ⟨by (with_reducible repeat (first | refine kN ?_ _ | refine kD ?_ | refine kA ?_ _)); exact BK110.out⟩, ⟨by (with_reducible repeat (first | refine kN ?_ _ | refine kD ?_ | refine kA ?_ _)); exact BK111.out⟩, ⟨by repeat (first | (with_reducible first | exact HB.out | apply bA | apply bN | apply bD | refine bS ?_ GE108.out | refine bS ?_ GE109.out | refine bS ?_ GE110.out | refine bS ?_ GE111.out) | exact HB.out)⟩⟩
        case round =>
          clear H'
          try clear c1
          try clear p1
          try clear q1
          try clear hx1
          try clear c2
          try clear p2
          try clear c3
          try clear c4
          try clear c5
          try clear p6
          try clear c7
          try clear c8
          try clear c10
          try clear p11
          try clear q11
          try clear hx11
          try clear c13
          try clear c14
          try clear c15
          try clear c18
          try clear c18b0
          try clear c19
          try clear c19b0
          try clear c20
          try clear c20b0
          try clear c21
          try clear c22
          try clear c22b0
          try clear c22b1
          try clear c24
          try clear c25
          try clear c26
          try clear c27
          try clear c32
          try clear c34
          try clear c35
          try clear c36
          try clear c37
          try clear c40
          try clear c42
          try clear c43
          try clear c44
          try clear c50
          try clear c51
          try clear c52
          try clear z11
          try clear z16
          try clear z17
          try clear z28
          try clear z38
          try clear z45
          try clear z46
          try clear z49
          try clear z53
          try clear z9
          try clear z11
          try clear z16
          try clear z17
          try clear z28
          try clear z38
          try clear z45
          try clear z46
          try clear z49
          try clear z53
          try clear z9
          try clear hx112_0
          try clear hx112_1
          try clear p112
          try clear p2
          try clear p6
          try clear q112
          obtain ⟨x54_2, x112001_2, u112001, rfl, HA, HK2, HO_112001, BK108, BK109, BK110, BK111, HB⟩ := hrel
          cases gk with
          | zero => exact absurd HA.out (by simp [impl_mix.l1])
          | succ k2 =>
            have H := HA.out
            clear HA
            simp only [impl_mix.l1] at H
            by_cases c54 : x54_2 < (l1_1.length : Int)
            · rw [if_pos c54] at H
              have c54b0 : decide (x54_2 < (l1_1.length : Int)) = true := decide_eq_true c54
              clear c54
              by_cases c55 : 0 ≤ x54_2
              · rw [if_pos c55] at H
                have c55b0 : decide (0 ≤ x54_2) = true := decide_eq_true c55
                clear c55
                by_cases c56 : x54_2 < (l1_1.length : Int)
                · rw [if_pos c56] at H
                  have c56b0 : decide (x54_2 < (l1_1.length : Int)) = true := decide_eq_true c56
                  clear c56
                  by_cases c57 : (wrap64 (a2 * ((rd_T70 l1_1 x54_2).f1))) = 0
                  · rw [if_pos c57] at H
                    have c57b0 : ((wrap64 (a2 * ((rd_T70 l1_1 x54_2).f1))) == 0) = true := beq_iff_eq.mpr c57
                    have c57b1 : ((wrap64 (a2 * ((rd_T70 l1_1 x54_2).f1))) != 0) = false := bne_eq_false_iff_eq.mpr c57
                    clear c57
                    have H' := mk0 H
                    clear H
                    have p118 : 0 ≤ (x54_2 : Int) := of_decide_eq_true (by first | (with_reducible assumption) | assumption)
                    have q118 : x54_2 < (l1_1.length : Int) := of_decide_eq_true (by first | (with_reducible assumption) | assumption)
                    obtain ⟨ad118, e118, hx118_0, hx118_1⟩ := at_T70 HR1_1.out x54_2 p118 q118
                    cases e118
                    replace hx118_0 := hbc HB.out hx118_0
                    replace hx118_1 := hbc HB.out hx118_1
                    replace p118 := eq_true p118
                    replace q118 := eq_true q118
                    go_wp2_with (first | ((with_reducible refine gate_dst (N := 13) rfl ?_); refine box_event ?hg (N := 13) ?hd (cs := #[.string (⟨#[]⟩ : ByteArray), .int .i64 0]) (t := 70) ?hr ?_; (case hd => rfl); (case hg => rfl); (case hr => first | (go_simp; done) | (go_simp; rfl)); intro gb119 hg w58 hbox hb; have q_ := qB (by repeat (first | (with_reducible first | exact HB.out | apply bA | apply bN | apply bD | refine bS ?_ GE108.out | refine bS ?_ GE109.out | refine bS ?_ GE110.out | refine bS ?_ GE111.out) | exact HB.out)) hb; have n0_ := mk0 (Kd.R_below (Kd.R_elderB (by (with_reducible repeat (first | apply Kd.R_alloc | apply Kd.R_drewN | apply Kd.R_drew)); exact HO_112001.out) gb119 (Nat.le_of_eq hg.symm)) hb); have n1_ := mk0 (blk_below (by (with_reducible repeat (first | refine kN ?_ _ | refine kD ?_ | refine kA ?_ _)); exact BK108.out) hb); have n2_ := mk0 (blk_below (by (with_reducible repeat (first | refine kN ?_ _ | refine kD ?_ | refine kA ?_ _)); exact BK109.out) hb); have n3_ := mk0 (blk_below (by (with_reducible repeat (first | refine kN ?_ _ | refine kD ?_ | refine kA ?_ _)); exact BK110.out) hb); have n4_ := mk0 (blk_below (by (with_reducible repeat (first | refine kN ?_ _ | refine kD ?_ | refine kA ?_ _)); exact BK111.out) hb); have n5_ := mk0 (below_step q_ hb); have n6_ := mk0 (hbox); have n7_ := mk0 (below_size2 q_ hg); have n8_ := n7_; have n9_ := mk0 ((by rw [hg]; exact Nat.ne_of_lt (blk_lt (by (with_reducible repeat (first | refine kN ?_ _ | refine kD ?_ | refine kA ?_ _)); exact BK108.out)) : gb108 ≠ gb119)); have n10_ := mk0 ((by rw [hg]; exact Nat.ne_of_gt (blk_lt (by (with_reducible repeat (first | refine kN ?_ _ | refine kD ?_ | refine kA ?_ _)); exact BK108.out)) : gb119 ≠ gb108)); have n11_ := mk0 ((by rw [hg]; exact Nat.ne_of_lt (blk_lt (by (with_reducible repeat (first | refine kN ?_ _ | refine kD ?_ | refine kA ?_ _)); exact BK109.out)) : gb109 ≠ gb119)); have n12_ := mk0 ((by rw [hg]; exact Nat.ne_of_gt (blk_lt (by (with_reducible repeat (first | refine kN ?_ _ | refine kD ?_ | refine kA ?_ _)); exact BK109.out)) : gb119 ≠ gb109)); have n13_ := mk0 ((by rw [hg]; exact Nat.ne_of_lt (blk_lt (by (with_reducible repeat (first | refine kN ?_ _ | refine kD ?_ | refine kA ?_ _)); exact BK110.out)) : gb110 ≠ gb119)); have n14_ := mk0 ((by rw [hg]; exact Nat.ne_of_gt (blk_lt (by (with_reducible repeat (first | refine kN ?_ _ | refine kD ?_ | refine kA ?_ _)); exact BK110.out)) : gb119 ≠ gb110)); have n15_ := mk0 ((by rw [hg]; exact Nat.ne_of_lt (blk_lt (by (with_reducible repeat (first | refine kN ?_ _ | refine kD ?_ | refine kA ?_ _)); exact BK111.out)) : gb111 ≠ gb119)); have n16_ := mk0 ((by rw [hg]; exact Nat.ne_of_gt (blk_lt (by (with_reducible repeat (first | refine kN ?_ _ | refine kD ?_ | refine kA ?_ _)); exact BK111.out)) : gb119 ≠ gb111)); clear HO_112001; clear BK108; clear BK109; clear BK110; clear BK111; clear HB; have HO_112001 := n0_; have BK108 := n1_; have BK109 := n2_; have BK110 := n3_; have BK111 := n4_; have HB := n5_; have BK119 := n6_; have GW119 := n7_; have GE119 := n8_; have NB108_119 := n9_; have NB119_108 := n10_; have NB109_119 := n11_; have NB119_109 := n12_; have NB110_119 := n13_; have NB119_110 := n14_; have NB111_119 := n15_; have NB119_111 := n16_; clear q_ n0_ n1_ n2_ n3_ n4_ n5_ n6_ n7_ n8_ n9_ n10_ n11_ n12_ n13_ n14_ n15_ n16_; clear hb hbox hg; have hnb59 := NB119_108.out; have hnc59 := NB108_119.out; have hnb60 := NB119_109.out; have hnc60 := NB109_119.out; have hnb61 := NB119_110.out; have hnc61 := NB110_119.out; have hnb62 := NB119_111.out; have hnc62 := NB111_119.out; have z63 := bc2 BK119.out))
                    go_roundg k2
                    case measure => have := HK1.out; have := HK2.out; omega
                    case rel => exact ⟨(wrap64 (x54_2 + 1)), (x112001_2), (u112001), (by first | rfl | (simp; done) | (simp [*]; done)), H', ⟨by have := HK1.out; have := HK2.out; omega⟩, ⟨by (with_reducible repeat (first | apply Kd.R_alloc | apply Kd.R_drewN | apply Kd.R_drew)); exact Kd.R_mono (Kd.R_far (p := ⟨gb119, 1, none⟩) (Kd.R_far (p := ⟨gb119, 0, none⟩) (Kd.R_mono HO_112001.out (fun k_ hk => (⟨hk, hk.2⟩ : _ ∧ k_ ≠ gb119))) (fun _ hk => hk.2) (.string ((rd_T70 l1_1 x54_2).f0))) (fun _ hk => hk.2) (.int .i64 ((rd_T70 l1_1 x54_2).f1))) (fun _ hk => trivial)⟩, ⟨by (with_reducible repeat (first | refine kN ?_ _ | refine kD ?_ | refine kA ?_ _)); refine blk_far ?_ NB108_119.out _; (with_reducible repeat (first | refine kN ?_ _ | refine kD ?_ | refine kA ?_ _)); refine blk_far ?_ NB108_119.out _; (with_reducible repeat (first | refine kN ?_ _ | refine kD ?_ | refine kA ?_ _)); exact BK108.out⟩, ⟨by (with_reducible repeat (first | refine kN ?_ _ | refine kD ?_ | refine kA ?_ _)); refine blk_far ?_ NB109_119.out _; (with_reducible repeat (first | refine kN ?_ _ | refine kD ?_ | refine kA ?_ _)); refine blk_far ?_ NB109_119.out _; (with_reducible repeat (first | refine kN ?_ _ | refine kD ?_ | refine kA ?_ _)); exact BK109.out⟩, ⟨by (with_reducible repeat (first | refine kN ?_ _ | refine kD ?_ | refine kA ?_ _)); refine blk_far ?_ NB110_119.out _; (with_reducible repeat (first | refine kN ?_ _ | refine kD ?_ | refine kA ?_ _)); refine blk_far ?_ NB110_119.out _; (with_reducible repeat (first | refine kN ?_ _ | refine kD ?_ | refine kA ?_ _)); exact BK110.out⟩, ⟨by (with_reducible repeat (first | refine kN ?_ _ | refine kD ?_ | refine kA ?_ _)); refine blk_far ?_ NB111_119.out _; (with_reducible repeat (first | refine kN ?_ _ | refine kD ?_ | refine kA ?_ _)); refine blk_far ?_ NB111_119.out _; (with_reducible repeat (first | refine kN ?_ _ | refine kD ?_ | refine kA ?_ _)); exact BK111.out⟩, ⟨by repeat (first | (with_reducible first | exact HB.out | apply bA | apply bN | apply bD | refine bS ?_ GE108.out | refine bS ?_ GE109.out | refine bS ?_ GE110.out | refine bS ?_ GE111.out | refine bS ?_ GE119.out) | exact HB.out)⟩⟩
                  · rw [if_neg c57] at H
                    have c57b0 : ((wrap64 (a2 * ((rd_T70 l1_1 x54_2).f1))) == 0) = false := beq_eq_false_iff_ne.mpr c57
                    have c57b1 : ((wrap64 (a2 * ((rd_T70 l1_1 x54_2).f1))) != 0) = true := bne_iff_ne.mpr c57
                    obtain ⟨t120, A64, H⟩ := bindA H
                    by_cases c65 : t120 = 0
                    · rw [if_pos c65] at H
                      have c65b0 : (t120 == 0) = true := beq_iff_eq.mpr c65
                      have c65b1 : (t120 != 0) = false := bne_eq_false_iff_eq.mpr c65
                      clear c65
                      by_cases c66 : x112001_2.length < 5864062014805
                      · rw [if_pos c66] at H
                        have LMc66 := mk0 c66
                        clear c66
                        obtain ⟨y121, hy121⟩ : ∃ y_ : List (S70), y_ = (x112001_2 ++ [(⟨(rd_T70 l1_1 x54_2).f0, wrap64 (a2 * ((rd_T70 l1_1 x54_2).f1))⟩ : S70)]) := ⟨_, rfl⟩
                        replace H : (impl_mix.l1 k2 a2 l1_1 (l1_1.length : Int) (wrap64 (x54_2 + 1)) a0_0 l0_1 (wrap64 (a0_0 + (wrap64 (a2 * a1_0)))) y121) = some (r1, r2, r3) := by first | (rw [hy121]; with_reducible exact H) | (have H2_ := (Option.bind_some _ _).symm.trans H; rw [hy121]; with_reducible exact H2_) | (have H2_ := (Option.bind_some _ _).symm.trans H; with_reducible exact H2_) | with_reducible exact H | (rw [hy121]; exact H) | exact H
                        have Ny121 := mk0 hy121
                        clear hy121
                        have H' := mk0 H
                        clear H
                        have p118 : 0 ≤ (x54_2 : Int) := of_decide_eq_true (by first | (with_reducible assumption) | assumption)
                        have q118 : x54_2 < (l1_1.length : Int) := of_decide_eq_true (by first | (with_reducible assumption) | assumption)
                        obtain ⟨ad118, e118, hx118_0, hx118_1⟩ := at_T70 HR1_1.out x54_2 p118 q118
                        cases e118
                        replace hx118_0 := hbc HB.out hx118_0
                        replace hx118_1 := hbc HB.out hx118_1
                        replace p118 := eq_true p118
                        replace q118 := eq_true q118
                        go_wp2_with (first | ((with_reducible refine gate_dst (N := 13) rfl ?_); refine box_event ?hg (N := 13) ?hd (cs := #[.string (⟨#[]⟩ : ByteArray), .int .i64 0]) (t := 70) ?hr ?_; (case hd => rfl); (case hg => rfl); (case hr => first | (go_simp; done) | (go_simp; rfl)); intro gb119 hg w67 hbox hb; have q_ := qB (by repeat (first | (with_reducible first | exact HB.out | apply bA | apply bN | apply bD | refine bS ?_ GE108.out | refine bS ?_ GE109.out | refine bS ?_ GE110.out | refine bS ?_ GE111.out) | exact HB.out)) hb; have n0_ := mk0 (Kd.R_below (Kd.R_elderB (by (with_reducible repeat (first | apply Kd.R_alloc | apply Kd.R_drewN | apply Kd.R_drew)); exact HO_112001.out) gb119 (Nat.le_of_eq hg.symm)) hb); have n1_ := mk0 (blk_below (by (with_reducible repeat (first | refine kN ?_ _ | refine kD ?_ | refine kA ?_ _)); exact BK108.out) hb); have n2_ := mk0 (blk_below (by (with_reducible repeat (first | refine kN ?_ _ | refine kD ?_ | refine kA ?_ _)); exact BK109.out) hb); have n3_ := mk0 (blk_below (by (with_reducible repeat (first | refine kN ?_ _ | refine kD ?_ | refine kA ?_ _)); exact BK110.out) hb); have n4_ := mk0 (blk_below (by (with_reducible repeat (first | refine kN ?_ _ | refine kD ?_ | refine kA ?_ _)); exact BK111.out) hb); have n5_ := mk0 (below_step q_ hb); have n6_ := mk0 (hbox); have n7_ := mk0 (below_size2 q_ hg); have n8_ := n7_; have n9_ := mk0 ((by rw [hg]; exact Nat.ne_of_lt (blk_lt (by (with_reducible repeat (first | refine kN ?_ _ | refine kD ?_ | refine kA ?_ _)); exact BK108.out)) : gb108 ≠ gb119)); have n10_ := mk0 ((by rw [hg]; exact Nat.ne_of_gt (blk_lt (by (with_reducible repeat (first | refine kN ?_ _ | refine kD ?_ | refine kA ?_ _)); exact BK108.out)) : gb119 ≠ gb108)); have n11_ := mk0 ((by rw [hg]; exact Nat.ne_of_lt (blk_lt (by (with_reducible repeat (first | refine kN ?_ _ | refine kD ?_ | refine kA ?_ _)); exact BK109.out)) : gb109 ≠ gb119)); have n12_ := mk0 ((by rw [hg]; exact Nat.ne_of_gt (blk_lt (by (with_reducible repeat (first | refine kN ?_ _ | refine kD ?_ | refine kA ?_ _)); exact BK109.out)) : gb119 ≠ gb109)); have n13_ := mk0 ((by rw [hg]; exact Nat.ne_of_lt (blk_lt (by (with_reducible repeat (first | refine kN ?_ _ | refine kD ?_ | refine kA ?_ _)); exact BK110.out)) : gb110 ≠ gb119)); have n14_ := mk0 ((by rw [hg]; exact Nat.ne_of_gt (blk_lt (by (with_reducible repeat (first | refine kN ?_ _ | refine kD ?_ | refine kA ?_ _)); exact BK110.out)) : gb119 ≠ gb110)); have n15_ := mk0 ((by rw [hg]; exact Nat.ne_of_lt (blk_lt (by (with_reducible repeat (first | refine kN ?_ _ | refine kD ?_ | refine kA ?_ _)); exact BK111.out)) : gb111 ≠ gb119)); have n16_ := mk0 ((by rw [hg]; exact Nat.ne_of_gt (blk_lt (by (with_reducible repeat (first | refine kN ?_ _ | refine kD ?_ | refine kA ?_ _)); exact BK111.out)) : gb119 ≠ gb111)); clear HO_112001; clear BK108; clear BK109; clear BK110; clear BK111; clear HB; have HO_112001 := n0_; have BK108 := n1_; have BK109 := n2_; have BK110 := n3_; have BK111 := n4_; have HB := n5_; have BK119 := n6_; have GW119 := n7_; have GE119 := n8_; have NB108_119 := n9_; have NB119_108 := n10_; have NB109_119 := n11_; have NB119_109 := n12_; have NB110_119 := n13_; have NB119_110 := n14_; have NB111_119 := n15_; have NB119_111 := n16_; clear q_ n0_ n1_ n2_ n3_ n4_ n5_ n6_ n7_ n8_ n9_ n10_ n11_ n12_ n13_ n14_ n15_ n16_; clear hb hbox hg; have hnb68 := NB119_108.out; have hnc68 := NB108_119.out; have hnb69 := NB119_109.out; have hnc69 := NB109_119.out; have hnb70 := NB119_110.out; have hnc70 := NB110_119.out; have hnb71 := NB119_111.out; have hnc71 := NB111_119.out; have z72 := bc2 BK119.out; have hnb73 := NB108_109.out; have hnc73 := NB109_108.out; have hnb74 := NB108_110.out; have hnc74 := NB110_108.out; have hnb75 := NB108_111.out; have hnc75 := NB111_108.out; have z76 := bc2 BK108.out) | (go_at_call 21; (with_reducible refine (impl_CoefOf.calls k2 a0_0 _ _ l0_1 ((rd_T70 l1_1 x54_2).f0) t120 _ ?side1 ?side2 A64.out).mono ?_); (case side1 => exact Kd.C_below HR0_1.out (by repeat (first | (with_reducible first | exact HB.out | apply bA | apply bN | apply bD | refine bS ?_ GE108.out | refine bS ?_ GE109.out | refine bS ?_ GE110.out | refine bS ?_ GE111.out | refine bS ?_ GE119.out) | exact HB.out))); (case side2 => exact HC0_1.out); rintro e w77 ⟨rfl, hb⟩; have n0_ := mk0 (Kd.R_below (by (with_reducible repeat (first | apply Kd.R_alloc | apply Kd.R_drewN | apply Kd.R_drew)); exact (Kd.R_mono (Kd.R_far (p := ⟨gb119, 1, none⟩) (Kd.R_far (p := ⟨gb119, 0, none⟩) (Kd.R_mono HO_112001.out (fun k_ hk => (⟨hk, hk.2⟩ : _ ∧ k_ ≠ gb119))) (fun _ hk => hk.2) (.string ((rd_T70 l1_1 x54_2).f0))) (fun _ hk => hk.2) (.int .i64 ((rd_T70 l1_1 x54_2).f1))) (fun _ h_ => h_.1))) hb); have n1_ := mk0 (blk_below (g := gb108) (o := .cells #[.int .i64 a0_0, .slice A0_1 l0_1.length c0_1] 28 (0, 0)) (by (with_reducible repeat (first | refine kN ?_ _ | refine kD ?_ | refine kA ?_ _)); refine blk_far ?_ NB108_119.out _; (with_reducible repeat (first | refine kN ?_ _ | refine kD ?_ | refine kA ?_ _)); refine blk_far ?_ NB108_119.out _; (with_reducible repeat (first | refine kN ?_ _ | refine kD ?_ | refine kA ?_ _)); exact BK108.out) hb); have n2_ := mk0 (blk_below (g := gb109) (o := .cells #[.int .i64 a1_0, .slice (some ad118) l1_1.length c1_1] 28 (0, 0)) (by (with_reducible repeat (first | refine kN ?_ _ | refine kD ?_ | refine kA ?_ _)); refine blk_far ?_ NB109_119.out _; (with_reducible repeat (first | refine kN ?_ _ | refine kD ?_ | refine kA ?_ _)); refine blk_far ?_ NB109_119.out _; (with_reducible repeat (first | refine kN ?_ _ | refine kD ?_ | refine kA ?_ _)); exact BK109.out) hb); have n3_ := mk0 (blk_below (g := gb110) (o := .cells #[.int .i64 0, .slice none 0 0] 28 (0, 0)) (by (with_reducible repeat (first | refine kN ?_ _ | refine kD ?_ | refine kA ?_ _)); refine blk_far ?_ NB110_119.out _; (with_reducible repeat (first | refine kN ?_ _ | refine kD ?_ | refine kA ?_ _)); refine blk_far ?_ NB110_119.out _; (with_reducible repeat (first | refine kN ?_ _ | refine kD ?_ | refine kA ?_ _)); exact BK110.out) hb); have n4_ := mk0 (blk_below (g := gb111) (o := .cells #[.int .i64 (wrap64 (a0_0 + (wrap64 (a2 * a1_0)))), u112001] 28 (0, 0)) (by (with_reducible repeat (first | refine kN ?_ _ | refine kD ?_ | refine kA ?_ _)); refine blk_far ?_ NB111_119.out _; (with_reducible repeat (first | refine kN ?_ _ | refine kD ?_ | refine kA ?_ _)); refine blk_far ?_ NB111_119.out _; (with_reducible repeat (first | refine kN ?_ _ | refine kD ?_ | refine kA ?_ _)); exact BK111.out) hb); have n5_ := mk0 (blk_below (g := gb119) (o := .cells #[.string ((rd_T70 l1_1 x54_2).f0), .int .i64 ((rd_T70 l1_1 x54_2).f1)] 70 (0, 0)) (by (with_reducible repeat (first | refine kN ?_ _ | refine kD ?_ | refine kA ?_ _)); refine blk_put (cs := #[.string ((rd_T70 l1_1 x54_2).f0), .int .i64 0]) ?_ 1 _ rfl; (with_reducible repeat (first | refine kN ?_ _ | refine kD ?_ | refine kA ?_ _)); refine blk_put (cs := #[.string (⟨#[]⟩ : ByteArray), .int .i64 0]) ?_ 0 _ rfl; (with_reducible repeat (first | refine kN ?_ _ | refine kD ?_ | refine kA ?_ _)); exact BK119.out) hb); have n6_ := mk0 (below_step (by repeat (first | (with_reducible first | exact HB.out | apply bA | apply bN | apply bD | refine bS ?_ GE108.out | refine bS ?_ GE109.out | refine bS ?_ GE110.out | refine bS ?_ GE111.out | refine bS ?_ GE119.out) | exact HB.out)) hb); clear HO_112001; clear BK108; clear BK109; clear BK110; clear BK111; clear BK119; clear HB; have HO_112001 := n0_; have BK108 := n1_; have BK109 := n2_; have BK110 := n3_; have BK111 := n4_; have BK119 := n5_; have HB := n6_; clear n0_ n1_ n2_ n3_ n4_ n5_ n6_; (try clear hb); (try clear hb2); (try clear hk); (try clear hi); have hnb78 := NB111_109.out; have hnc78 := NB109_111.out; have hnb79 := NB111_110.out; have hnc79 := NB110_111.out; have z80 := bc2 BK111.out; have z81 := bc2 BK119.out) | ((with_reducible refine gate_builtin (b := .append) (xs := #[.tmp 72, .tmp 77]) rfl ?_); at_builtin; refine Kd.R_append k70 (w0 := w) w.heap.size rfl (.tmp 72) (.tmp 77) 26 70 (.agg #[(.string ⟨#[]⟩), (.int .i64 0)]) 24 rfl Try.underlying26 info70 rfl (by decide) (by omega) u112001 x112001_2 (⟨(rd_T70 l1_1 x54_2).f0, wrap64 (a2 * ((rd_T70 l1_1 x54_2).f1))⟩ : S70) [.string ((rd_T70 l1_1 x54_2).f0), .int .i64 (wrap64 (a2 * ((rd_T70 l1_1 x54_2).f1)))] (fun k_ => k_ ≠ gb119) (fun _ => False) rfl rfl ?aP (fun _ hk => hk.elim) ?aF ?aO ?aB ?aS ?aL ?_; (case aP => exact k70_mkM _ _ _ (⟨(rd_T70 l1_1 x54_2).f0, wrap64 (a2 * ((rd_T70 l1_1 x54_2).f1))⟩ : S70)); (case aB => exact (by repeat (first | (with_reducible first | exact HB.out | apply bA | apply bN | apply bD | refine bS ?_ GE108.out | refine bS ?_ GE109.out | refine bS ?_ GE110.out | refine bS ?_ GE111.out | refine bS ?_ GE119.out) | exact HB.out))); (case aF => exact (fun k_ hk => Kd.freshB (g := gb119) (o := .cells #[.string ((rd_T70 l1_1 x54_2).f0), .int .i64 ((rd_T70 l1_1 x54_2).f1)] 70 (0, 0)) (by (with_reducible repeat (first | refine kN ?_ _ | refine kD ?_ | refine kA ?_ _)); exact BK119.out) k_ hk)); (case aO => exact (by (with_reducible repeat (first | apply Kd.R_alloc | apply Kd.R_drewN | apply Kd.R_drew)); exact Kd.R_mono HO_112001.out (fun _ hk => hk.2))); (case aS => exact (below_size (by repeat (first | (with_reducible first | exact HB.out | apply bA | apply bN | apply bD | refine bS ?_ GE108.out | refine bS ?_ GE109.out | refine bS ?_ GE110.out | refine bS ?_ GE111.out | refine bS ?_ GE119.out) | exact HB.out)))); (case aL => have := LMc66.out; omega); intro v122 w82 ho hb hg hat; rw [← Ny121.out] at ho; have n0_ := mk0 (blk_grown (by (with_reducible repeat (first | refine kN ?_ _ | refine kD ?_ | refine kA ?_ _)); exact BK108.out) hg (Kd.R_ne HO_112001.out BK108.out (by decide))); have n1_ := mk0 (blk_grown (by (with_reducible repeat (first | refine kN ?_ _ | refine kD ?_ | refine kA ?_ _)); exact BK109.out) hg (Kd.R_ne HO_112001.out BK109.out (by decide))); have n2_ := mk0 (blk_grown (by (with_reducible repeat (first | refine kN ?_ _ | refine kD ?_ | refine kA ?_ _)); exact BK110.out) hg (Kd.R_ne HO_112001.out BK110.out (by decide))); have n3_ := mk0 (blk_grown (by (with_reducible repeat (first | refine kN ?_ _ | refine kD ?_ | refine kA ?_ _)); exact BK111.out) hg (Kd.R_ne HO_112001.out BK111.out (by decide))); have n4_ := mk0 (blk_grown (by (with_reducible repeat (first | refine kN ?_ _ | refine kD ?_ | refine kA ?_ _)); exact BK119.out) hg (Kd.R_away HO_112001.out (fun _ hk => hk.2))); have n5_ := mk0 (hb); have n6_ := mk0 (ho); clear BK108; clear BK109; clear BK110; clear BK111; clear BK119; clear HB; clear HO_112001; have BK108 := n0_; have BK109 := n1_; have BK110 := n2_; have BK111 := n3_; have BK119 := n4_; have HB := n5_; have HO123 := n6_; clear n0_ n1_ n2_ n3_ n4_ n5_ n6_; clear ho hb hg hat; obtain ⟨Ao83, co83, eo83⟩ := Kd.R_slice HO123.out; subst eo83; have z84 := bc2 BK111.out))
                        go_roundg k2
                        case measure => have := HK1.out; have := HK2.out; omega
                        case rel => exact ⟨(wrap64 (x54_2 + 1)), (y121), (.slice Ao83 y121.length co83), (by first | rfl | (simp; done) | (simp [*]; done)), H', ⟨by have := HK1.out; have := HK2.out; omega⟩, ⟨by (with_reducible repeat (first | apply Kd.R_alloc | apply Kd.R_drewN | apply Kd.R_drew)); exact Kd.R_mono (Kd.R_far (p := ⟨gb111, 1, none⟩) (Kd.R_types HO123.out BK111.out (by decide)) (fun _ hk => hk.2) (.slice Ao83 y121.length co83)) (fun _ hk => trivial)⟩, ⟨by (with_reducible repeat (first | refine kN ?_ _ | refine kD ?_ | refine kA ?_ _)); refine blk_far ?_ NB108_111.out _; (with_reducible repeat (first | refine kN ?_ _ | refine kD ?_ | refine kA ?_ _)); exact BK108.out⟩, ⟨by (with_reducible repeat (first | refine kN ?_ _ | refine kD ?_ | refine kA ?_ _)); refine blk_far ?_ NB109_111.out _; (with_reducible repeat (first | refine kN ?_ _ | refine kD ?_ | refine kA ?_ _)); exact BK109.out⟩, ⟨by (with_reducible repeat (first | refine kN ?_ _ | refine kD ?_ | refine kA ?_ _)); refine blk_far ?_ NB110_111.out _; (with_reducible repeat (first | refine kN ?_ _ | refine kD ?_ | refine kA ?_ _)); exact BK110.out⟩, ⟨by (with_reducible repeat (first | refine kN ?_ _ | refine kD ?_ | refine kA ?_ _)); refine blk_put (cs := #[.int .i64 (wrap64 (a0_0 + (wrap64 (a2 * a1_0)))), u112001]) ?_ 1 _ rfl; (with_reducible repeat (first | refine kN ?_ _ | refine kD ?_ | refine kA ?_ _)); exact BK111.out⟩, ⟨by repeat (first | (with_reducible first | exact HB.out | apply bA | apply bN | apply bD | refine bS ?_ GE108.out | refine bS ?_ GE109.out | refine bS ?_ GE110.out | refine bS ?_ GE111.out | refine bS ?_ GE119.out) | exact HB.out)⟩⟩
                      · rw [if_neg c66] at H
                        exact absurd H (by simp)
                    · rw [if_neg c65] at H
                      have c65b0 : (t120 == 0) = false := beq_eq_false_iff_ne.mpr c65
                      have c65b1 : (t120 != 0) = true := bne_iff_ne.mpr c65
                      have H' := mk0 H
                      clear H
                      have p118 : 0 ≤ (x54_2 : Int) := of_decide_eq_true (by first | (with_reducible assumption) | assumption)
                      have q118 : x54_2 < (l1_1.length : Int) := of_decide_eq_true (by first | (with_reducible assumption) | assumption)
                      obtain ⟨ad118, e118, hx118_0, hx118_1⟩ := at_T70 HR1_1.out x54_2 p118 q118
                      cases e118
                      replace hx118_0 := hbc HB.out hx118_0
                      replace hx118_1 := hbc HB.out hx118_1
                      replace p118 := eq_true p118
                      replace q118 := eq_true q118
                      go_wp2_with (first | ((with_reducible refine gate_dst (N := 13) rfl ?_); refine box_event ?hg (N := 13) ?hd (cs := #[.string (⟨#[]⟩ : ByteArray), .int .i64 0]) (t := 70) ?hr ?_; (case hd => rfl); (case hg => rfl); (case hr => first | (go_simp; done) | (go_simp; rfl)); intro gb119 hg w85 hbox hb; have q_ := qB (by repeat (first | (with_reducible first | exact HB.out | apply bA | apply bN | apply bD | refine bS ?_ GE108.out | refine bS ?_ GE109.out | refine bS ?_ GE110.out | refine bS ?_ GE111.out) | exact HB.out)) hb; have n0_ := mk0 (Kd.R_below (Kd.R_elderB (by (with_reducible repeat (first | apply Kd.R_alloc | apply Kd.R_drewN | apply Kd.R_drew)); exact HO_112001.out) gb119 (Nat.le_of_eq hg.symm)) hb); have n1_ := mk0 (blk_below (by (with_reducible repeat (first | refine kN ?_ _ | refine kD ?_ | refine kA ?_ _)); exact BK108.out) hb); have n2_ := mk0 (blk_below (by (with_reducible repeat (first | refine kN ?_ _ | refine kD ?_ | refine kA ?_ _)); exact BK109.out) hb); have n3_ := mk0 (blk_below (by (with_reducible repeat (first | refine kN ?_ _ | refine kD ?_ | refine kA ?_ _)); exact BK110.out) hb); have n4_ := mk0 (blk_below (by (with_reducible repeat (first | refine kN ?_ _ | refine kD ?_ | refine kA ?_ _)); exact BK111.out) hb); have n5_ := mk0 (below_step q_ hb); have n6_ := mk0 (hbox); have n7_ := mk0 (below_size2 q_ hg); have n8_ := n7_; have n9_ := mk0 ((by rw [hg]; exact Nat.ne_of_lt (blk_lt (by (with_reducible repeat (first | refine kN ?_ _ | refine kD ?_ | refine kA ?_ _)); exact BK108.out)) : gb108 ≠ gb119)); have n10_ := mk0 ((by rw [hg]; exact Nat.ne_of_gt (blk_lt (by (with_reducible repeat (first | refine kN ?_ _ | refine kD ?_ | refine kA ?_ _)); exact BK108.out)) : gb119 ≠ gb108)); have n11_ := mk0 ((by rw [hg]; exact Nat.ne_of_lt (blk_lt (by (with_reducible repeat (first | refine kN ?_ _ | refine kD ?_ | refine kA ?_ _)); exact BK109.out)) : gb109 ≠ gb119)); have n12_ := mk0 ((by rw [hg]; exact Nat.ne_of_gt (blk_lt (by (with_reducible repeat (first | refine kN ?_ _ | refine kD ?_ | refine kA ?_ _)); exact BK109.out)) : gb119 ≠ gb109)); have n13_ := mk0 ((by rw [hg]; exact Nat.ne_of_lt (blk_lt (by (with_reducible repeat (first | refine kN ?_ _ | refine kD ?_ | refine kA ?_ _)); exact BK110.out)) : gb110 ≠ gb119)); have n14_ := mk0 ((by rw [hg]; exact Nat.ne_of_gt (blk_lt (by (with_reducible repeat (first | refine kN ?_ _ | refine kD ?_ | refine kA ?_ _)); exact BK110.out)) : gb119 ≠ gb110)); have n15_ := mk0 ((by rw [hg]; exact Nat.ne_of_lt (blk_lt (by (with_reducible repeat (first | refine kN ?_ _ | refine kD ?_ | refine kA ?_ _)); exact BK111.out)) : gb111 ≠ gb119)); have n16_ := mk0 ((by rw [hg]; exact Nat.ne_of_gt (blk_lt (by (with_reducible repeat (first | refine kN ?_ _ | refine kD ?_ | refine kA ?_ _)); exact BK111.out)) : gb119 ≠ gb111)); clear HO_112001; clear BK108; clear BK109; clear BK110; clear BK111; clear HB; have HO_112001 := n0_; have BK108 := n1_; have BK109 := n2_; have BK110 := n3_; have BK111 := n4_; have HB := n5_; have BK119 := n6_; have GW119 := n7_; have GE119 := n8_; have NB108_119 := n9_; have NB119_108 := n10_; have NB109_119 := n11_; have NB119_109 := n12_; have NB110_119 := n13_; have NB119_110 := n14_; have NB111_119 := n15_; have NB119_111 := n16_; clear q_ n0_ n1_ n2_ n3_ n4_ n5_ n6_ n7_ n8_ n9_ n10_ n11_ n12_ n13_ n14_ n15_ n16_; clear hb hbox hg; have hnb86 := NB119_108.out; have hnc86 := NB108_119.out; have hnb87 := NB119_109.out; have hnc87 := NB109_119.out; have hnb88 := NB119_110.out; have hnc88 := NB110_119.out; have hnb89 := NB119_111.out; have hnc89 := NB111_119.out; have z90 := bc2 BK119.out; have hnb91 := NB108_109.out; have hnc91 := NB109_108.out; have hnb92 := NB108_110.out; have hnc92 := NB110_108.out; have hnb93 := NB108_111.out; have hnc93 := NB111_108.out; have z94 := bc2 BK108.out) | (go_at_call 21; (with_reducible refine (impl_CoefOf.calls k2 a0_0 _ _ l0_1 ((rd_T70 l1_1 x54_2).f0) t120 _ ?side1 ?side2 A64.out).mono ?_); (case side1 => exact Kd.C_below HR0_1.out (by repeat (first | (with_reducible first | exact HB.out | apply bA | apply bN | apply bD | refine bS ?_ GE108.out | refine bS ?_ GE109.out | refine bS ?_ GE110.out | refine bS ?_ GE111.out | refine bS ?_ GE119.out) | exact HB.out))); (case side2 => exact HC0_1.out); rintro e w95 ⟨rfl, hb⟩; have n0_ := mk0 (Kd.R_below (by (with_reducible repeat (first | apply Kd.R_alloc | apply Kd.R_drewN | apply Kd.R_drew)); exact (Kd.R_mono (Kd.R_far (p := ⟨gb119, 1, none⟩) (Kd.R_far (p := ⟨gb119, 0, none⟩) (Kd.R_mono HO_112001.out (fun k_ hk => (⟨hk, hk.2⟩ : _ ∧ k_ ≠ gb119))) (fun _ hk => hk.2) (.string ((rd_T70 l1_1 x54_2).f0))) (fun _ hk => hk.2) (.int .i64 ((rd_T70 l1_1 x54_2).f1))) (fun _ h_ => h_.1))) hb); have n1_ := mk0 (blk_below (g := gb108) (o := .cells #[.int .i64 a0_0, .slice A0_1 l0_1.length c0_1] 28 (0, 0)) (by (with_reducible repeat (first | refine kN ?_ _ | refine kD ?_ | refine kA ?_ _)); refine blk_far ?_ NB108_119.out _; (with_reducible repeat (first | refine kN ?_ _ | refine kD ?_ | refine kA ?_ _)); refine blk_far ?_ NB108_119.out _; (with_reducible repeat (first | refine kN ?_ _ | refine kD ?_ | refine kA ?_ _)); exact BK108.out) hb); have n2_ := mk0 (blk_below (g := gb109) (o := .cells #[.int .i64 a1_0, .slice (some ad118) l1_1.length c1_1] 28 (0, 0)) (by (with_reducible repeat (first | refine kN ?_ _ | refine kD ?_ | refine kA ?_ _)); refine blk_far ?_ NB109_119.out _; (with_reducible repeat (first | refine kN ?_ _ | refine kD ?_ | refine kA ?_ _)); refine blk_far ?_ NB109_119.out _; (with_reducible repeat (first | refine kN ?_ _ | refine kD ?_ | refine kA ?_ _)); exact BK109.out) hb); have n3_ := mk0 (blk_below (g := gb110) (o := .cells #[.int .i64 0, .slice none 0 0] 28 (0, 0)) (by (with_reducible repeat (first | refine kN ?_ _ | refine kD ?_ | refine kA ?_ _)); refine blk_far ?_ NB110_119.out _; (with_reducible repeat (first | refine kN ?_ _ | refine kD ?_ | refine kA ?_ _)); refine blk_far ?_ NB110_119.out _; (with_reducible repeat (first | refine kN ?_ _ | refine kD ?_ | refine kA ?_ _)); exact BK110.out) hb); have n4_ := mk0 (blk_below (g := gb111) (o := .cells #[.int .i64 (wrap64 (a0_0 + (wrap64 (a2 * a1_0)))), u112001] 28 (0, 0)) (by (with_reducible repeat (first | refine kN ?_ _ | refine kD ?_ | refine kA ?_ _)); refine blk_far ?_ NB111_119.out _; (with_reducible repeat (first | refine kN ?_ _ | refine kD ?_ | refine kA ?_ _)); refine blk_far ?_ NB111_119.out _; (with_reducible repeat (first | refine kN ?_ _ | refine kD ?_ | refine kA ?_ _)); exact BK111.out) hb); have n5_ := mk0 (blk_below (g := gb119) (o := .cells #[.string ((rd_T70 l1_1 x54_2).f0), .int .i64 ((rd_T70 l1_1 x54_2).f1)] 70 (0, 0)) (by (with_reducible repeat (first | refine kN ?_ _ | refine kD ?_ | refine kA ?_ _)); refine blk_put (cs := #[.string ((rd_T70 l1_1 x54_2).f0), .int .i64 0]) ?_ 1 _ rfl; (with_reducible repeat (first | refine kN ?_ _ | refine kD ?_ | refine kA ?_ _)); refine blk_put (cs := #[.string (⟨#[]⟩ : ByteArray), .int .i64 0]) ?_ 0 _ rfl; (with_reducible repeat (first | refine kN ?_ _ | refine kD ?_ | refine kA ?_ _)); exact BK119.out) hb); have n6_ := mk0 (below_step (by repeat (first | (with_reducible first | exact HB.out | apply bA | apply bN | apply bD | refine bS ?_ GE108.out | refine bS ?_ GE109.out | refine bS ?_ GE110.out | refine bS ?_ GE111.out | refine bS ?_ GE119.out) | exact HB.out)) hb); clear HO_112001; clear BK108; clear BK109; clear BK110; clear BK111; clear BK119; clear HB; have HO_112001 := n0_; have BK108 := n1_; have BK109 := n2_; have BK110 := n3_; have BK111 := n4_; have BK119 := n5_; have HB := n6_; clear n0_ n1_ n2_ n3_ n4_ n5_ n6_; (try clear hb); (try clear hb2); (try clear hk); (try clear hi)))
                      go_roundg k2
                      case measure => have := HK1.out; have := HK2.out; omega
                      case rel => exact ⟨(wrap64 (x54_2 + 1)), (x112001_2), (u112001), (by first | rfl | (simp; done) | (simp [*]; done)), H', ⟨by have := HK1.out; have := HK2.out; omega⟩, ⟨by (with_reducible repeat (first | apply Kd.R_alloc | apply Kd.R_drewN | apply Kd.R_drew)); exact Kd.R_mono HO_112001.out (fun _ hk => trivial)⟩, ⟨by (with_reducible repeat (first | refine kN ?_ _ | refine kD ?_ | refine kA ?_ _)); exact BK108.out⟩, ⟨by (with_reducible repeat (first | refine kN ?_ _ | refine kD ?_ | refine kA ?_ _)); exact BK109.out⟩, ⟨by (with_reducible repeat (first | refine kN ?_ _ | refine kD ?_ | refine kA ?_ _)); exact BK110.out⟩, ⟨by (with_reducible repeat (first | refine kN ?_ _ | refine kD ?_ | refine kA ?_ _)); exact BK111.out⟩, ⟨by repeat (first | (with_reducible first | exact HB.out | apply bA | apply bN | apply bD | refine bS ?_ GE108.out | refine bS ?_ GE109.out | refine bS ?_ GE110.out | refine bS ?_ GE111.out | refine bS ?_ GE119.out) | exact HB.out)⟩⟩
                · rw [if_neg c56] at H
                  exact absurd H (by simp)
              · rw [if_neg c55] at H
                exact absurd H (by simp)
            · rw [if_neg c54] at H
              have c54b0 : decide (x54_2 < (l1_1.length : Int)) = false := decide_eq_false c54
              clear c54
              obtain ⟨t124, A96, H⟩ := bindA H
              obtain ⟨t125, A97, H⟩ := bindA H
              by_cases c98 : t125 = true
              · subst c98
                rw [if_pos rfl] at H
                simp only [Option.some.injEq, Prod.mk.injEq] at H
                obtain ⟨rfl, rfl, rfl⟩ := H
                have hnb99 := NB111_108.out
                have hnc99 := NB108_111.out
                have hnb100 := NB111_109.out
                have hnc100 := NB109_111.out
                have hnb101 := NB111_110.out
                have hnc101 := NB110_111.out
                have z102 := bc2 BK111.out
                obtain ⟨Ao103, co103, eo103⟩ := Kd.R_slice HO_112001.out
                subst eo103
                go_wp2_with (first | ((with_reducible refine gate_callee (f := 75) rfl ?_); refine goesL_ (some 83) rfl rfl Try.func75 (by kernel_rfl) rfl #[.slice Ao103 x112001_2.length co103, .func (.func 76) #[] #[]] rfl (by (try simp only [List.map_toArray, List.map_cons, List.map_nil]); first | done | rfl) ?_; (with_reducible refine (impl_Term_75.calls (fun k_ => some k_ = (.slice Ao103 x112001_2.length co103 : Value).ownBlock) (.slice Ao103 x112001_2.length co103) x112001_2 t124 w _ ?side1 ?side2 A96.out).mono ?_); (case side1 => repeat (first | (with_reducible first | exact HB.out | apply bA | apply bN | apply bD | refine bS ?_ GE108.out | refine bS ?_ GE109.out | refine bS ?_ GE110.out | refine bS ?_ GE111.out) | exact HB.out)); (case side2 => exact Kd.R_tight rfl HO_112001.out); rintro e w104 ⟨rfl, hy0, hb, hkp⟩; refine ⟨_, rfl, ?_⟩; have n0_ := mk0 (Kd.R_reok rfl hy0 (fun k_ e_ => HO_112001.out.1 k_ e_)); have n1_ := mk0 (blk_kept (by (with_reducible repeat (first | refine kN ?_ _ | refine kD ?_ | refine kA ?_ _)); exact BK108.out) hkp (fun hs_ => (fun e_ => (Kd.R_ne HO_112001.out BK108.out (by decide)) e_) hs_)); have n2_ := mk0 (blk_kept (by (with_reducible repeat (first | refine kN ?_ _ | refine kD ?_ | refine kA ?_ _)); exact BK109.out) hkp (fun hs_ => (fun e_ => (Kd.R_ne HO_112001.out BK109.out (by decide)) e_) hs_)); have n3_ := mk0 (blk_kept (by (with_reducible repeat (first | refine kN ?_ _ | refine kD ?_ | refine kA ?_ _)); exact BK110.out) hkp (fun hs_ => (fun e_ => (Kd.R_ne HO_112001.out BK110.out (by decide)) e_) hs_)); have n4_ := mk0 (blk_kept (by (with_reducible repeat (first | refine kN ?_ _ | refine kD ?_ | refine kA ?_ _)); exact BK111.out) hkp (fun hs_ => (fun e_ => (Kd.R_ne HO_112001.out BK111.out (by decide)) e_) hs_)); have n5_ := mk0 (hb); clear HO_112001; clear BK108; clear BK109; clear BK110; clear BK111; clear HB; have HO_112001 := n0_; have BK108 := n1_; have BK109 := n2_; have BK110 := n3_; have BK111 := n4_; have HB := n5_; clear n0_ n1_ n2_ n3_ n4_ n5_; (try clear hb); (try clear hkp); (try clear hy0); have z105 := bc2 BK111.out) | ((with_reducible refine gate_callee (f := 20) rfl ?_); refine goesL_ (some 85) rfl rfl Try.func20 (by kernel_rfl) rfl #[.agg #[.int .i64 (wrap64 (a0_0 + (wrap64 (a2 * a1_0)))), .slice Ao103 t124.length co103]] rfl (by (try simp only [List.map_toArray, List.map_cons, List.map_nil]); first | done | (rw [show t124.length = x112001_2.length from (Kd.R_reads' HO_112001.out).1.symm] <;> rfl) | rfl | (simp only [List.length_drop, List.length_take]; rfl)) ?_; (with_reducible refine (impl_AffOk.calls k2 (wrap64 (a0_0 + (wrap64 (a2 * a1_0)))) _ _ t124 true _ ?side1 ?side2 A97.out).mono ?_); (case side1 => repeat (first | exact (Kd.R_reads' HO_112001.out).2.2 | (with_reducible refine cA ?_ _) | (with_reducible refine cN ?_ _) | (with_reducible refine cD ?_))); (case side2 => rw [show t124.length = x112001_2.length from (Kd.R_reads' HO_112001.out).1.symm]; exact (Kd.R_reads' HO_112001.out).2.1); rintro e w106 ⟨rfl, hb⟩; refine ⟨_, rfl, ?_⟩; have n0_ := mk0 (Kd.R_below (by (with_reducible repeat (first | apply Kd.R_alloc | apply Kd.R_drewN | apply Kd.R_drew)); exact HO_112001.out) hb); have n1_ := mk0 (blk_below (by (with_reducible repeat (first | refine kN ?_ _ | refine kD ?_ | refine kA ?_ _)); exact BK108.out) hb); have n2_ := mk0 (blk_below (by (with_reducible repeat (first | refine kN ?_ _ | refine kD ?_ | refine kA ?_ _)); exact BK109.out) hb); have n3_ := mk0 (blk_below (by (with_reducible repeat (first | refine kN ?_ _ | refine kD ?_ | refine kA ?_ _)); exact BK110.out) hb); have n4_ := mk0 (blk_below (by (with_reducible repeat (first | refine kN ?_ _ | refine kD ?_ | refine kA ?_ _)); exact BK111.out) hb); have n5_ := mk0 (below_step (by repeat (first | (with_reducible first | exact HB.out | apply bA | apply bN | apply bD | refine bS ?_ GE108.out | refine bS ?_ GE109.out | refine bS ?_ GE110.out | refine bS ?_ GE111.out) | exact HB.out)) hb); clear HO_112001; clear BK108; clear BK109; clear BK110; clear BK111; clear HB; have HO_112001 := n0_; have BK108 := n1_; have BK109 := n2_; have BK110 := n3_; have BK111 := n4_; have HB := n5_; clear n0_ n1_ n2_ n3_ n4_ n5_; (try clear hb); (try clear hb2); (try clear hk); (try clear hi); have z107 := bc2 BK111.out; have hnb108 := NB110_108.out; have hnc108 := NB108_110.out; have hnb109 := NB110_109.out; have hnc109 := NB109_110.out; have z110 := bc2 BK110.out))
                refine bodyPost_ret (results_ct rfl _ _ gb110 28 #[.int .i64 (wrap64 (a0_0 + (wrap64 (a2 * a1_0)))), .slice Ao103 x112001_2.length co103] (0, 0) _ rfl (by (with_reducible repeat (first | refine kN ?_ _ | refine kD ?_ | refine kA ?_ _)); refine blk_put (cs := #[.int .i64 (wrap64 (a0_0 + (wrap64 (a2 * a1_0)))), .slice none 0 0]) ?_ 1 _ rfl; (with_reducible repeat (first | refine kN ?_ _ | refine kD ?_ | refine kA ?_ _)); refine blk_put (cs := #[.int .i64 0, .slice none 0 0]) ?_ 0 _ rfl; (with_reducible repeat (first | refine kN ?_ _ | refine kD ?_ | refine kA ?_ _)); exact BK110.out) Try.underlying28 rfl (by kernel_rfl)) rfl ?_
                exact ⟨_, by first | rfl | (simp [errW_none, errW_some] <;> rfl) | (simp [*, errW_none, errW_some] <;> rfl), by (with_reducible repeat (first | apply Kd.R_alloc | apply Kd.R_drewN | apply Kd.R_drew)); exact Kd.R_mono (Kd.R_far (p := ⟨gb110, 1, none⟩) (Kd.R_far (p := ⟨gb110, 0, none⟩) (Kd.R_types HO_112001.out BK110.out (by decide)) (fun _ hk => hk.2) (.int .i64 (wrap64 (a0_0 + (wrap64 (a2 * a1_0)))))) (fun _ hk => hk.2) (.slice Ao103 x112001_2.length co103)) (fun _ hk => trivial), by repeat (first | (with_reducible first | exact HB.out | apply bA | apply bN | apply bD | refine bS ?_ GE108.out | refine bS ?_ GE109.out | refine bS ?_ GE110.out | refine bS ?_ GE111.out) | exact HB.out)⟩
              · replace c98 := Bool.eq_false_iff.mpr c98
                subst c98
                rw [if_neg (show ¬ (false = true) by decide)] at H
                simp only [Option.some.injEq, Prod.mk.injEq] at H
                obtain ⟨rfl, rfl, rfl⟩ := H
                have hnb111 := NB111_108.out
                have hnc111 := NB108_111.out
                have hnb112 := NB111_109.out
                have hnc112 := NB109_111.out
                have hnb113 := NB111_110.out
                have hnc113 := NB110_111.out
                have z114 := bc2 BK111.out
                obtain ⟨Ao115, co115, eo115⟩ := Kd.R_slice HO_112001.out
                subst eo115
                go_wp2_with (first | ((with_reducible refine gate_callee (f := 75) rfl ?_); refine goesL_ (some 83) rfl rfl Try.func75 (by kernel_rfl) rfl #[.slice Ao115 x112001_2.length co115, .func (.func 76) #[] #[]] rfl (by (try simp only [List.map_toArray, List.map_cons, List.map_nil]); first | done | rfl) ?_; (with_reducible refine (impl_Term_75.calls (fun k_ => some k_ = (.slice Ao115 x112001_2.length co115 : Value).ownBlock) (.slice Ao115 x112001_2.length co115) x112001_2 t124 w _ ?side1 ?side2 A96.out).mono ?_); (case side1 => repeat (first | (with_reducible first | exact HB.out | apply bA | apply bN | apply bD | refine bS ?_ GE108.out | refine bS ?_ GE109.out | refine bS ?_ GE110.out | refine bS ?_ GE111.out) | exact HB.out)); (case side2 => exact Kd.R_tight rfl HO_112001.out); rintro e w116 ⟨rfl, hy0, hb, hkp⟩; refine ⟨_, rfl, ?_⟩; have n0_ := mk0 (Kd.R_reok rfl hy0 (fun k_ e_ => HO_112001.out.1 k_ e_)); have n1_ := mk0 (blk_kept (by (with_reducible repeat (first | refine kN ?_ _ | refine kD ?_ | refine kA ?_ _)); exact BK108.out) hkp (fun hs_ => (fun e_ => (Kd.R_ne HO_112001.out BK108.out (by decide)) e_) hs_)); have n2_ := mk0 (blk_kept (by (with_reducible repeat (first | refine kN ?_ _ | refine kD ?_ | refine kA ?_ _)); exact BK109.out) hkp (fun hs_ => (fun e_ => (Kd.R_ne HO_112001.out BK109.out (by decide)) e_) hs_)); have n3_ := mk0 (blk_kept (by (with_reducible repeat (first | refine kN ?_ _ | refine kD ?_ | refine kA ?_ _)); exact BK110.out) hkp (fun hs_ => (fun e_ => (Kd.R_ne HO_112001.out BK110.out (by decide)) e_) hs_)); have n4_ := mk0 (blk_kept (by (with_reducible repeat (first | refine kN ?_ _ | refine kD ?_ | refine kA ?_ _)); exact BK111.out) hkp (fun hs_ => (fun e_ => (Kd.R_ne HO_112001.out BK111.out (by decide)) e_) hs_)); have n5_ := mk0 (hb); clear HO_112001; clear BK108; clear BK109; clear BK110; clear BK111; clear HB; have HO_112001 := n0_; have BK108 := n1_; have BK109 := n2_; have BK110 := n3_; have BK111 := n4_; have HB := n5_; clear n0_ n1_ n2_ n3_ n4_ n5_; (try clear hb); (try clear hkp); (try clear hy0); have z117 := bc2 BK111.out) | ((with_reducible refine gate_callee (f := 20) rfl ?_); refine goesL_ (some 85) rfl rfl Try.func20 (by kernel_rfl) rfl #[.agg #[.int .i64 (wrap64 (a0_0 + (wrap64 (a2 * a1_0)))), .slice Ao115 t124.length co115]] rfl (by (try simp only [List.map_toArray, List.map_cons, List.map_nil]); first | done | (rw [show t124.length = x112001_2.length from (Kd.R_reads' HO_112001.out).1.symm] <;> rfl) | rfl | (simp only [List.length_drop, List.length_take]; rfl)) ?_; (with_reducible refine (impl_AffOk.calls k2 (wrap64 (a0_0 + (wrap64 (a2 * a1_0)))) _ _ t124 false _ ?side1 ?side2 A97.out).mono ?_); (case side1 => repeat (first | exact (Kd.R_reads' HO_112001.out).2.2 | (with_reducible refine cA ?_ _) | (with_reducible refine cN ?_ _) | (with_reducible refine cD ?_))); (case side2 => rw [show t124.length = x112001_2.length from (Kd.R_reads' HO_112001.out).1.symm]; exact (Kd.R_reads' HO_112001.out).2.1); rintro e w118 ⟨rfl, hb⟩; refine ⟨_, rfl, ?_⟩; have n0_ := mk0 (Kd.R_below (by (with_reducible repeat (first | apply Kd.R_alloc | apply Kd.R_drewN | apply Kd.R_drew)); exact HO_112001.out) hb); have n1_ := mk0 (blk_below (by (with_reducible repeat (first | refine kN ?_ _ | refine kD ?_ | refine kA ?_ _)); exact BK108.out) hb); have n2_ := mk0 (blk_below (by (with_reducible repeat (first | refine kN ?_ _ | refine kD ?_ | refine kA ?_ _)); exact BK109.out) hb); have n3_ := mk0 (blk_below (by (with_reducible repeat (first | refine kN ?_ _ | refine kD ?_ | refine kA ?_ _)); exact BK110.out) hb); have n4_ := mk0 (blk_below (by (with_reducible repeat (first | refine kN ?_ _ | refine kD ?_ | refine kA ?_ _)); exact BK111.out) hb); have n5_ := mk0 (below_step (by repeat (first | (with_reducible first | exact HB.out | apply bA | apply bN | apply bD | refine bS ?_ GE108.out | refine bS ?_ GE109.out | refine bS ?_ GE110.out | refine bS ?_ GE111.out) | exact HB.out)) hb); clear HO_112001; clear BK108; clear BK109; clear BK110; clear BK111; clear HB; have HO_112001 := n0_; have BK108 := n1_; have BK109 := n2_; have BK110 := n3_; have BK111 := n4_; have HB := n5_; clear n0_ n1_ n2_ n3_ n4_ n5_; (try clear hb); (try clear hb2); (try clear hk); (try clear hi); have hnb119 := NB110_108.out; have hnc119 := NB108_110.out; have hnb120 := NB110_109.out; have hnc120 := NB109_110.out; have z121 := bc2 BK110.out))
                refine bodyPost_ret (results_ct rfl _ _ gb110 28 #[.int .i64 0, .slice none 0 0] (0, 0) _ rfl (by (with_reducible repeat (first | refine kN ?_ _ | refine kD ?_ | refine kA ?_ _)); refine blk_put (cs := #[.int .i64 0, .slice none 0 0]) ?_ 1 _ rfl; (with_reducible repeat (first | refine kN ?_ _ | refine kD ?_ | refine kA ?_ _)); refine blk_put (cs := #[.int .i64 0, .slice none 0 0]) ?_ 0 _ rfl; (with_reducible repeat (first | refine kN ?_ _ | refine kD ?_ | refine kA ?_ _)); exact BK110.out) Try.underlying28 rfl (by kernel_rfl)) rfl ?_
                exact ⟨_, by first | rfl | (simp [errW_none, errW_some] <;> rfl) | (simp [*, errW_none, errW_some] <;> rfl), by first | exact Kd.R_nil _ _ _ _ _ | exact Kd.N_nil _ _ _ _ _ | exact Kd.V_nil _ _ _ _ _ | exact Kd.Q_nil _ _ _ _ _ | exact Kd.S_nil _ _ _ _ _, by repeat (first | (with_reducible first | exact HB.out | apply bA | apply bN | apply bD | refine bS ?_ GE108.out | refine bS ?_ GE109.out | refine bS ?_ GE110.out | refine bS ?_ GE111.out) | exact HB.out)⟩

/-! ### impl_AddA: function 11 -/
def impl_AddA.f (k : Nat) (a0_0 : Int) (l0_1 : List (S70)) (a1_0 : Int) (l1_1 : List (S70)) : Option (Int × (List (S70)) × Bool) := (impl_AffOk.f k a0_0 l0_1).bind fun t129 => (if t129 = true then ((impl_AffOk.f k a1_0 l1_1).bind fun t130 => (if t130 = true then ((impl_mix.f k a0_0 l0_1 a1_0 l1_1 1).bind fun bt131 => (some (bt131.1, bt131.2.1, bt131.2.2))) else (some (0, ([] : List (S70)), false)))) else (some (0, ([] : List (S70)), false)))
theorem impl_AddA.mono : ∀ a0 a1 a2 a3 k, LeO (impl_AddA.f k a0 a1 a2 a3) (impl_AddA.f (k + 1) a0 a1 a2 a3) := by
  intro a0 a1 a2 a3 k
  unfold impl_AddA.f
  repeat' first
      | (with_reducible exact impl_AffOk.mono _ _ _)
      | (with_reducible exact impl_mix.mono _ _ _ _ _ _)
      | (with_reducible exact LeO.refl _)
      | (with_reducible exact LeO.none _)
      | (with_reducible refine LeO.ite ?_ ?_)
      | (with_reducible refine LeO.bind ?_ (fun _ => ?_))
      | exact impl_AffOk.mono _ _ _
      | exact impl_mix.mono _ _ _ _ _ _
      | exact LeO.none _
      | refine LeO.ite ?_ ?_
      | refine LeO.bind ?_ (fun _ => ?_)
set_option maxHeartbeats 8000000 in
set_option maxRecDepth 100000 in
theorem impl_AddA.calls (k : Nat) (a0_0 : Int) (A0_1 : Option Addr) (c0_1 : Nat) (l0_1 : List (S70)) (a1_0 : Int) (A1_1 : Option Addr) (c1_1 : Nat) (l1_1 : List (S70)) (r1 : Int) (r2 : List (S70)) (r3 : Bool) (w : World) (hr0_1 : Kd.C k70 w A0_1 l0_1.length l0_1) (hc0_1 : l0_1.length ≤ c0_1) (hr1_1 : Kd.C k70 w A1_1 l1_1.length l1_1) (hc1_1 : l1_1.length ≤ c1_1) (h : impl_AddA.f k a0_0 l0_1 a1_0 l1_1 = some (r1, r2, r3)) :
    Calls Try.prog 11 #[.agg #[.int .i64 a0_0, .slice A0_1 l0_1.length c0_1], .agg #[.int .i64 a1_0, .slice A1_1 l1_1.length c1_1]] w fun e w' => ∃ v1_ : Value, e = .returned (.tuple #[.agg #[.int .i64 r1, v1_], .bool r3]) ∧ Kd.R k70 70 w' w.heap.size (fun _ => True) v1_ r2 ∧ Below w.heap.size w w' := by
  have hu28 := Try.underlying28
  have HR0_1 := mk0 hr0_1
  have HC0_1 := mk0 hc0_1
  clear hr0_1 hc0_1
  have HR1_1 := mk0 hr1_1
  have HC1_1 := mk0 hc1_1
  clear hr1_1 hc1_1
  have HB := mk0 (Below.refl w.heap.size w)
  have H : ((impl_AffOk.f k a0_0 l0_1).bind fun t129 => (if t129 = true then ((impl_AffOk.f k a1_0 l1_1).bind fun t130 => (if t130 = true then ((impl_mix.f k a0_0 l0_1 a1_0 l1_1 1).bind fun bt131 => (some (bt131.1, bt131.2.1, bt131.2.2))) else (some (0, ([] : List (S70)), false)))) else (some (0, ([] : List (S70)), false)))) = some (r1, r2, r3) := h
  clear h
  obtain ⟨t129, A3, H⟩ := bindA H
  by_cases c4 : t129 = true
  · subst c4
    rw [if_pos rfl] at H
    obtain ⟨t130, A5, H⟩ := bindA H
    by_cases c6 : t130 = true
    · subst c6
      rw [if_pos rfl] at H
      replace H := Option.bind_eq_some_iff.mp H
      obtain ⟨⟨t131, t132, t135⟩, A70, H⟩ := H
      replace H : (some (t131, t132, t135)) = some (r1, r2, r3) := H
      have A7 := mk0 A70
      clear A70
      simp only [Option.some.injEq, Prod.mk.injEq] at H
      obtain ⟨rfl, rfl, rfl⟩ := H
      go_enter Try.func11, Try.ntmps11
      go_wp2_with (first | ((with_reducible refine gate_dst (N := 2) rfl ?_); refine box_event ?hg (N := 2) ?hd (cs := #[.int .i64 a0_0, .slice A0_1 l0_1.length c0_1]) (t := 28) ?hr ?_; (case hd => rfl); (case hg => rfl); (case hr => first | (go_simp; done) | (go_simp; rfl)); intro gb126 hg w8 hbox hb; have q_ := qB (by repeat (first | (with_reducible first | exact HB.out | apply bA | apply bN | apply bD) | exact HB.out)) hb; have n0_ := mk0 (below_step q_ hb); have n1_ := mk0 (hbox); have n2_ := mk0 (below_size2 q_ hg); have n3_ := n2_; clear HB; have HB := n0_; have BK126 := n1_; have GW126 := n2_; have GE126 := n3_; clear q_ n0_ n1_ n2_ n3_; clear hb hbox hg) | ((with_reducible refine gate_dst (N := 3) rfl ?_); refine box_event ?hg (N := 3) ?hd (cs := #[.int .i64 a1_0, .slice A1_1 l1_1.length c1_1]) (t := 28) ?hr ?_; (case hd => rfl); (case hg => rfl); (case hr => first | (go_simp; done) | (go_simp; rfl)); intro gb127 hg w9 hbox hb; have q_ := qB (by repeat (first | (with_reducible first | exact HB.out | apply bA | apply bN | apply bD | refine bS ?_ GE126.out) | exact HB.out)) hb; have n0_ := mk0 (blk_below (by (with_reducible repeat (first | refine kN ?_ _ | refine kD ?_ | refine kA ?_ _)); exact BK126.out) hb); have n1_ := mk0 (below_step q_ hb); have n2_ := mk0 (hbox); have n3_ := mk0 (below_size2 q_ hg); have n4_ := n3_; have n5_ := mk0 ((by rw [hg]; exact Nat.ne_of_lt (blk_lt (by (with_reducible repeat (first | refine kN ?_ _ | refine kD ?_ | refine kA ?_ _)); exact BK126.out)) : gb126 ≠ gb127)); have n6_ := mk0 ((by rw [hg]; exact Nat.ne_of_gt (blk_lt (by (with_reducible repeat (first | refine kN ?_ _ | refine kD ?_ | refine kA ?_ _)); exact BK126.out)) : gb127 ≠ gb126)); clear BK126; clear HB; have BK126 := n0_; have HB := n1_; have BK127 := n2_; have GW127 := n3_; have GE127 := n4_; have NB126_127 := n5_; have NB127_126 := n6_; clear q_ n0_ n1_ n2_ n3_ n4_ n5_ n6_; clear hb hbox hg) | ((with_reducible refine gate_dst (N := 4) rfl ?_); refine box_event ?hg (N := 4) ?hd (cs := #[.int .i64 0, .slice none 0 0]) (t := 28) ?hr ?_; (case hd => rfl); (case hg => rfl); (case hr => first | (go_simp; done) | (go_simp; rfl)); intro gb128 hg w10 hbox hb; have q_ := qB (by repeat (first | (with_reducible first | exact HB.out | apply bA | apply bN | apply bD | refine bS ?_ GE126.out | refine bS ?_ GE127.out) | exact HB.out)) hb; have n0_ := mk0 (blk_below (by (with_reducible repeat (first | refine kN ?_ _ | refine kD ?_ | refine kA ?_ _)); exact BK126.out) hb); have n1_ := mk0 (blk_below (by (with_reducible repeat (first | refine kN ?_ _ | refine kD ?_ | refine kA ?_ _)); exact BK127.out) hb); have n2_ := mk0 (below_step q_ hb); have n3_ := mk0 (hbox); have n4_ := mk0 (below_size2 q_ hg); have n5_ := n4_; have n6_ := mk0 ((by rw [hg]; exact Nat.ne_of_lt (blk_lt (by (with_reducible repeat (first | refine kN ?_ _ | refine kD ?_ | refine kA ?_ _)); exact BK126.out)) : gb126 ≠ gb128)); have n7_ := mk0 ((by rw [hg]; exact Nat.ne_of_gt (blk_lt (by (with_reducible repeat (first | refine kN ?_ _ | refine kD ?_ | refine kA ?_ _)); exact BK126.out)) : gb128 ≠ gb126)); have n8_ := mk0 ((by rw [hg]; exact Nat.ne_of_lt (blk_lt (by (with_reducible repeat (first | refine kN ?_ _ | refine kD ?_ | refine kA ?_ _)); exact BK127.out)) : gb127 ≠ gb128)); have n9_ := mk0 ((by rw [hg]; exact Nat.ne_of_gt (blk_lt (by (with_reducible repeat (first | refine kN ?_ _ | refine kD ?_ | refine kA ?_ _)); exact BK127.out)) : gb128 ≠ gb127)); clear BK126; clear BK127; clear HB; have BK126 := n0_; have BK127 := n1_; have HB := n2_; have BK128 := n3_; have GW128 := n4_; have GE128 := n5_; have NB126_128 := n6_; have NB128_126 := n7_; have NB127_128 := n8_; have NB128_127 := n9_; clear q_ n0_ n1_ n2_ n3_ n4_ n5_ n6_ n7_ n8_ n9_; clear hb hbox hg; have hnb11 := NB126_127.out; have hnc11 := NB127_126.out; have hnb12 := NB126_128.out; have hnc12 := NB128_126.out; have z13 := bc2 BK126.out) | ((with_reducible refine gate_callee (f := 20) rfl ?_); refine goesL_ (some 7) rfl rfl Try.func20 (by kernel_rfl) rfl #[.agg #[.int .i64 a0_0, .slice A0_1 l0_1.length c0_1]] rfl (by (try simp only [List.map_toArray, List.map_cons, List.map_nil]); first | done | rfl) ?_; (with_reducible refine (impl_AffOk.calls k a0_0 _ _ l0_1 true _ ?side1 ?side2 A3.out).mono ?_); (case side1 => repeat (first | exact (Kd.C_below HR0_1.out HB.out) | (with_reducible refine cA ?_ _) | (with_reducible refine cN ?_ _) | (with_reducible refine cD ?_))); (case side2 => exact HC0_1.out); rintro e w14 ⟨rfl, hb⟩; refine ⟨_, rfl, ?_⟩; have n0_ := mk0 (blk_below (by (with_reducible repeat (first | refine kN ?_ _ | refine kD ?_ | refine kA ?_ _)); exact BK126.out) hb); have n1_ := mk0 (blk_below (by (with_reducible repeat (first | refine kN ?_ _ | refine kD ?_ | refine kA ?_ _)); exact BK127.out) hb); have n2_ := mk0 (blk_below (by (with_reducible repeat (first | refine kN ?_ _ | refine kD ?_ | refine kA ?_ _)); exact BK128.out) hb); have n3_ := mk0 (below_step (by repeat (first | (with_reducible first | exact HB.out | apply bA | apply bN | apply bD | refine bS ?_ GE126.out | refine bS ?_ GE127.out | refine bS ?_ GE128.out) | exact HB.out)) hb); clear BK126; clear BK127; clear BK128; clear HB; have BK126 := n0_; have BK127 := n1_; have BK128 := n2_; have HB := n3_; clear n0_ n1_ n2_ n3_; (try clear hb); (try clear hb2); (try clear hk); (try clear hi); have hnb15 := NB127_128.out; have hnc15 := NB128_127.out; have z16 := bc2 BK127.out) | (go_at_call 20; (with_reducible refine (impl_AffOk.calls k a1_0 _ _ l1_1 true _ ?side1 ?side2 A5.out).mono ?_); (case side1 => repeat (first | exact (Kd.C_below HR1_1.out HB.out) | (with_reducible refine cA ?_ _) | (with_reducible refine cN ?_ _) | (with_reducible refine cD ?_))); (case side2 => exact HC1_1.out); rintro e w17 ⟨rfl, hb⟩; have n0_ := mk0 (blk_below (by (with_reducible repeat (first | refine kN ?_ _ | refine kD ?_ | refine kA ?_ _)); exact BK126.out) hb); have n1_ := mk0 (blk_below (by (with_reducible repeat (first | refine kN ?_ _ | refine kD ?_ | refine kA ?_ _)); exact BK127.out) hb); have n2_ := mk0 (blk_below (by (with_reducible repeat (first | refine kN ?_ _ | refine kD ?_ | refine kA ?_ _)); exact BK128.out) hb); have n3_ := mk0 (below_step (by repeat (first | (with_reducible first | exact HB.out | apply bA | apply bN | apply bD | refine bS ?_ GE126.out | refine bS ?_ GE127.out | refine bS ?_ GE128.out) | exact HB.out)) hb); clear BK126; clear BK127; clear BK128; clear HB; have BK126 := n0_; have BK127 := n1_; have BK128 := n2_; have HB := n3_; clear n0_ n1_ n2_ n3_; (try clear hb); (try clear hb2); (try clear hk); (try clear hi); have z18 := bc2 BK126.out; have z19 := bc2 BK127.out) | ((with_reducible refine gate_callee (f := 40) rfl ?_); refine goesL_ (some 17) rfl rfl Try.func40 (by kernel_rfl) rfl #[.agg #[.int .i64 a0_0, .slice A0_1 l0_1.length c0_1], .agg #[.int .i64 a1_0, .slice A1_1 l1_1.length c1_1], .int .i64 1] rfl (by (try simp only [List.map_toArray, List.map_cons, List.map_nil]); first | done | rfl) ?_; (with_reducible refine (impl_mix.calls k a0_0 _ _ l0_1 a1_0 _ _ l1_1 1 t131 t132 t135 _ ?side1 ?side2 ?side3 ?side4 A7.out).mono ?_); (case side1 => repeat (first | exact (Kd.C_below HR0_1.out HB.out) | (with_reducible refine cA ?_ _) | (with_reducible refine cN ?_ _) | (with_reducible refine cD ?_))); (case side2 => exact HC0_1.out); (case side3 => repeat (first | exact (Kd.C_below HR1_1.out HB.out) | (with_reducible refine cA ?_ _) | (with_reducible refine cN ?_ _) | (with_reducible refine cD ?_))); (case side4 => exact HC1_1.out); rintro e w20 ⟨v133, rfl, ho0, hb⟩; refine ⟨_, rfl, ?_⟩; have q_ := qB (by repeat (first | (with_reducible first | exact HB.out | apply bA | apply bN | apply bD | refine bS ?_ GE126.out | refine bS ?_ GE127.out | refine bS ?_ GE128.out) | exact HB.out)) hb; have n0_ := mk0 (Kd.R_lower ho0 (below_size q_)); have n1_ := mk0 (blk_below (by (with_reducible repeat (first | refine kN ?_ _ | refine kD ?_ | refine kA ?_ _)); exact BK126.out) hb); have n2_ := mk0 (blk_below (by (with_reducible repeat (first | refine kN ?_ _ | refine kD ?_ | refine kA ?_ _)); exact BK127.out) hb); have n3_ := mk0 (blk_below (by (with_reducible repeat (first | refine kN ?_ _ | refine kD ?_ | refine kA ?_ _)); exact BK128.out) hb); have n4_ := mk0 (below_step q_ hb); clear BK126; clear BK127; clear BK128; clear HB; have HO134 := n0_; have BK126 := n1_; have BK127 := n2_; have BK128 := n3_; have HB := n4_; clear q_ n0_ n1_ n2_ n3_ n4_; (try clear hb); (try clear hb2); (try clear hk); (try clear hi); (try clear ho0); have z21 := bc2 BK128.out; obtain ⟨Ao22, co22, eo22⟩ := Kd.R_slice HO134.out; subst eo22))
      refine bodyPost_ret (results_ct rfl _ _ gb128 28 #[.int .i64 t131, .slice Ao22 t132.length co22] (0, 0) _ rfl (by (with_reducible repeat (first | refine kN ?_ _ | refine kD ?_ | refine kA ?_ _)); refine blk_put (cs := #[.int .i64 t131, .slice none 0 0]) ?_ 1 _ rfl; (with_reducible repeat (first | refine kN ?_ _ | refine kD ?_ | refine kA ?_ _)); refine blk_put (cs := #[.int .i64 0, .slice none 0 0]) ?_ 0 _ rfl; (with_reducible repeat (first | refine kN ?_ _ | refine kD ?_ | refine kA ?_ _)); exact BK128.out) Try.underlying28 rfl (by kernel_rfl)) rfl ?_
      exact ⟨_, by first | rfl | (simp [errW_none, errW_some] <;> rfl) | (simp [*, errW_none, errW_some] <;> rfl), by (with_reducible repeat (first | apply Kd.R_alloc | apply Kd.R_drewN | apply Kd.R_drew)); exact Kd.R_mono (Kd.R_far (p := ⟨gb128, 1, none⟩) (Kd.R_far (p := ⟨gb128, 0, none⟩) (Kd.R_types HO134.out BK128.out (by decide)) (fun _ hk => hk.2) (.int .i64 t131)) (fun _ hk => hk.2) (.slice Ao22 t132.length co22)) (fun _ hk => trivial), by repeat (first | (with_reducible first | exact HB.out | apply bA | apply bN | apply bD | refine bS ?_ GE126.out | refine bS ?_ GE127.out | refine bS ?_ GE128.out) | exact HB.out)⟩
    · replace c6 := Bool.eq_false_iff.mpr c6
      subst c6
      rw [if_neg (show ¬ (false = true) by decide)] at H
      simp only [Option.some.injEq, Prod.mk.injEq] at H
      obtain ⟨rfl, rfl, rfl⟩ := H
      go_enter Try.func11, Try.ntmps11
      go_wp2_with (first | ((with_reducible refine gate_dst (N := 2) rfl ?_); refine box_event ?hg (N := 2) ?hd (cs := #[.int .i64 a0_0, .slice A0_1 l0_1.length c0_1]) (t := 28) ?hr ?_; (case hd => rfl); (case hg => rfl); (case hr => first | (go_simp; done) | (go_simp; rfl)); intro gb126 hg w23 hbox hb; have q_ := qB (by repeat (first | (with_reducible first | exact HB.out | apply bA | apply bN | apply bD) | exact HB.out)) hb; have n0_ := mk0 (below_step q_ hb); have n1_ := mk0 (hbox); have n2_ := mk0 (below_size2 q_ hg); have n3_ := n2_; clear HB; have HB := n0_; have BK126 := n1_; have GW126 := n2_; have GE126 := n3_; clear q_ n0_ n1_ n2_ n3_; clear hb hbox hg) | ((with_reducible refine gate_dst (N := 3) rfl ?_); refine box_event ?hg (N := 3) ?hd (cs := #[.int .i64 a1_0, .slice A1_1 l1_1.length c1_1]) (t := 28) ?hr ?_; (case hd => rfl); (case hg => rfl); (case hr => first | (go_simp; done) | (go_simp; rfl)); intro gb127 hg w24 hbox hb; have q_ := qB (by repeat (first | (with_reducible first | exact HB.out | apply bA | apply bN | apply bD | refine bS ?_ GE126.out) | exact HB.out)) hb; have n0_ := mk0 (blk_below (by (with_reducible repeat (first | refine kN ?_ _ | refine kD ?_ | refine kA ?_ _)); exact BK126.out) hb); have n1_ := mk0 (below_step q_ hb); have n2_ := mk0 (hbox); have n3_ := mk0 (below_size2 q_ hg); have n4_ := n3_; have n5_ := mk0 ((by rw [hg]; exact Nat.ne_of_lt (blk_lt (by (with_reducible repeat (first | refine kN ?_ _ | refine kD ?_ | refine kA ?_ _)); exact BK126.out)) : gb126 ≠ gb127)); have n6_ := mk0 ((by rw [hg]; exact Nat.ne_of_gt (blk_lt (by (with_reducible repeat (first | refine kN ?_ _ | refine kD ?_ | refine kA ?_ _)); exact BK126.out)) : gb127 ≠ gb126)); clear BK126; clear HB; have BK126 := n0_; have HB := n1_; have BK127 := n2_; have GW127 := n3_; have GE127 := n4_; have NB126_127 := n5_; have NB127_126 := n6_; clear q_ n0_ n1_ n2_ n3_ n4_ n5_ n6_; clear hb hbox hg) | ((with_reducible refine gate_dst (N := 4) rfl ?_); refine box_event ?hg (N := 4) ?hd (cs := #[.int .i64 0, .slice none 0 0]) (t := 28) ?hr ?_; (case hd => rfl); (case hg => rfl); (case hr => first | (go_simp; done) | (go_simp; rfl)); intro gb128 hg w25 hbox hb; have q_ := qB (by repeat (first | (with_reducible first | exact HB.out | apply bA | apply bN | apply bD | refine bS ?_ GE126.out | refine bS ?_ GE127.out) | exact HB.out)) hb; have n0_ := mk0 (blk_below (by (with_reducible repeat (first | refine kN ?_ _ | refine kD ?_ | refine kA ?_ _)); exact BK126.out) hb); have n1_ := mk0 (blk_below (by (with_reducible repeat (first | refine kN ?_ _ | refine kD ?_ | refine kA ?_ _)); exact BK127.out) hb); have n2_ := mk0 (below_step q_ hb); have n3_ := mk0 (hbox); have n4_ := mk0 (below_size2 q_ hg); have n5_ := n4_; have n6_ := mk0 ((by rw [hg]; exact Nat.ne_of_lt (blk_lt (by (with_reducible repeat (first | refine kN ?_ _ | refine kD ?_ | refine kA ?_ _)); exact BK126.out)) : gb126 ≠ gb128)); have n7_ := mk0 ((by rw [hg]; exact Nat.ne_of_gt (blk_lt (by (with_reducible repeat (first | refine kN ?_ _ | refine kD ?_ | refine kA ?_ _)); exact BK126.out)) : gb128 ≠ gb126)); have n8_ := mk0 ((by rw [hg]; exact Nat.ne_of_lt (blk_lt (by (with_reducible repeat (first | refine kN ?_ _ | refine kD ?_ | refine kA ?_ _)); exact BK127.out)) : gb127 ≠ gb128)); have n9_ := mk0 ((by rw [hg]; exact Nat.ne_of_gt (blk_lt (by (with_reducible repeat (first | refine kN ?_ _ | refine kD ?_ | refine kA ?_ _)); exact BK127.out)) : gb128 ≠ gb127)); clear BK126; clear BK127; clear HB; have BK126 := n0_; have BK127 := n1_; have HB := n2_; have BK128 := n3_; have GW128 := n4_; have GE128 := n5_; have NB126_128 := n6_; have NB128_126 := n7_; have NB127_128 := n8_; have NB128_127 := n9_; clear q_ n0_ n1_ n2_ n3_ n4_ n5_ n6_ n7_ n8_ n9_; clear hb hbox hg; have hnb26 := NB126_127.out; have hnc26 := NB127_126.out; have hnb27 := NB126_128.out; have hnc27 := NB128_126.out; have z28 := bc2 BK126.out) | ((with_reducible refine gate_callee (f := 20) rfl ?_); refine goesL_ (some 7) rfl rfl Try.func20 (by kernel_rfl) rfl #[.agg #[.int .i64 a0_0, .slice A0_1 l0_1.length c0_1]] rfl (by (try simp only [List.map_toArray, List.map_cons, List.map_nil]); first | done | rfl) ?_; (with_reducible refine (impl_AffOk.calls k a0_0 _ _ l0_1 true _ ?side1 ?side2 A3.out).mono ?_); (case side1 => repeat (first | exact (Kd.C_below HR0_1.out HB.out) | (with_reducible refine cA ?_ _) | (with_reducible refine cN ?_ _) | (with_reducible refine cD ?_))); (case side2 => exact HC0_1.out); rintro e w29 ⟨rfl, hb⟩; refine ⟨_, rfl, ?_⟩; have n0_ := mk0 (blk_below (by (with_reducible repeat (first | refine kN ?_ _ | refine kD ?_ | refine kA ?_ _)); exact BK126.out) hb); have n1_ := mk0 (blk_below (by (with_reducible repeat (first | refine kN ?_ _ | refine kD ?_ | refine kA ?_ _)); exact BK127.out) hb); have n2_ := mk0 (blk_below (by (with_reducible repeat (first | refine kN ?_ _ | refine kD ?_ | refine kA ?_ _)); exact BK128.out) hb); have n3_ := mk0 (below_step (by repeat (first | (with_reducible first | exact HB.out | apply bA | apply bN | apply bD | refine bS ?_ GE126.out | refine bS ?_ GE127.out | refine bS ?_ GE128.out) | exact HB.out)) hb); clear BK126; clear BK127; clear BK128; clear HB; have BK126 := n0_; have BK127 := n1_; have BK128 := n2_; have HB := n3_; clear n0_ n1_ n2_ n3_; (try clear hb); (try clear hb2); (try clear hk); (try clear hi); have hnb30 := NB127_128.out; have hnc30 := NB128_127.out; have z31 := bc2 BK127.out) | (go_at_call 20; (with_reducible refine (impl_AffOk.calls k a1_0 _ _ l1_1 false _ ?side1 ?side2 A5.out).mono ?_); (case side1 => repeat (first | exact (Kd.C_below HR1_1.out HB.out) | (with_reducible refine cA ?_ _) | (with_reducible refine cN ?_ _) | (with_reducible refine cD ?_))); (case side2 => exact HC1_1.out); rintro e w32 ⟨rfl, hb⟩; have n0_ := mk0 (blk_below (by (with_reducible repeat (first | refine kN ?_ _ | refine kD ?_ | refine kA ?_ _)); exact BK126.out) hb); have n1_ := mk0 (blk_below (by (with_reducible repeat (first | refine kN ?_ _ | refine kD ?_ | refine kA ?_ _)); exact BK127.out) hb); have n2_ := mk0 (blk_below (by (with_reducible repeat (first | refine kN ?_ _ | refine kD ?_ | refine kA ?_ _)); exact BK128.out) hb); have n3_ := mk0 (below_step (by repeat (first | (with_reducible first | exact HB.out | apply bA | apply bN | apply bD | refine bS ?_ GE126.out | refine bS ?_ GE127.out | refine bS ?_ GE128.out) | exact HB.out)) hb); clear BK126; clear BK127; clear BK128; clear HB; have BK126 := n0_; have BK127 := n1_; have BK128 := n2_; have HB := n3_; clear n0_ n1_ n2_ n3_; (try clear hb); (try clear hb2); (try clear hk); (try clear hi); have z33 := bc2 BK128.out))
      refine bodyPost_ret (results_ct rfl _ _ gb128 28 #[.int .i64 0, .slice none 0 0] (0, 0) _ rfl (by (with_reducible repeat (first | refine kN ?_ _ | refine kD ?_ | refine kA ?_ _)); refine blk_put (cs := #[.int .i64 0, .slice none 0 0]) ?_ 1 _ rfl; (with_reducible repeat (first | refine kN ?_ _ | refine kD ?_ | refine kA ?_ _)); refine blk_put (cs := #[.int .i64 0, .slice none 0 0]) ?_ 0 _ rfl; (with_reducible repeat (first | refine kN ?_ _ | refine kD ?_ | refine kA ?_ _)); exact BK128.out) Try.underlying28 rfl (by kernel_rfl)) rfl ?_
      exact ⟨_, by first | rfl | (simp [errW_none, errW_some] <;> rfl) | (simp [*, errW_none, errW_some] <;> rfl), by first | exact Kd.R_nil _ _ _ _ _ | exact Kd.N_nil _ _ _ _ _ | exact Kd.V_nil _ _ _ _ _ | exact Kd.Q_nil _ _ _ _ _ | exact Kd.S_nil _ _ _ _ _, by repeat (first | (with_reducible first | exact HB.out | apply bA | apply bN | apply bD | refine bS ?_ GE126.out | refine bS ?_ GE127.out | refine bS ?_ GE128.out) | exact HB.out)⟩
  · replace c4 := Bool.eq_false_iff.mpr c4
    subst c4
    rw [if_neg (show ¬ (false = true) by decide)] at H
    simp only [Option.some.injEq, Prod.mk.injEq] at H
    obtain ⟨rfl, rfl, rfl⟩ := H
    go_enter Try.func11, Try.ntmps11
    go_wp2_with (first | ((with_reducible refine gate_dst (N := 2) rfl ?_); refine box_event ?hg (N := 2) ?hd (cs := #[.int .i64 a0_0, .slice A0_1 l0_1.length c0_1]) (t := 28) ?hr ?_; (case hd => rfl); (case hg => rfl); (case hr => first | (go_simp; done) | (go_simp; rfl)); intro gb126 hg w34 hbox hb; have q_ := qB (by repeat (first | (with_reducible first | exact HB.out | apply bA | apply bN | apply bD) | exact HB.out)) hb; have n0_ := mk0 (below_step q_ hb); have n1_ := mk0 (hbox); have n2_ := mk0 (below_size2 q_ hg); have n3_ := n2_; clear HB; have HB := n0_; have BK126 := n1_; have GW126 := n2_; have GE126 := n3_; clear q_ n0_ n1_ n2_ n3_; clear hb hbox hg) | ((with_reducible refine gate_dst (N := 3) rfl ?_); refine box_event ?hg (N := 3) ?hd (cs := #[.int .i64 a1_0, .slice A1_1 l1_1.length c1_1]) (t := 28) ?hr ?_; (case hd => rfl); (case hg => rfl); (case hr => first | (go_simp; done) | (go_simp; rfl)); intro gb127 hg w35 hbox hb; have q_ := qB (by repeat (first | (with_reducible first | exact HB.out | apply bA | apply bN | apply bD | refine bS ?_ GE126.out) | exact HB.out)) hb; have n0_ := mk0 (blk_below (by (with_reducible repeat (first | refine kN ?_ _ | refine kD ?_ | refine kA ?_ _)); exact BK126.out) hb); have n1_ := mk0 (below_step q_ hb); have n2_ := mk0 (hbox); have n3_ := mk0 (below_size2 q_ hg); have n4_ := n3_; have n5_ := mk0 ((by rw [hg]; exact Nat.ne_of_lt (blk_lt (by (with_reducible repeat (first | refine kN ?_ _ | refine kD ?_ | refine kA ?_ _)); exact BK126.out)) : gb126 ≠ gb127)); have n6_ := mk0 ((by rw [hg]; exact Nat.ne_of_gt (blk_lt (by (with_reducible repeat (first | refine kN ?_ _ | refine kD ?_ | refine kA ?_ _)); exact BK126.out)) : gb127 ≠ gb126)); clear BK126; clear HB; have BK126 := n0_; have HB := n1_; have BK127 := n2_; have GW127 := n3_; have GE127 := n4_; have NB126_127 := n5_; have NB127_126 := n6_; clear q_ n0_ n1_ n2_ n3_ n4_ n5_ n6_; clear hb hbox hg) | ((with_reducible refine gate_dst (N := 4) rfl ?_); refine box_event ?hg (N := 4) ?hd (cs := #[.int .i64 0, .slice none 0 0]) (t := 28) ?hr ?_; (case hd => rfl); (case hg => rfl); (case hr => first | (go_simp; done) | (go_simp; rfl)); intro gb128 hg w36 hbox hb; have q_ := qB (by repeat (first | (with_reducible first | exact HB.out | apply bA | apply bN | apply bD | refine bS ?_ GE126.out | refine bS ?_ GE127.out) | exact HB.out)) hb; have n0_ := mk0 (blk_below (by (with_reducible repeat (first | refine kN ?_ _ | refine kD ?_ | refine kA ?_ _)); exact BK126.out) hb); have n1_ := mk0 (blk_below (by (with_reducible repeat (first | refine kN ?_ _ | refine kD ?_ | refine kA ?_ _)); exact BK127.out) hb); have n2_ := mk0 (below_step q_ hb); have n3_ := mk0 (hbox); have n4_ := mk0 (below_size2 q_ hg); have n5_ := n4_; have n6_ := mk0 ((by rw [hg]; exact Nat.ne_of_lt (blk_lt (by (with_reducible repeat (first | refine kN ?_ _ | refine kD ?_ | refine kA ?_ _)); exact BK126.out)) : gb126 ≠ gb128)); have n7_ := mk0 ((by rw [hg]; exact Nat.ne_of_gt (blk_lt (by (with_reducible repeat (first | refine kN ?_ _ | refine kD ?_ | refine kA ?_ _)); exact BK126.out)) : gb128 ≠ gb126)); have n8_ := mk0 ((by rw [hg]; exact Nat.ne_of_lt (blk_lt (by (with_reducible repeat (first | refine kN ?_ _ | refine kD ?_ | refine kA ?_ _)); exact BK127.out)) : gb127 ≠ gb128)); have n9_ := mk0 ((by rw [hg]; exact Nat.ne_of_gt (blk_lt (by (with_reducible repeat (first | refine kN ?_ _ | refine kD ?_ | refine kA ?_ _)); exact BK127.out)) : gb128 ≠ gb127)); clear BK126; clear BK127; clear HB; have BK126 := n0_; have BK127 := n1_; have HB := n2_; have BK128 := n3_; have GW128 := n4_; have GE128 := n5_; have NB126_128 := n6_; have NB128_126 := n7_; have NB127_128 := n8_; have NB128_127 := n9_; clear q_ n0_ n1_ n2_ n3_ n4_ n5_ n6_ n7_ n8_ n9_; clear hb hbox hg; have hnb37 := NB126_127.out; have hnc37 := NB127_126.out; have hnb38 := NB126_128.out; have hnc38 := NB128_126.out; have z39 := bc2 BK126.out) | ((with_reducible refine gate_callee (f := 20) rfl ?_); refine goesL_ (some 7) rfl rfl Try.func20 (by kernel_rfl) rfl #[.agg #[.int .i64 a0_0, .slice A0_1 l0_1.length c0_1]] rfl (by (try simp only [List.map_toArray, List.map_cons, List.map_nil]); first | done | rfl) ?_; (with_reducible refine (impl_AffOk.calls k a0_0 _ _ l0_1 false _ ?side1 ?side2 A3.out).mono ?_); (case side1 => repeat (first | exact (Kd.C_below HR0_1.out HB.out) | (with_reducible refine cA ?_ _) | (with_reducible refine cN ?_ _) | (with_reducible refine cD ?_))); (case side2 => exact HC0_1.out); rintro e w40 ⟨rfl, hb⟩; refine ⟨_, rfl, ?_⟩; have n0_ := mk0 (blk_below (by (with_reducible repeat (first | refine kN ?_ _ | refine kD ?_ | refine kA ?_ _)); exact BK126.out) hb); have n1_ := mk0 (blk_below (by (with_reducible repeat (first | refine kN ?_ _ | refine kD ?_ | refine kA ?_ _)); exact BK127.out) hb); have n2_ := mk0 (blk_below (by (with_reducible repeat (first | refine kN ?_ _ | refine kD ?_ | refine kA ?_ _)); exact BK128.out) hb); have n3_ := mk0 (below_step (by repeat (first | (with_reducible first | exact HB.out | apply bA | apply bN | apply bD | refine bS ?_ GE126.out | refine bS ?_ GE127.out | refine bS ?_ GE128.out) | exact HB.out)) hb); clear BK126; clear BK127; clear BK128; clear HB; have BK126 := n0_; have BK127 := n1_; have BK128 := n2_; have HB := n3_; clear n0_ n1_ n2_ n3_; (try clear hb); (try clear hb2); (try clear hk); (try clear hi); have hnb41 := NB128_127.out; have hnc41 := NB127_128.out; have z42 := bc2 BK128.out))
    refine bodyPost_ret (results_ct rfl _ _ gb128 28 #[.int .i64 0, .slice none 0 0] (0, 0) _ rfl (by (with_reducible repeat (first | refine kN ?_ _ | refine kD ?_ | refine kA ?_ _)); refine blk_put (cs := #[.int .i64 0, .slice none 0 0]) ?_ 1 _ rfl; (with_reducible repeat (first | refine kN ?_ _ | refine kD ?_ | refine kA ?_ _)); refine blk_put (cs := #[.int .i64 0, .slice none 0 0]) ?_ 0 _ rfl; (with_reducible repeat (first | refine kN ?_ _ | refine kD ?_ | refine kA ?_ _)); exact BK128.out) Try.underlying28 rfl (by kernel_rfl)) rfl ?_
    exact ⟨_, by first | rfl | (simp [errW_none, errW_some] <;> rfl) | (simp [*, errW_none, errW_some] <;> rfl), by first | exact Kd.R_nil _ _ _ _ _ | exact Kd.N_nil _ _ _ _ _ | exact Kd.V_nil _ _ _ _ _ | exact Kd.Q_nil _ _ _ _ _ | exact Kd.S_nil _ _ _ _ _, by repeat (first | (with_reducible first | exact HB.out | apply bA | apply bN | apply bD | refine bS ?_ GE126.out | refine bS ?_ GE127.out | refine bS ?_ GE128.out) | exact HB.out)⟩
end Go.Proofs.Ytmomablfmhkppaa.PFnAffs
