-- The functions of a law as plain Lean functions, each with its contract: written by a program of this session.
import Derived.Test.YtmomablfmhkppaaPFnExactSubAx0
import Derived.Test.YtmomablfmhkppaaPFnExactSubAx3
namespace Go.Proofs.Ytmomablfmhkppaa.PFnExactSubA
open Go.RowKit Go.Proofs.YtmomablfmhkppaaW.PrintWords Go.Proofs.YtmomablfmhkppaaW.PrintLast Go.Proofs.YtmomablfmhkppaaW.PrintMore
attribute [local go_sem] max2_int min2_int max_two min_two max_three min_three max_four min_four   -- for this text's walks alone
set_option linter.unusedVariables false
set_option linter.unusedSimpArgs false

/-! ### spec_l8Names: function 73 -/
mutual
def spec_l8Names.l0 : Nat → List ByteArray → Int → Int → List (S70) → Int → List (S70) → Option (List ByteArray)
 | 0, _, _, _, _, _, _ => none
 | k + 1, x5, x6, x178000, x178001, x179000, x179001 => if x6 < (x178001.length : Int) then (if 0 ≤ x6 then ((spec_l4Put.f k x5 ((rd_T70 x178001 x6).f0)).bind fun t183 => (spec_l8Names.l0 k t183 (wrap64 (x6 + 1)) x178000 x178001 x179000 x179001)) else (none)) else (spec_l8Names.l1 k x5 0 x179000 x179001)
def spec_l8Names.l1 : Nat → List ByteArray → Int → Int → List (S70) → Option (List ByteArray)
 | 0, _, _, _, _ => none
 | k + 1, x5, x7, x179000, x179001 => if x7 < (x179001.length : Int) then (if 0 ≤ x7 then ((spec_l4Put.f k x5 ((rd_T70 x179001 x7).f0)).bind fun t187 => (spec_l8Names.l1 k t187 (wrap64 (x7 + 1)) x179000 x179001)) else (none)) else (some x5)
end
def spec_l8Names.f (k : Nat) (a0_0 : Int) (l0_1 : List (S70)) (a1_0 : Int) (l1_1 : List (S70)) : Option (List ByteArray) := spec_l8Names.l0 k (([] : List ByteArray)) 0 a0_0 l0_1 a1_0 l1_1
theorem spec_l8Names.mono_l : ∀ k, (∀ y0 y1 y2 y3 y4 y5, LeO (spec_l8Names.l0 k y0 y1 y2 y3 y4 y5) (spec_l8Names.l0 (k + 1) y0 y1 y2 y3 y4 y5)) ∧ (∀ y0 y1 y2 y3, LeO (spec_l8Names.l1 k y0 y1 y2 y3) (spec_l8Names.l1 (k + 1) y0 y1 y2 y3))
 | 0 => ⟨fun _ _ _ _ _ _ r h => by simp [spec_l8Names.l0] at h, fun _ _ _ _ r h => by simp [spec_l8Names.l1] at h⟩
 | k + 1 => by
  obtain ⟨ih0, ih1⟩ := spec_l8Names.mono_l k
  refine ⟨?_, ?_⟩
  ·intro y0 y1 y2 y3 y4 y5
   unfold spec_l8Names.l0
   repeat' first
   | (with_reducible exact ih0 _ _ _ _ _ _)
   | (with_reducible exact ih1 _ _ _ _)
   | (with_reducible exact spec_l4Put.mono _ _ _)
   | (with_reducible exact LeO.refl _)
   | (with_reducible exact LeO.none _)
   | (with_reducible refine LeO.ite ?_ ?_)
   | (with_reducible refine LeO.bind ?_ (fun _ => ?_))
   | exact ih0 _ _ _ _ _ _
   | exact ih1 _ _ _ _
   | exact spec_l4Put.mono _ _ _
   | exact LeO.none _
   | refine LeO.ite ?_ ?_
   | refine LeO.bind ?_ (fun _ => ?_)
  ·intro y0 y1 y2 y3
   unfold spec_l8Names.l1
   repeat' first
   | (with_reducible exact ih0 _ _ _ _ _ _)
   | (with_reducible exact ih1 _ _ _ _)
   | (with_reducible exact spec_l4Put.mono _ _ _)
   | (with_reducible exact LeO.refl _)
   | (with_reducible exact LeO.none _)
   | (with_reducible refine LeO.ite ?_ ?_)
   | (with_reducible refine LeO.bind ?_ (fun _ => ?_))
   | exact ih0 _ _ _ _ _ _
   | exact ih1 _ _ _ _
   | exact spec_l4Put.mono _ _ _
   | exact LeO.none _
   | refine LeO.ite ?_ ?_
   | refine LeO.bind ?_ (fun _ => ?_)
theorem spec_l8Names.mono : ∀ a0 a1 a2 a3 k, LeO (spec_l8Names.f k a0 a1 a2 a3) (spec_l8Names.f (k + 1) a0 a1 a2 a3) := by
 intro a0 a1 a2 a3 k
 obtain ⟨ih0, ih1⟩ := spec_l8Names.mono_l k
 unfold spec_l8Names.f
 repeat' first
   | (with_reducible exact ih0 _ _ _ _ _ _)
   | (with_reducible exact ih1 _ _ _ _)
   | (with_reducible exact spec_l4Put.mono _ _ _)
   | (with_reducible exact LeO.refl _)
   | (with_reducible exact LeO.none _)
   | (with_reducible refine LeO.ite ?_ ?_)
   | (with_reducible refine LeO.bind ?_ (fun _ => ?_))
   | exact ih0 _ _ _ _ _ _
   | exact ih1 _ _ _ _
   | exact spec_l4Put.mono _ _ _
   | exact LeO.none _
   | refine LeO.ite ?_ ?_
   | refine LeO.bind ?_ (fun _ => ?_)
set_option maxHeartbeats 8000000 in
set_option maxRecDepth 100000 in
theorem spec_l8Names.calls (k : Nat) (a0_0 : Int) (A0_1 : Option Addr) (c0_1 : Nat) (l0_1 : List (S70)) (a1_0 : Int) (A1_1 : Option Addr) (c1_1 : Nat) (l1_1 : List (S70)) (r : List ByteArray) (w : World) (hr0_1 : Kd.C k70 w A0_1 l0_1.length l0_1) (hc0_1 : l0_1.length ≤ c0_1) (hr1_1 : Kd.C k70 w A1_1 l1_1.length l1_1) (hc1_1 : l1_1.length ≤ c1_1) (h : spec_l8Names.f k a0_0 l0_1 a1_0 l1_1 = some r) :
  Calls Try.prog 73 #[.agg #[.int .i64 a0_0, .slice A0_1 l0_1.length c0_1], .agg #[.int .i64 a1_0, .slice A1_1 l1_1.length c1_1]] w fun e w' => ∃ v0_ : Value, e = .returned (v0_) ∧ Kd.R Kd.string 9 w' w.heap.size (fun _ => True) v0_ r ∧ Below w.heap.size w w' := by
 have hu28 := Try.underlying28
 have HR0_1 := mk0 hr0_1
 have HC0_1 := mk0 hc0_1
 clear hr0_1 hc0_1
 have HR1_1 := mk0 hr1_1
 have HC1_1 := mk0 hc1_1
 clear hr1_1 hc1_1
 have HB := mk0 (Below.refl w.heap.size w)
 have H : (spec_l8Names.l0 k (([] : List ByteArray)) 0 a0_0 l0_1 a1_0 l1_1) = some r := h
 clear h
 obtain ⟨y179,hy179⟩ : ∃ y_ : List ByteArray,y_ = (([] : List ByteArray)) := ⟨_,rfl⟩
 replace H : (spec_l8Names.l0 k y179 0 a0_0 l0_1 a1_0 l1_1) = some r := by first|(rw [hy179];with_reducible exact H)|(have H2_ := (Option.bind_some _ _).symm.trans H;rw [hy179];with_reducible exact H2_)|(have H2_ := (Option.bind_some _ _).symm.trans H;with_reducible exact H2_)|with_reducible exact H|(rw [hy179];exact H)|exact H
 have Ny179 := mk0 hy179
 clear hy179
 have H' := mk0 H
 clear H
 go_enter Try.func73,Try.ntmps73
 go_wp2_with (first|((with_reducible refine gate_dst (N := 2) rfl ?_);refine box_event ?hg (N := 2) ?hd (cs := #[.int .i64 a0_0,.slice A0_1 l0_1.length c0_1]) (t := 28) ?hr ?_;(case hd => rfl);(case hg => rfl);(case hr => first|(go_simp;done)|(go_simp;rfl));intro gb177 hg w3 hbox hb;have q_ := qB (by repeat (first|(with_reducible first|exact HB.out|apply bA|apply bN|apply bD)|exact HB.out)) hb;have n0_ := mk0 (below_step q_ hb);have n1_ := mk0 (hbox);have n2_ := mk0 (below_size2 q_ hg);have n3_ := n2_;clear HB;have HB := n0_;have BK177 := n1_;have GW177 := n2_;have GE177 := n3_;clear q_ n0_ n1_ n2_ n3_;clear hb hbox hg)|((with_reducible refine gate_dst (N := 3) rfl ?_);refine box_event ?hg (N := 3) ?hd (cs := #[.int .i64 a1_0,.slice A1_1 l1_1.length c1_1]) (t := 28) ?hr ?_;(case hd => rfl);(case hg => rfl);(case hr => first|(go_simp;done)|(go_simp;rfl));intro gb178 hg w4 hbox hb;have q_ := qB (by repeat (first|(with_reducible first|exact HB.out|apply bA|apply bN|apply bD|refine bS ?_ GE177.out)|exact HB.out)) hb;have n0_ := mk0 (blk_below (by exact kX BK177.out) hb);have n1_ := mk0 (below_step q_ hb);have n2_ := mk0 (hbox);have n3_ := mk0 (below_size2 q_ hg);have n4_ := n3_;have n5_ := mk0 ((by rw [hg];exact Nat.ne_of_lt (blk_lt (by exact kX BK177.out)) : gb177 ≠ gb178));have n6_ := mk0 ((by rw [hg];exact Nat.ne_of_gt (blk_lt (by exact kX BK177.out)) : gb178 ≠ gb177));clear BK177;clear HB;have BK177 := n0_;have HB := n1_;have BK178 := n2_;have GW178 := n3_;have GE178 := n4_;have NB177_178 := n5_;have NB178_177 := n6_;clear q_ n0_ n1_ n2_ n3_ n4_ n5_ n6_;clear hb hbox hg)|((with_reducible refine gate_dst (N := 8) rfl ?_);refine Kd.R_lit Kd.string _ 9 ?hg (N := 8) ?hd (xs := ([] : List ByteArray)) (inner := []) (ok := fun _ => True) (okp := fun _ => True) ?hr ?hp (fun _ hk => hk) trivial (Below.refl _ _) (Nat.le_refl _) (by simp) ?_;(case hd => rfl);(case hg => rfl);(case hr => first|(go_simp;done)|(go_simp;rfl));(case hp => exact (Reps.none _ _));intro v180 w5 ho6 hb hg_ hnew_;clear hg_ hnew_;(first|rw [← Ny179.out] at ho6|(simp only [Int.reduceToNat] at ho6;rw [← Ny179.out] at ho6));have q_ := qB (by repeat (first|(with_reducible first|exact HB.out|apply bA|apply bN|apply bD|refine bS ?_ GE177.out|refine bS ?_ GE178.out)|exact HB.out)) hb;have n0_ := mk0 (Kd.R_lower ho6 (below_size q_));have n1_ := mk0 (blk_below (by exact kX BK177.out) hb);have n2_ := mk0 (blk_below (by exact kX BK178.out) hb);have n3_ := mk0 (below_step q_ hb);clear BK177;clear BK178;clear HB;have HO181 := n0_;have BK177 := n1_;have BK178 := n2_;have HB := n3_;clear q_ n0_ n1_ n2_ n3_;clear hb ho6))
 go_loopg [5,6] k (fun kq v5 v6 w' => ∃ (x5_1 : List ByteArray) (x6_1 : Int),v6 = .int .i64 x6_1 ∧ Aside0 (spec_l8Names.l0 kq x5_1 x6_1 a0_0 l0_1 a1_0 l1_1 = some r) ∧ Aside0 (kq ≤ k) ∧ Aside0 (Kd.R Kd.string 9 w' w.heap.size (fun _ => True) v5 x5_1) ∧ Aside0 (w'.heap[gb177]? = some (.cells #[.int .i64 a0_0,(.slice A0_1 l0_1.length c0_1)] 28 (0,0))) ∧ Aside0 (w'.heap[gb178]? = some (.cells #[.int .i64 a1_0,(.slice A1_1 l1_1.length c1_1)] 28 (0,0))) ∧ Aside0 (Below w.heap.size w w'))
 case atStart => exact ⟨(y179),(0),(by first|rfl|(simp;done)|(simp [*];done)),H',⟨Nat.le_refl _⟩,⟨by refine rX ?_;exact HO181.out⟩,⟨by refine kX ?_;exact BK177.out⟩,⟨by refine kX ?_;exact BK178.out⟩,⟨by repeat (first|(with_reducible first|exact HB.out|apply bA|apply bN|apply bD|refine bS ?_ GE177.out|refine bS ?_ GE178.out)|exact HB.out)⟩⟩
 case round =>
  clear H'
  try clear c1
  try clear p2
  obtain ⟨x5_1,x6_1,rfl,HA,HK1,HO_5,BK177,BK178,HB⟩ := hrel
  cases gk with
   |zero => exact absurd HA.out (by simp [spec_l8Names.l0])
   |succ k1 =>
   have H := HA.out
   clear HA
   simp only [spec_l8Names.l0] at H
   by_cases c7 : x6_1 < (l0_1.length : Int)
   ·rw [if_pos c7] at H
    have c7b0 : decide (x6_1 < (l0_1.length : Int)) = true := decide_eq_true c7
    clear c7
    by_cases c8 : 0 ≤ x6_1
    ·rw [if_pos c8] at H
     have c8b0 : decide (0 ≤ x6_1) = true := decide_eq_true c8
     clear c8
     obtain ⟨t183,A9,H⟩ := bindA H
     have H' := mk0 H
     clear H
     have hnb10 := NB177_178.out
     have hnc10 := NB178_177.out
     have z11 := bc2 BK177.out
     have p182 : 0 ≤ (x6_1 : Int) := of_decide_eq_true (by first|(with_reducible assumption)|assumption)
     have q182 : x6_1 < (l0_1.length : Int) := of_decide_eq_true (by first|(with_reducible assumption)|assumption)
     obtain ⟨ad182,e182,hx182_0,hx182_1⟩ := at_T70 HR0_1.out x6_1 p182 q182
     cases e182
     replace hx182_0 := hbc HB.out hx182_0
     replace hx182_1 := hbc HB.out hx182_1
     replace p182 := eq_true p182
     replace q182 := eq_true q182
     obtain ⟨Ao12,co12,eo12⟩ := Kd.R_slice HO_5.out
     subst eo12
     go_wp2_with (first|((with_reducible refine gate_callee (f := 94) rfl ?_);refine goesL_ (some 23) rfl rfl Try.func94 (by kernel_rfl) rfl #[.slice Ao12 x5_1.length co12,.string ((rd_T70 l0_1 x6_1).f0)] rfl (by (try simp only [List.map_toArray,List.map_cons,List.map_nil]);first|done|rfl) ?_;(with_reducible refine (spec_l4Put.calls k1 _ _ x5_1 ((rd_T70 l0_1 x6_1).f0) t183 _ ?side1 ?side2 A9.out).mono ?_);(case side1 => repeat (first|exact (Kd.R_reads' HO_5.out).2.2|(with_reducible refine cA ?_ _)|(with_reducible refine cN ?_ _)|(with_reducible refine cD ?_)));(case side2 => exact (Kd.R_reads' HO_5.out).2.1);rintro e w13 ⟨v184,rfl,ho0,hb⟩;refine ⟨_,rfl,?_⟩;have q_ := qB (by repeat (first|(with_reducible first|exact HB.out|apply bA|apply bN|apply bD|refine bS ?_ GE177.out|refine bS ?_ GE178.out)|exact HB.out)) hb;have n0_ := mk0 (Kd.R_elder' (by exact rX HO_5.out) (Kd.R_base ho0) hb);have n1_ := mk0 (Kd.R_lower (Kd.R_new' ho0 (Kd.R_lt (by exact rX HO_5.out))) (below_size q_));have n2_ := mk0 (blk_below (by exact kX BK177.out) hb);have n3_ := mk0 (blk_below (by exact kX BK178.out) hb);have n4_ := mk0 (below_step q_ hb);clear HO_5;clear BK177;clear BK178;clear HB;have HO_5 := n0_;have HO185 := n1_;have BK177 := n2_;have BK178 := n3_;have HB := n4_;clear q_ n0_ n1_ n2_ n3_ n4_;(try clear hb);(try clear hb2);(try clear hk);(try clear hi);(try clear ho0)))
     go_roundg k1
     case measure => have := HK1.out;omega
     case rel => exact ⟨(t183),(wrap64 (x6_1 + 1)),(by first|rfl|(simp;done)|(simp [*];done)),H',⟨by have := HK1.out;omega⟩,⟨by refine rX ?_;exact Kd.R_mono HO185.out (fun _ hk => trivial)⟩,⟨by refine kX ?_;exact BK177.out⟩,⟨by refine kX ?_;exact BK178.out⟩,⟨by repeat (first|(with_reducible first|exact HB.out|apply bA|apply bN|apply bD|refine bS ?_ GE177.out|refine bS ?_ GE178.out)|exact HB.out)⟩⟩
    ·rw [if_neg c8] at H
     exact absurd H (by simp)
   ·rw [if_neg c7] at H
    have c7b0 : decide (x6_1 < (l0_1.length : Int)) = false := decide_eq_false c7
    clear c7
    have H' := mk0 H
    clear H
    have hnb14 := NB177_178.out
    have hnc14 := NB178_177.out
    have z15 := bc2 BK177.out
    go_wp2
    go_loopg [5,7] k1 (fun kq v5 v7 w' => ∃ (x5_2 : List ByteArray) (x7_2 : Int),v7 = .int .i64 x7_2 ∧ Aside0 (spec_l8Names.l1 kq x5_2 x7_2 a1_0 l1_1 = some r) ∧ Aside0 (kq ≤ k1) ∧ Aside0 (Kd.R Kd.string 9 w' w.heap.size (fun _ => True) v5 x5_2) ∧ Aside0 (w'.heap[gb177]? = some (.cells #[.int .i64 a0_0,(.slice A0_1 l0_1.length c0_1)] 28 (0,0))) ∧ Aside0 (w'.heap[gb178]? = some (.cells #[.int .i64 a1_0,(.slice A1_1 l1_1.length c1_1)] 28 (0,0))) ∧ Aside0 (Below w.heap.size w w'))
    case atStart => exact ⟨(x5_1),(0),(by first|rfl|(simp;done)|(simp [*];done)),H',⟨Nat.le_refl _⟩,⟨by refine rX ?_;exact HO_5.out⟩,⟨by refine kX ?_;exact BK177.out⟩,⟨by refine kX ?_;exact BK178.out⟩,⟨by repeat (first|(with_reducible first|exact HB.out|apply bA|apply bN|apply bD|refine bS ?_ GE177.out|refine bS ?_ GE178.out)|exact HB.out)⟩⟩
    case round =>
     clear H'
     try clear c1
     try clear p1
     try clear q1
     try clear hx1
     try clear p2
     try clear p6
     try clear c7
     try clear c7b0
     try clear c8
     try clear c8b0
     try clear c9
     try clear c10
     try clear c14
     try clear z11
     try clear z15
     try clear z11
     try clear z15
     try clear hx182_0
     try clear hx182_1
     try clear p182
     try clear p2
     try clear q182
     obtain ⟨x5_2,x7_2,rfl,HA,HK2,HO_5,BK177,BK178,HB⟩ := hrel
     cases gk with
         |zero => exact absurd HA.out (by simp [spec_l8Names.l1])
         |succ k2 =>
      have H := HA.out
      clear HA
      simp only [spec_l8Names.l1] at H
      by_cases c16 : x7_2 < (l1_1.length : Int)
      ·rw [if_pos c16] at H
       have c16b0 : decide (x7_2 < (l1_1.length : Int)) = true := decide_eq_true c16
       clear c16
       by_cases c17 : 0 ≤ x7_2
       ·rw [if_pos c17] at H
        have c17b0 : decide (0 ≤ x7_2) = true := decide_eq_true c17
        clear c17
        obtain ⟨t187,A18,H⟩ := bindA H
        have H' := mk0 H
        clear H
        have hnb19 := NB178_177.out
        have hnc19 := NB177_178.out
        have z20 := bc2 BK178.out
        have p186 : 0 ≤ (x7_2 : Int) := of_decide_eq_true (by first|(with_reducible assumption)|assumption)
        have q186 : x7_2 < (l1_1.length : Int) := of_decide_eq_true (by first|(with_reducible assumption)|assumption)
        obtain ⟨ad186,e186,hx186_0,hx186_1⟩ := at_T70 HR1_1.out x7_2 p186 q186
        cases e186
        replace hx186_0 := hbc HB.out hx186_0
        replace hx186_1 := hbc HB.out hx186_1
        replace p186 := eq_true p186
        replace q186 := eq_true q186
        obtain ⟨Ao21,co21,eo21⟩ := Kd.R_slice HO_5.out
        subst eo21
        go_wp2_with (first|((with_reducible refine gate_callee (f := 94) rfl ?_);refine goesL_ (some 38) rfl rfl Try.func94 (by kernel_rfl) rfl #[.slice Ao21 x5_2.length co21,.string ((rd_T70 l1_1 x7_2).f0)] rfl (by (try simp only [List.map_toArray,List.map_cons,List.map_nil]);first|done|rfl) ?_;(with_reducible refine (spec_l4Put.calls k2 _ _ x5_2 ((rd_T70 l1_1 x7_2).f0) t187 _ ?side1 ?side2 A18.out).mono ?_);(case side1 => repeat (first|exact (Kd.R_reads' HO_5.out).2.2|(with_reducible refine cA ?_ _)|(with_reducible refine cN ?_ _)|(with_reducible refine cD ?_)));(case side2 => exact (Kd.R_reads' HO_5.out).2.1);rintro e w22 ⟨v188,rfl,ho0,hb⟩;refine ⟨_,rfl,?_⟩;have q_ := qB (by repeat (first|(with_reducible first|exact HB.out|apply bA|apply bN|apply bD|refine bS ?_ GE177.out|refine bS ?_ GE178.out)|exact HB.out)) hb;have n0_ := mk0 (Kd.R_elder' (by exact rX HO_5.out) (Kd.R_base ho0) hb);have n1_ := mk0 (Kd.R_lower (Kd.R_new' ho0 (Kd.R_lt (by exact rX HO_5.out))) (below_size q_));have n2_ := mk0 (blk_below (by exact kX BK177.out) hb);have n3_ := mk0 (blk_below (by exact kX BK178.out) hb);have n4_ := mk0 (below_step q_ hb);clear HO_5;clear BK177;clear BK178;clear HB;have HO_5 := n0_;have HO189 := n1_;have BK177 := n2_;have BK178 := n3_;have HB := n4_;clear q_ n0_ n1_ n2_ n3_ n4_;(try clear hb);(try clear hb2);(try clear hk);(try clear hi);(try clear ho0)))
        go_roundg k2
        case measure => have := HK1.out;have := HK2.out;omega
        case rel => exact ⟨(t187),(wrap64 (x7_2 + 1)),(by first|rfl|(simp;done)|(simp [*];done)),H',⟨by have := HK1.out;have := HK2.out;omega⟩,⟨by refine rX ?_;exact Kd.R_mono HO189.out (fun _ hk => trivial)⟩,⟨by refine kX ?_;exact BK177.out⟩,⟨by refine kX ?_;exact BK178.out⟩,⟨by repeat (first|(with_reducible first|exact HB.out|apply bA|apply bN|apply bD|refine bS ?_ GE177.out|refine bS ?_ GE178.out)|exact HB.out)⟩⟩
       ·rw [if_neg c17] at H
        exact absurd H (by simp)
      ·rw [if_neg c16] at H
       have c16b0 : decide (x7_2 < (l1_1.length : Int)) = false := decide_eq_false c16
       clear c16
       obtain rfl := Option.some.inj H
       have hnb23 := NB178_177.out
       have hnc23 := NB177_178.out
       have z24 := bc2 BK178.out
       go_wp2
       go_ret
       exact ⟨_,by first|rfl|(simp [errW_none,errW_some] <;> rfl)|(simp [*,errW_none,errW_some] <;> rfl),by refine rX ?_;exact HO_5.out,by repeat (first|(with_reducible first|exact HB.out|apply bA|apply bN|apply bD|refine bS ?_ GE177.out|refine bS ?_ GE178.out)|exact HB.out)⟩
end Go.Proofs.Ytmomablfmhkppaa.PFnExactSubA
