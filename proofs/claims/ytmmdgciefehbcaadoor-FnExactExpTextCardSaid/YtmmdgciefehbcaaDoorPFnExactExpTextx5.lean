-- The functions of a law as plain Lean functions, each with its contract: written by a program of this session.
import Derived.Test.YtmmdgciefehbcaaDoorPFnExactExpTextx0
import Derived.Test.YtmmdgciefehbcaaDoorPFnExactExpTextx4
namespace Go.Proofs.YtmmdgciefehbcaaDoor.PFnExactExpText
open Go.RowKit Go.Proofs.YtmmdgciefehbcaaDoorW.PrintWords Go.Proofs.YtmmdgciefehbcaaDoorW.PrintLast Go.Proofs.YtmmdgciefehbcaaDoorW.PrintMore
attribute [local go_sem] max2_int min2_int max_two min_two max_three min_three max_four min_four   -- for this text's walks alone
set_option linter.unusedVariables false
set_option linter.unusedSimpArgs false

/-! ### impl_Exp_measure: function 20 -/
mutual
def impl_Exp_measure.j0 : Nat → Int → Bool → Int → Int → ByteArray → List (S29) → Option (Int)
 | 0, _, _, _, _, _, _ => none
 | k + 1, x1, x15, x189000, x189001, x189002, x189003 => if x15 = true then (some (-1)) else (impl_Exp_measure.l0 k x1 1 x189003 (x189003.length : Int) 0)
def impl_Exp_measure.l0 : Nat → Int → Int → List (S29) → Int → Int → Option (Int)
 | 0, _, _, _, _, _ => none
 | k + 1, x1, x5, x17, x18, x19 => if x19 < x18 then (if 0 ≤ x19 then (if x19 < (x17.length : Int) then ((impl_Exp_measure.f k ((rd_T29 x17 x19).f0) ((rd_T29 x17 x19).f1) ((rd_T29 x17 x19).f2) ((rd_T29 x17 x19).f3) (wrap64 (x1 + 1))).bind fun t192 => (if t192 < 0 then (some (-1)) else (impl_Exp_measure.l0 k x1 (wrap64 (x5 + t192)) x17 x18 (wrap64 (x19 + 1))))) else (none)) else (none)) else (some x5)
def impl_Exp_measure.f : Nat → Int → Int → ByteArray → List (S29) → Int → Option (Int)
 | 0, _, _, _, _, _ => none
 | k + 1, a0_0, a0_1, a0_2, l0_3, a1 => if a1 > 8 then (impl_Exp_measure.j0 k a1 true a0_0 a0_1 a0_2 l0_3) else ((impl_Exp_partsOk.f k a0_0 a0_1 a0_2 l0_3).bind fun t189 => (impl_Exp_measure.j0 k a1 (!t189) a0_0 a0_1 a0_2 l0_3))
end
theorem impl_Exp_measure.mono_l : ∀ k, (∀ y0 y1 y2 y3 y4, LeO (impl_Exp_measure.f k y0 y1 y2 y3 y4) (impl_Exp_measure.f (k + 1) y0 y1 y2 y3 y4)) ∧ (∀ y0 y1 y2 y3 y4 y5, LeO (impl_Exp_measure.j0 k y0 y1 y2 y3 y4 y5) (impl_Exp_measure.j0 (k + 1) y0 y1 y2 y3 y4 y5)) ∧ (∀ y0 y1 y2 y3 y4, LeO (impl_Exp_measure.l0 k y0 y1 y2 y3 y4) (impl_Exp_measure.l0 (k + 1) y0 y1 y2 y3 y4))
 | 0 => ⟨fun _ _ _ _ _ r h => by simp [impl_Exp_measure.f] at h, fun _ _ _ _ _ _ r h => by simp [impl_Exp_measure.j0] at h, fun _ _ _ _ _ r h => by simp [impl_Exp_measure.l0] at h⟩
 | k + 1 => by
  obtain ⟨ih0, ih1, ih2⟩ := impl_Exp_measure.mono_l k
  refine ⟨?_, ?_, ?_⟩
  ·intro y0 y1 y2 y3 y4
   unfold impl_Exp_measure.f
   repeat' first
   | (with_reducible exact ih0 _ _ _ _ _)
   | (with_reducible exact ih1 _ _ _ _ _ _)
   | (with_reducible exact ih2 _ _ _ _ _)
   | (with_reducible exact impl_Exp_partsOk.mono _ _ _ _ _)
   | (with_reducible exact LeO.refl _)
   | (with_reducible exact LeO.none _)
   | (with_reducible refine LeO.ite ?_ ?_)
   | (with_reducible refine LeO.bind ?_ (fun _ => ?_))
   | exact ih0 _ _ _ _ _
   | exact ih1 _ _ _ _ _ _
   | exact ih2 _ _ _ _ _
   | exact impl_Exp_partsOk.mono _ _ _ _ _
   | exact LeO.none _
   | refine LeO.ite ?_ ?_
   | refine LeO.bind ?_ (fun _ => ?_)
  ·intro y0 y1 y2 y3 y4 y5
   unfold impl_Exp_measure.j0
   repeat' first
   | (with_reducible exact ih0 _ _ _ _ _)
   | (with_reducible exact ih1 _ _ _ _ _ _)
   | (with_reducible exact ih2 _ _ _ _ _)
   | (with_reducible exact impl_Exp_partsOk.mono _ _ _ _ _)
   | (with_reducible exact LeO.refl _)
   | (with_reducible exact LeO.none _)
   | (with_reducible refine LeO.ite ?_ ?_)
   | (with_reducible refine LeO.bind ?_ (fun _ => ?_))
   | exact ih0 _ _ _ _ _
   | exact ih1 _ _ _ _ _ _
   | exact ih2 _ _ _ _ _
   | exact impl_Exp_partsOk.mono _ _ _ _ _
   | exact LeO.none _
   | refine LeO.ite ?_ ?_
   | refine LeO.bind ?_ (fun _ => ?_)
  ·intro y0 y1 y2 y3 y4
   unfold impl_Exp_measure.l0
   repeat' first
   | (with_reducible exact ih0 _ _ _ _ _)
   | (with_reducible exact ih1 _ _ _ _ _ _)
   | (with_reducible exact ih2 _ _ _ _ _)
   | (with_reducible exact impl_Exp_partsOk.mono _ _ _ _ _)
   | (with_reducible exact LeO.refl _)
   | (with_reducible exact LeO.none _)
   | (with_reducible refine LeO.ite ?_ ?_)
   | (with_reducible refine LeO.bind ?_ (fun _ => ?_))
   | exact ih0 _ _ _ _ _
   | exact ih1 _ _ _ _ _ _
   | exact ih2 _ _ _ _ _
   | exact impl_Exp_partsOk.mono _ _ _ _ _
   | exact LeO.none _
   | refine LeO.ite ?_ ?_
   | refine LeO.bind ?_ (fun _ => ?_)
theorem impl_Exp_measure.mono : ∀ a0 a1 a2 a3 a4 k, LeO (impl_Exp_measure.f k a0 a1 a2 a3 a4) (impl_Exp_measure.f (k + 1) a0 a1 a2 a3 a4) := by
 intro a0 a1 a2 a3 a4 k
 obtain ⟨ih0, ih1, ih2⟩ := impl_Exp_measure.mono_l k
 exact ih0 a0 a1 a2 a3 a4
set_option maxHeartbeats 8000000 in
set_option maxRecDepth 100000 in
theorem impl_Exp_measure.calls (k : Nat) : ∀ (a0_0 : Int) (a0_1 : Int) (a0_2 : ByteArray) (A0_3 : Option Addr) (c0_3 : Nat) (l0_3 : List (S29)) (a1 : Int) (r : Int) (w : World) (hr0_3 : Kd.C k29 w A0_3 l0_3.length l0_3) (hc0_3 : l0_3.length ≤ c0_3) (h : impl_Exp_measure.f k a0_0 a0_1 a0_2 l0_3 a1 = some r),
  Calls Tryd.prog 20 #[.agg #[.int .i64 a0_0, .int .i64 a0_1, .string a0_2, .slice A0_3 l0_3.length c0_3], .int .i64 a1] w fun e w' => e = .returned (.int .i64 r) ∧ Below w.heap.size w w' := by
 induction k using Nat.strongRecOn with
 |_ k ih =>
 intro a0_0 a0_1 a0_2 A0_3 c0_3 l0_3 a1 r w hr0_3 hc0_3 h
 cases k with
 |zero => exact absurd h (by simp [impl_Exp_measure.f])
 |succ k =>
 simp only [impl_Exp_measure.f] at h
 have hu29 := Tryd.underlying29
 have HR0_3 := mk0 hr0_3
 have HC0_3 := mk0 hc0_3
 clear hr0_3 hc0_3
 have HB := mk0 (Below.refl w.heap.size w)
 have H : (if a1 > 8 then (impl_Exp_measure.j0 k a1 true a0_0 a0_1 a0_2 l0_3) else ((impl_Exp_partsOk.f k a0_0 a0_1 a0_2 l0_3).bind fun t189 => (impl_Exp_measure.j0 k a1 (!t189) a0_0 a0_1 a0_2 l0_3))) = some r := h
 clear h
 have HC3 := mk0 H
 clear H
 go_enter Tryd.func20,Tryd.ntmps20
 go_upto_region 1 with (first|((with_reducible refine gate_dst (N := 2) rfl ?_);refine box_event ?hg (N := 2) ?hd (cs := #[.int .i64 a0_0,.int .i64 a0_1,.string a0_2,.slice A0_3 l0_3.length c0_3]) (t := 29) ?hr ?_;(case hd => rfl);(case hg => rfl);(case hr => first|(go_simp;done)|(go_simp;rfl));intro gb188 hg w4 hbox hb;have q_ := qB (by repeat (first|(with_reducible first|exact HB.out|apply bA|apply bN|apply bD)|exact HB.out)) hb;have n0_ := mk0 (below_step q_ hb);have n1_ := mk0 (hbox);have n2_ := mk0 (below_size2 q_ hg);have n3_ := n2_;clear HB;have HB := n0_;have BK188 := n1_;have GW188 := n2_;have GE188 := n3_;clear q_ n0_ n1_ n2_ n3_ hb hbox hg))
 (try simp only [Act.put,List.setIfInBounds_toArray,List.set_cons_zero,List.set_cons_succ])
 go_cut [15] (fun v15 wc => ∃ (kq : Nat) (x15_2 : Bool),v15 = .bool x15_2 ∧ Aside0 (impl_Exp_measure.j0 kq a1 x15_2 a0_0 a0_1 a0_2 l0_3 = some r) ∧ Aside0 (kq ≤ k) ∧ Aside0 (wc.heap[gb188]? = some (.cells #[.int .i64 a0_0,.int .i64 a0_1,.string a0_2,(.slice A0_3 l0_3.length c0_3)] 29 (0,0))) ∧ Aside0 (Below w.heap.size w wc))
 case first =>
  have H := HC3.out
  clear HC3
  by_cases c5 : a1 > 8
  ·rw [if_pos c5] at H
   have c5b0 : decide (8 < a1) = true := decide_eq_true c5
   clear c5
   (first|rw [c5b0]|(simp only [i64_w,i32_w];rw [c5b0])|skip)
   have H' := mk0 H
   clear H
   go_wp2
   go_meet
   case rel => exact ⟨_,(true),(by first|rfl|(simp;done)|(simp [*];done)),H',⟨by first|omega|exact Nat.le_refl _⟩,⟨by refine kX ?_;exact BK188.out⟩,⟨by repeat (first|(with_reducible first|exact HB.out|apply bA|apply bN|apply bD|refine bS ?_ GE188.out)|exact HB.out)⟩⟩
  ·rw [if_neg c5] at H
   have c5b0 : decide (8 < a1) = false := decide_eq_false c5
   clear c5
   (first|rw [c5b0]|(simp only [i64_w,i32_w];rw [c5b0])|skip)
   obtain ⟨t189,A6,H⟩ := bindA H
   have H' := mk0 H
   clear H
   have z7 := bc4 BK188.out
   go_wp2_with (first|(go_at_call 26;(with_reducible refine (impl_Exp_partsOk.calls k a0_0 a0_1 a0_2 _ _ l0_3 t189 _ ?side1 ?side2 A6.out).mono ?_);(case side1 => repeat (first|exact (Kd.C_below HR0_3.out HB.out)|(with_reducible refine cA ?_ _)|(with_reducible refine cN ?_ _)|(with_reducible refine cD ?_)));(case side2 => exact HC0_3.out);rintro e w8 ⟨rfl,hb⟩;have n0_ := mk0 (blk_below (by exact kX BK188.out) hb);have n1_ := mk0 (below_step (by repeat (first|(with_reducible first|exact HB.out|apply bA|apply bN|apply bD|refine bS ?_ GE188.out)|exact HB.out)) hb);clear BK188 HB;have BK188 := n0_;have HB := n1_;clear n0_ n1_;(try clear hb);(try clear hb2);(try clear hk);(try clear hi)))
   go_meet
   case rel => exact ⟨_,(!t189),(by first|rfl|(simp;done)|(simp [*];done)),H',⟨by first|omega|exact Nat.le_refl _⟩,⟨by refine kX ?_;exact BK188.out⟩,⟨by repeat (first|(with_reducible first|exact HB.out|apply bA|apply bN|apply bD|refine bS ?_ GE188.out)|exact HB.out)⟩⟩
 case rest =>
  clear HC3
  try clear c2
  try clear p2
  try clear c5
  try clear c5b0
  try clear z7
  obtain ⟨kq,x15_2,rfl,HA,HJ2,BK188,HB⟩ := hcut
  cases kq with
   |zero => exact absurd HA.out (by simp [impl_Exp_measure.j0])
   |succ kj2 =>
   have H := HA.out
   clear HA
   simp only [impl_Exp_measure.j0] at H
   by_cases c9 : x15_2 = true
   ·subst c9
    rw [if_pos rfl] at H
    obtain rfl := Option.some.inj H
    go_wp2
    go_ret
    exact ⟨by first|rfl|(simp [errW_none,errW_some] <;> rfl)|(simp [*,errW_none,errW_some] <;> rfl),by repeat (first|(with_reducible first|exact HB.out|apply bA|apply bN|apply bD|refine bS ?_ GE188.out)|exact HB.out)⟩
   ·replace c9 := Bool.eq_false_iff.mpr c9
    subst c9
    rw [if_neg (show ¬ (false = true) by decide)] at H
    have H' := mk0 H
    clear H
    have z10 := bc4 BK188.out
    go_wp2
    go_loopg [5,19] kj2 (fun kq v5 v19 w' => ∃ (x5_2 : Int) (x19_2 : Int),v5 = .int .i64 x5_2 ∧ v19 = .int .i64 x19_2 ∧ Aside0 (impl_Exp_measure.l0 kq a1 x5_2 l0_3 (l0_3.length : Int) x19_2 = some r) ∧ Aside0 (kq ≤ kj2) ∧ Aside0 (w'.heap[gb188]? = some (.cells #[.int .i64 a0_0,.int .i64 a0_1,.string a0_2,(.slice A0_3 l0_3.length c0_3)] 29 (0,0))) ∧ Aside0 (Below w.heap.size w w'))
    case atStart => exact ⟨(1),(0),(by first|rfl|(simp;done)|(simp [*];done)),(by first|rfl|(simp;done)|(simp [*];done)),H',⟨Nat.le_refl _⟩,⟨by refine kX ?_;exact BK188.out⟩,⟨by repeat (first|(with_reducible first|exact HB.out|apply bA|apply bN|apply bD|refine bS ?_ GE188.out)|exact HB.out)⟩⟩
    case round =>
     clear H'
     try clear c2
     try clear p2
     try clear c5
     try clear c5b0
     try clear c9
     try clear z10
     try clear z7
     try clear z10
     try clear z7
     try clear p2
     obtain ⟨x5_2,x19_2,rfl,rfl,HA,HK2,BK188,HB⟩ := hrel
     cases gk with
         |zero => exact absurd HA.out (by simp [impl_Exp_measure.l0])
         |succ k2 =>
      have H := HA.out
      clear HA
      simp only [impl_Exp_measure.l0] at H
      by_cases c11 : x19_2 < (l0_3.length : Int)
      ·rw [if_pos c11] at H
       have c11b0 : decide (x19_2 < (l0_3.length : Int)) = true := decide_eq_true c11
       clear c11
       by_cases c12 : 0 ≤ x19_2
       ·rw [if_pos c12] at H
        have c12b0 : decide (0 ≤ x19_2) = true := decide_eq_true c12
        clear c12
        by_cases c13 : x19_2 < (l0_3.length : Int)
        ·rw [if_pos c13] at H
         have c13b0 : decide (x19_2 < (l0_3.length : Int)) = true := decide_eq_true c13
         clear c13
         obtain ⟨t192,A14,H⟩ := bindA H
         by_cases c15 : t192 < 0
         ·rw [if_pos c15] at H
          have c15b0 : decide (t192 < 0) = true := decide_eq_true c15
          clear c15
          obtain rfl := Option.some.inj H
          have p190 : 0 ≤ (x19_2 : Int) := of_decide_eq_true (by first|(with_reducible assumption)|assumption)
          have q190 : x19_2 < (l0_3.length : Int) := of_decide_eq_true (by first|(with_reducible assumption)|assumption)
          obtain ⟨ad190,A190_3,c190_3,e190,hx190_0,hx190_1,hx190_2,hx190_3,hl190_3,hi190_3⟩ := at_T29 HR0_3.out x19_2 p190 q190
          cases e190
          replace hx190_0 := hbc HB.out hx190_0
          replace hx190_1 := hbc HB.out hx190_1
          replace hx190_2 := hbc HB.out hx190_2
          replace hx190_3 := hbc HB.out hx190_3
          have HR190_3 := mk0 hi190_3
          have HC190_3 := mk0 hl190_3
          clear hi190_3 hl190_3
          replace p190 := eq_true p190
          replace q190 := eq_true q190
          go_wp2_with (first|((with_reducible refine gate_dst (N := 7) rfl ?_);refine box_event ?hg (N := 7) ?hd (cs := #[.int .i64 0,.int .i64 0,.string (⟨#[]⟩ : ByteArray),.slice none 0 0]) (t := 29) ?hr ?_;(case hd => rfl);(case hg => rfl);(case hr => first|(go_simp;done)|(go_simp;rfl));intro gb191 hg w16 hbox hb;have q_ := qB (by repeat (first|(with_reducible first|exact HB.out|apply bA|apply bN|apply bD|refine bS ?_ GE188.out)|exact HB.out)) hb;have n0_ := mk0 (blk_below (by exact kX BK188.out) hb);have n1_ := mk0 (below_step q_ hb);have n2_ := mk0 (hbox);have n3_ := mk0 (below_size2 q_ hg);have n4_ := n3_;have n5_ := mk0 ((by rw [hg];exact Nat.ne_of_lt (blk_lt (by exact kX BK188.out)) : gb188 ≠ gb191));have n6_ := mk0 ((by rw [hg];exact Nat.ne_of_gt (blk_lt (by exact kX BK188.out)) : gb191 ≠ gb188));clear BK188 HB;have BK188 := n0_;have HB := n1_;have BK191 := n2_;have GW191 := n3_;have GE191 := n4_;have NB188_191 := n5_;have NB191_188 := n6_;clear q_ n0_ n1_ n2_ n3_ n4_ n5_ n6_ hb hbox hg;have hnb17 := NB191_188.out;have hnc17 := NB188_191.out;have z18 := bc4 BK191.out)|((with_reducible refine gate_callee (f := 20) rfl ?_);refine goesL_ (some 26) rfl rfl Tryd.func20 (by kernel_rfl) rfl #[.agg #[.int .i64 ((rd_T29 l0_3 x19_2).f0),.int .i64 ((rd_T29 l0_3 x19_2).f1),.string ((rd_T29 l0_3 x19_2).f2),.slice A190_3 ((rd_T29 l0_3 x19_2).f3).length c190_3],.int .i64 (wrap64 (a1 + 1))] rfl (by (try simp only [List.map_toArray,List.map_cons,List.map_nil]);first|done|rfl) ?_;(with_reducible refine (ih k2 (by have := HJ2.out;have := HK2.out;omega) ((rd_T29 l0_3 x19_2).f0) ((rd_T29 l0_3 x19_2).f1) ((rd_T29 l0_3 x19_2).f2) _ _ ((rd_T29 l0_3 x19_2).f3) (wrap64 (a1 + 1)) t192 _ ?side1 ?side2 A14.out).mono ?_);(case side1 => exact Kd.C_below HR190_3.out (by repeat (first|(with_reducible first|exact HB.out|apply bA|apply bN|apply bD|refine bS ?_ GE188.out|refine bS ?_ GE191.out)|exact HB.out)));(case side2 => exact HC190_3.out);rintro e w19 ⟨rfl,hb⟩;refine ⟨_,rfl,?_⟩;have n0_ := mk0 (blk_below (g := gb188) (o := .cells #[.int .i64 a0_0,.int .i64 a0_1,.string a0_2,.slice (some ad190) l0_3.length c0_3] 29 (0,0)) (by refine kX ?_;refine blk_far ?_ NB188_191.out _;refine kX ?_;refine blk_far ?_ NB188_191.out _;refine kX ?_;refine blk_far ?_ NB188_191.out _;refine kX ?_;refine blk_far ?_ NB188_191.out _;exact kX BK188.out) hb);have n1_ := mk0 (blk_below (g := gb191) (o := .cells #[.int .i64 ((rd_T29 l0_3 x19_2).f0),.int .i64 ((rd_T29 l0_3 x19_2).f1),.string ((rd_T29 l0_3 x19_2).f2),.slice A190_3 ((rd_T29 l0_3 x19_2).f3).length c190_3] 29 (0,0)) (by refine kX ?_;refine blk_put (cs := #[.int .i64 ((rd_T29 l0_3 x19_2).f0),.int .i64 ((rd_T29 l0_3 x19_2).f1),.string ((rd_T29 l0_3 x19_2).f2),.slice none 0 0]) ?_ 3 _ rfl;refine kX ?_;refine blk_put (cs := #[.int .i64 ((rd_T29 l0_3 x19_2).f0),.int .i64 ((rd_T29 l0_3 x19_2).f1),.string (⟨#[]⟩ : ByteArray),.slice none 0 0]) ?_ 2 _ rfl;refine kX ?_;refine blk_put (cs := #[.int .i64 ((rd_T29 l0_3 x19_2).f0),.int .i64 0,.string (⟨#[]⟩ : ByteArray),.slice none 0 0]) ?_ 1 _ rfl;refine kX ?_;refine blk_put (cs := #[.int .i64 0,.int .i64 0,.string (⟨#[]⟩ : ByteArray),.slice none 0 0]) ?_ 0 _ rfl;exact kX BK191.out) hb);have n2_ := mk0 (below_step (by repeat (first|(with_reducible first|exact HB.out|apply bA|apply bN|apply bD|refine bS ?_ GE188.out|refine bS ?_ GE191.out)|exact HB.out)) hb);clear BK188 BK191 HB;have BK188 := n0_;have BK191 := n1_;have HB := n2_;clear n0_ n1_ n2_;(try clear hb);(try clear hb2);(try clear hk);(try clear hi)))
          go_ret
          exact ⟨by first|rfl|(simp [errW_none,errW_some] <;> rfl)|(simp [*,errW_none,errW_some] <;> rfl),by repeat (first|(with_reducible first|exact HB.out|apply bA|apply bN|apply bD|refine bS ?_ GE188.out|refine bS ?_ GE191.out)|exact HB.out)⟩
         ·rw [if_neg c15] at H
          have c15b0 : decide (t192 < 0) = false := decide_eq_false c15
          clear c15
          have H' := mk0 H
          clear H
          have p190 : 0 ≤ (x19_2 : Int) := of_decide_eq_true (by first|(with_reducible assumption)|assumption)
          have q190 : x19_2 < (l0_3.length : Int) := of_decide_eq_true (by first|(with_reducible assumption)|assumption)
          obtain ⟨ad190,A190_3,c190_3,e190,hx190_0,hx190_1,hx190_2,hx190_3,hl190_3,hi190_3⟩ := at_T29 HR0_3.out x19_2 p190 q190
          cases e190
          replace hx190_0 := hbc HB.out hx190_0
          replace hx190_1 := hbc HB.out hx190_1
          replace hx190_2 := hbc HB.out hx190_2
          replace hx190_3 := hbc HB.out hx190_3
          have HR190_3 := mk0 hi190_3
          have HC190_3 := mk0 hl190_3
          clear hi190_3 hl190_3
          replace p190 := eq_true p190
          replace q190 := eq_true q190
          go_wp2_with (first|((with_reducible refine gate_dst (N := 7) rfl ?_);refine box_event ?hg (N := 7) ?hd (cs := #[.int .i64 0,.int .i64 0,.string (⟨#[]⟩ : ByteArray),.slice none 0 0]) (t := 29) ?hr ?_;(case hd => rfl);(case hg => rfl);(case hr => first|(go_simp;done)|(go_simp;rfl));intro gb191 hg w20 hbox hb;have q_ := qB (by repeat (first|(with_reducible first|exact HB.out|apply bA|apply bN|apply bD|refine bS ?_ GE188.out)|exact HB.out)) hb;have n0_ := mk0 (blk_below (by exact kX BK188.out) hb);have n1_ := mk0 (below_step q_ hb);have n2_ := mk0 (hbox);have n3_ := mk0 (below_size2 q_ hg);have n4_ := n3_;have n5_ := mk0 ((by rw [hg];exact Nat.ne_of_lt (blk_lt (by exact kX BK188.out)) : gb188 ≠ gb191));have n6_ := mk0 ((by rw [hg];exact Nat.ne_of_gt (blk_lt (by exact kX BK188.out)) : gb191 ≠ gb188));clear BK188 HB;have BK188 := n0_;have HB := n1_;have BK191 := n2_;have GW191 := n3_;have GE191 := n4_;have NB188_191 := n5_;have NB191_188 := n6_;clear q_ n0_ n1_ n2_ n3_ n4_ n5_ n6_ hb hbox hg;have hnb21 := NB191_188.out;have hnc21 := NB188_191.out;have z22 := bc4 BK191.out)|((with_reducible refine gate_callee (f := 20) rfl ?_);refine goesL_ (some 26) rfl rfl Tryd.func20 (by kernel_rfl) rfl #[.agg #[.int .i64 ((rd_T29 l0_3 x19_2).f0),.int .i64 ((rd_T29 l0_3 x19_2).f1),.string ((rd_T29 l0_3 x19_2).f2),.slice A190_3 ((rd_T29 l0_3 x19_2).f3).length c190_3],.int .i64 (wrap64 (a1 + 1))] rfl (by (try simp only [List.map_toArray,List.map_cons,List.map_nil]);first|done|rfl) ?_;(with_reducible refine (ih k2 (by have := HJ2.out;have := HK2.out;omega) ((rd_T29 l0_3 x19_2).f0) ((rd_T29 l0_3 x19_2).f1) ((rd_T29 l0_3 x19_2).f2) _ _ ((rd_T29 l0_3 x19_2).f3) (wrap64 (a1 + 1)) t192 _ ?side1 ?side2 A14.out).mono ?_);(case side1 => exact Kd.C_below HR190_3.out (by repeat (first|(with_reducible first|exact HB.out|apply bA|apply bN|apply bD|refine bS ?_ GE188.out|refine bS ?_ GE191.out)|exact HB.out)));(case side2 => exact HC190_3.out);rintro e w23 ⟨rfl,hb⟩;refine ⟨_,rfl,?_⟩;have n0_ := mk0 (blk_below (g := gb188) (o := .cells #[.int .i64 a0_0,.int .i64 a0_1,.string a0_2,.slice (some ad190) l0_3.length c0_3] 29 (0,0)) (by refine kX ?_;refine blk_far ?_ NB188_191.out _;refine kX ?_;refine blk_far ?_ NB188_191.out _;refine kX ?_;refine blk_far ?_ NB188_191.out _;refine kX ?_;refine blk_far ?_ NB188_191.out _;exact kX BK188.out) hb);have n1_ := mk0 (blk_below (g := gb191) (o := .cells #[.int .i64 ((rd_T29 l0_3 x19_2).f0),.int .i64 ((rd_T29 l0_3 x19_2).f1),.string ((rd_T29 l0_3 x19_2).f2),.slice A190_3 ((rd_T29 l0_3 x19_2).f3).length c190_3] 29 (0,0)) (by refine kX ?_;refine blk_put (cs := #[.int .i64 ((rd_T29 l0_3 x19_2).f0),.int .i64 ((rd_T29 l0_3 x19_2).f1),.string ((rd_T29 l0_3 x19_2).f2),.slice none 0 0]) ?_ 3 _ rfl;refine kX ?_;refine blk_put (cs := #[.int .i64 ((rd_T29 l0_3 x19_2).f0),.int .i64 ((rd_T29 l0_3 x19_2).f1),.string (⟨#[]⟩ : ByteArray),.slice none 0 0]) ?_ 2 _ rfl;refine kX ?_;refine blk_put (cs := #[.int .i64 ((rd_T29 l0_3 x19_2).f0),.int .i64 0,.string (⟨#[]⟩ : ByteArray),.slice none 0 0]) ?_ 1 _ rfl;refine kX ?_;refine blk_put (cs := #[.int .i64 0,.int .i64 0,.string (⟨#[]⟩ : ByteArray),.slice none 0 0]) ?_ 0 _ rfl;exact kX BK191.out) hb);have n2_ := mk0 (below_step (by repeat (first|(with_reducible first|exact HB.out|apply bA|apply bN|apply bD|refine bS ?_ GE188.out|refine bS ?_ GE191.out)|exact HB.out)) hb);clear BK188 BK191 HB;have BK188 := n0_;have BK191 := n1_;have HB := n2_;clear n0_ n1_ n2_;(try clear hb);(try clear hb2);(try clear hk);(try clear hi)))
          go_roundg k2
          case measure => have := HJ2.out;have := HK2.out;omega
          case rel => exact ⟨(wrap64 (x5_2 + t192)),(wrap64 (x19_2 + 1)),(by first|rfl|(simp;done)|(simp [*];done)),(by first|rfl|(simp;done)|(simp [*];done)),H',⟨by have := HJ2.out;have := HK2.out;omega⟩,⟨by refine kX ?_;exact BK188.out⟩,⟨by repeat (first|(with_reducible first|exact HB.out|apply bA|apply bN|apply bD|refine bS ?_ GE188.out|refine bS ?_ GE191.out)|exact HB.out)⟩⟩
        ·rw [if_neg c13] at H
         exact absurd H (by simp)
       ·rw [if_neg c12] at H
        exact absurd H (by simp)
      ·rw [if_neg c11] at H
       have c11b0 : decide (x19_2 < (l0_3.length : Int)) = false := decide_eq_false c11
       clear c11
       obtain rfl := Option.some.inj H
       go_wp2
       go_ret
       exact ⟨by first|rfl|(simp [errW_none,errW_some] <;> rfl)|(simp [*,errW_none,errW_some] <;> rfl),by repeat (first|(with_reducible first|exact HB.out|apply bA|apply bN|apply bD|refine bS ?_ GE188.out)|exact HB.out)⟩

/-! ### impl_ExpOk: function 13 -/
def impl_ExpOk.f (k : Nat) (a0_0 : Int) (a0_1 : Int) (a0_2 : ByteArray) (l0_3 : List (S29)) : Option (Bool) := (impl_Exp_measure.f k a0_0 a0_1 a0_2 l0_3 1).bind fun t194 => ((impl_inRange.f t194 1 60).bind fun t195 => (some t195))
theorem impl_ExpOk.mono : ∀ a0 a1 a2 a3 k, LeO (impl_ExpOk.f k a0 a1 a2 a3) (impl_ExpOk.f (k + 1) a0 a1 a2 a3) := by
 intro a0 a1 a2 a3 k
 unfold impl_ExpOk.f
 repeat' first
   | (with_reducible exact impl_Exp_measure.mono _ _ _ _ _ _)
   | (with_reducible exact LeO.refl _)
   | (with_reducible exact LeO.none _)
   | (with_reducible refine LeO.ite ?_ ?_)
   | (with_reducible refine LeO.bind ?_ (fun _ => ?_))
   | exact impl_Exp_measure.mono _ _ _ _ _ _
   | exact LeO.none _
   | refine LeO.ite ?_ ?_
   | refine LeO.bind ?_ (fun _ => ?_)
set_option maxHeartbeats 8000000 in
set_option maxRecDepth 100000 in
theorem impl_ExpOk.calls (k : Nat) (a0_0 : Int) (a0_1 : Int) (a0_2 : ByteArray) (A0_3 : Option Addr) (c0_3 : Nat) (l0_3 : List (S29)) (r : Bool) (w : World) (hr0_3 : Kd.C k29 w A0_3 l0_3.length l0_3) (hc0_3 : l0_3.length ≤ c0_3) (h : impl_ExpOk.f k a0_0 a0_1 a0_2 l0_3 = some r) :
  Calls Tryd.prog 13 #[.agg #[.int .i64 a0_0, .int .i64 a0_1, .string a0_2, .slice A0_3 l0_3.length c0_3]] w fun e w' => e = .returned (.bool r) ∧ Below w.heap.size w w' := by
 have hu29 := Tryd.underlying29
 have HR0_3 := mk0 hr0_3
 have HC0_3 := mk0 hc0_3
 clear hr0_3 hc0_3
 have HB := mk0 (Below.refl w.heap.size w)
 have H : ((impl_Exp_measure.f k a0_0 a0_1 a0_2 l0_3 1).bind fun t194 => ((impl_inRange.f t194 1 60).bind fun t195 => (some t195))) = some r := h
 clear h
 obtain ⟨t194,A2,H⟩ := bindA H
 obtain ⟨t195,A3,H⟩ := bindA H
 obtain rfl := Option.some.inj H
 go_enter Tryd.func13,Tryd.ntmps13
 go_wp2_with (first|((with_reducible refine gate_dst (N := 1) rfl ?_);refine box_event ?hg (N := 1) ?hd (cs := #[.int .i64 a0_0,.int .i64 a0_1,.string a0_2,.slice A0_3 l0_3.length c0_3]) (t := 29) ?hr ?_;(case hd => rfl);(case hg => rfl);(case hr => first|(go_simp;done)|(go_simp;rfl));intro gb193 hg w4 hbox hb;have q_ := qB (by repeat (first|(with_reducible first|exact HB.out|apply bA|apply bN|apply bD)|exact HB.out)) hb;have n0_ := mk0 (below_step q_ hb);have n1_ := mk0 (hbox);have n2_ := mk0 (below_size2 q_ hg);have n3_ := n2_;clear HB;have HB := n0_;have BK193 := n1_;have GW193 := n2_;have GE193 := n3_;clear q_ n0_ n1_ n2_ n3_ hb hbox hg;have z5 := bc4 BK193.out)|((with_reducible refine gate_callee (f := 20) rfl ?_);refine goesL_ (some 4) rfl rfl Tryd.func20 (by kernel_rfl) rfl #[.agg #[.int .i64 a0_0,.int .i64 a0_1,.string a0_2,.slice A0_3 l0_3.length c0_3],.int .i64 1] rfl (by (try simp only [List.map_toArray,List.map_cons,List.map_nil]);first|done|rfl) ?_;(with_reducible refine (impl_Exp_measure.calls k a0_0 a0_1 a0_2 _ _ l0_3 1 t194 _ ?side1 ?side2 A2.out).mono ?_);(case side1 => repeat (first|exact (Kd.C_below HR0_3.out HB.out)|(with_reducible refine cA ?_ _)|(with_reducible refine cN ?_ _)|(with_reducible refine cD ?_)));(case side2 => exact HC0_3.out);rintro e w6 ⟨rfl,hb⟩;refine ⟨_,rfl,?_⟩;have n0_ := mk0 (blk_below (by exact kX BK193.out) hb);have n1_ := mk0 (below_step (by repeat (first|(with_reducible first|exact HB.out|apply bA|apply bN|apply bD|refine bS ?_ GE193.out)|exact HB.out)) hb);clear BK193 HB;have BK193 := n0_;have HB := n1_;clear n0_ n1_;(try clear hb);(try clear hb2);(try clear hk);(try clear hi))|((with_reducible refine gate_callee (f := 19) rfl ?_);refine goesL_ (some 5) rfl rfl Tryd.func19 (by kernel_rfl) rfl #[.int .i64 t194,.int .i64 1,.int .i64 60] rfl (by (try simp only [List.map_toArray,List.map_cons,List.map_nil]);first|done|rfl) ?_;(with_reducible refine (impl_inRange.calls t194 1 60 t195 _ A3.out).mono ?_);rintro e w' ⟨rfl,⟨nd,rfl⟩⟩;refine ⟨_,rfl,?_⟩))
 go_ret
 exact ⟨by first|rfl|(simp [errW_none,errW_some] <;> rfl)|(simp [*,errW_none,errW_some] <;> rfl),by repeat (first|(with_reducible first|exact HB.out|apply bA|apply bN|apply bD|refine bS ?_ GE193.out)|exact HB.out)⟩

def strconv_Itoa_27.f (a0 : Int) : Option ByteArray := if -9223372036854775808 ≤ a0 then (if a0 ≤ 9223372036854775807 then some (⟨(Go.Lib.itoa a0).toArray⟩ : ByteArray) else none) else none
theorem strconv_Itoa_27.calls (a0 : Int) (r : ByteArray) (w : World) (hT : TabW w) (h : strconv_Itoa_27.f a0 = some r) :
  Calls Tryd.prog 27 #[.int .i64 a0] w fun e w' => e = .returned (.string r) ∧ Below w.heap.size w w' := by
 unfold strconv_Itoa_27.f at h
 by_cases h0 : -9223372036854775808 ≤ a0
 ·rw [if_pos h0] at h
  by_cases h1 : a0 ≤ 9223372036854775807
  ·rw [if_pos h1] at h
   obtain rfl := Option.some.inj h
   exact itoa_calls a0 w hT h0 h1
  ·rw [if_neg h1] at h
   cases h
 ·rw [if_neg h0] at h
  cases h

/-! ### impl_NumText: function 21 -/
def impl_NumText.f (a0 : Int) : Option (ByteArray) := (strconv_Itoa_27.f a0).bind fun t196 => (some t196)
set_option maxHeartbeats 8000000 in
set_option maxRecDepth 100000 in
theorem impl_NumText.calls (a0 : Int) (r : ByteArray) (w : World) (hT : TabW w) (h : impl_NumText.f a0 = some r) :
  Calls Tryd.prog 21 #[.int .i64 a0] w fun e w' => e = .returned (.string r) ∧ Below w.heap.size w w' := by
 have HB := mk0 (Below.refl w.heap.size w)
 have HT := mk0 hT
 clear hT
 have H : ((strconv_Itoa_27.f a0).bind fun t196 => (some t196)) = some r := h
 clear h
 obtain ⟨t196,A2,H⟩ := bindA H
 obtain rfl := Option.some.inj H
 go_enter Tryd.func21,Tryd.ntmps21
 go_wp2_with (first|((with_reducible refine gate_callee (f := 27) rfl ?_);refine goesL_ (some 4) rfl rfl Tryd.func27 (by kernel_rfl) rfl #[.int .i64 a0] rfl (by (try simp only [List.map_toArray,List.map_cons,List.map_nil]);first|done|rfl) ?_;(with_reducible refine (strconv_Itoa_27.calls (hT := ?hT_) a0 t196 _ A2.out).mono ?_);(case hT_ => exact tabB HT.out (by repeat (first|(with_reducible first|exact HB.out|apply bA|apply bN|apply bD)|exact HB.out)));rintro e w3 ⟨rfl,hb⟩;refine ⟨_,rfl,?_⟩;have n0_ := mk0 (below_step (by repeat (first|(with_reducible first|exact HB.out|apply bA|apply bN|apply bD)|exact HB.out)) hb);clear HB;have HB := n0_;clear n0_;(try clear hb);(try clear hb2);(try clear hk);(try clear hi)))
 go_ret
 exact ⟨by first|rfl|(simp [errW_none,errW_some] <;> rfl)|(simp [*,errW_none,errW_some] <;> rfl),by repeat (first|(with_reducible first|exact HB.out|apply bA|apply bN|apply bD)|exact HB.out)⟩

/-! ### impl_within: function 22 -/
def impl_within.f (a0 : ByteArray) (a1 : Bool) : Option (ByteArray) := if a1 = true then (if 1 + a0.size ≤ 9223372036854775807 then (if ((⟨#[40]⟩ : ByteArray) ++ a0).size + 1 ≤ 9223372036854775807 then (some (((⟨#[40]⟩ : ByteArray) ++ a0) ++ (⟨#[41]⟩ : ByteArray))) else (none)) else (none)) else (some a0)
set_option maxHeartbeats 8000000 in
set_option maxRecDepth 100000 in
theorem impl_within.calls (a0 : ByteArray) (a1 : Bool) (r : ByteArray) (w : World) (h : impl_within.f a0 a1 = some r) :
  Calls Tryd.prog 22 #[.string a0, .bool a1] w fun e w' => e = .returned (.string r) ∧ Drawn0 w w' := by
 have H : (if a1 = true then (if 1 + a0.size ≤ 9223372036854775807 then (if ((⟨#[40]⟩ : ByteArray) ++ a0).size + 1 ≤ 9223372036854775807 then (some (((⟨#[40]⟩ : ByteArray) ++ a0) ++ (⟨#[41]⟩ : ByteArray))) else (none)) else (none)) else (some a0)) = some r := h
 clear h
 by_cases c3 : a1 = true
 ·subst c3
  rw [if_pos rfl] at H
  by_cases c4 : 1 + a0.size ≤ 9223372036854775807
  ·rw [if_pos c4] at H
   have c4b0 := eq_true c4
   have c4b1 : decide (1 + a0.size ≤ 9223372036854775807) = true := decide_eq_true c4
   try have c4b2 : (9223372036854775807 < 1 + a0.size) = False := eq_false (Nat.not_lt.2 c4)
   by_cases c5 : ((⟨#[40]⟩ : ByteArray) ++ a0).size + 1 ≤ 9223372036854775807
   ·rw [if_pos c5] at H
    have c5b0 := eq_true c5
    have c5b1 : decide (((⟨#[40]⟩ : ByteArray) ++ a0).size + 1 ≤ 9223372036854775807) = true := decide_eq_true c5
    try have c5b2 : (9223372036854775807 < ((⟨#[40]⟩ : ByteArray) ++ a0).size + 1) = False := eq_false (Nat.not_lt.2 c5)
    try have c5b9 : (9223372036854775807 < 1 + a0.size + 1) = False := eq_false (by have q_ := c5;simp only [ByteArray.size_append] at q_;have z0_ : (⟨#[40]⟩ : ByteArray).size = 1 := rfl;omega)
    obtain rfl := Option.some.inj H
    go_enter Tryd.func22,Tryd.ntmps22
    go_wp2
    go_ret
    exact ⟨by first|rfl|(simp;done)|(simp [*];done),by repeat (first|exact Drawn0.refl _|apply Drawn0.step)⟩
   ·rw [if_neg c5] at H
    exact absurd H (by simp)
  ·rw [if_neg c4] at H
   exact absurd H (by simp)
 ·replace c3 := Bool.eq_false_iff.mpr c3
  subst c3
  rw [if_neg (show ¬ (false = true) by decide)] at H
  obtain rfl := Option.some.inj H
  go_enter Tryd.func22,Tryd.ntmps22
  go_wp2
  go_ret
  exact ⟨by first|rfl|(simp;done)|(simp [*];done),by repeat (first|exact Drawn0.refl _|apply Drawn0.step)⟩

/-! ### impl_isSum: function 23 -/
def impl_isSum.f (a0_0 : Int) (a0_1 : Int) (a0_2 : ByteArray) (l0_3 : List (S29)) : Option (Bool) := if a0_0 = 4 then (some true) else (some (a0_0 == 5))
set_option maxHeartbeats 8000000 in
set_option maxRecDepth 100000 in
theorem impl_isSum.calls (a0_0 : Int) (a0_1 : Int) (a0_2 : ByteArray) (A0_3 : Option Addr) (c0_3 : Nat) (l0_3 : List (S29)) (r : Bool) (w : World) (hr0_3 : Kd.C k29 w A0_3 l0_3.length l0_3) (hc0_3 : l0_3.length ≤ c0_3) (h : impl_isSum.f a0_0 a0_1 a0_2 l0_3 = some r) :
  Calls Tryd.prog 23 #[.agg #[.int .i64 a0_0, .int .i64 a0_1, .string a0_2, .slice A0_3 l0_3.length c0_3]] w fun e w' => e = .returned (.bool r) ∧ Below w.heap.size w w' := by
 have hu29 := Tryd.underlying29
 have HR0_3 := mk0 hr0_3
 have HC0_3 := mk0 hc0_3
 clear hr0_3 hc0_3
 have HB := mk0 (Below.refl w.heap.size w)
 have H : (if a0_0 = 4 then (some true) else (some (a0_0 == 5))) = some r := h
 clear h
 refine Or.elim (Classical.em (a0_0 = 4)) (fun c2 => ?yes17) (fun c2 => ?no17)
 case' yes17 =>
  rw [if_pos c2] at H
  have c2b0 : (a0_0 == 4) = true := beq_iff_eq.mpr c2
  have c2b1 : (a0_0 != 4) = false := bne_eq_false_iff_eq.mpr c2
  clear c2
  obtain rfl := Option.some.inj H
 case' no17 =>
  rw [if_neg c2] at H
  have c2b0 : (a0_0 == 4) = false := beq_eq_false_iff_ne.mpr c2
  have c2b1 : (a0_0 != 4) = true := bne_iff_ne.mpr c2
  obtain rfl := Option.some.inj H
 all_goals
  go_enter Tryd.func23,Tryd.ntmps23
  go_wp2_with (first|((with_reducible refine gate_dst (N := 1) rfl ?_);refine box_event ?hg (N := 1) ?hd (cs := #[.int .i64 a0_0,.int .i64 a0_1,.string a0_2,.slice A0_3 l0_3.length c0_3]) (t := 29) ?hr ?_;(case hd => rfl);(case hg => rfl);(case hr => first|(go_simp;done)|(go_simp;rfl));intro gb197 hg w3 hbox hb;have q_ := qB (by repeat (first|(with_reducible first|exact HB.out|apply bA|apply bN|apply bD)|exact HB.out)) hb;have n0_ := mk0 (below_step q_ hb);have n1_ := mk0 (hbox);have n2_ := mk0 (below_size2 q_ hg);have n3_ := n2_;clear HB;have HB := n0_;have BK197 := n1_;have GW197 := n2_;have GE197 := n3_;clear q_ n0_ n1_ n2_ n3_ hb hbox hg;have z4 := bc4 BK197.out))
  go_ret
  exact ⟨by first|rfl|(simp [errW_none,errW_some] <;> rfl)|(simp [*,errW_none,errW_some] <;> rfl),by repeat (first|(with_reducible first|exact HB.out|apply bA|apply bN|apply bD|refine bS ?_ GE197.out)|exact HB.out)⟩
end Go.Proofs.YtmmdgciefehbcaaDoor.PFnExactExpText
