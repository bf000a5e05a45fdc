-- The functions of a law as plain Lean functions, each with its contract: written by a program of this session.
import Derived.Test.YtmmdgciefehbcaaPFnExactArrAtx0
namespace Go.Proofs.Ytmmdgciefehbcaa.PFnExactArrAt
open Go.RowKit Go.Proofs.YtmmdgciefehbcaaW.PrintWords Go.Proofs.YtmmdgciefehbcaaW.PrintLast Go.Proofs.YtmmdgciefehbcaaW.PrintMore
attribute [local go_sem] max2_int min2_int max_two min_two max_three min_three max_four min_four   -- for this text's walks alone
set_option linter.unusedVariables false
set_option linter.unusedSimpArgs false

-- JOINED: 42
/-! ### laws_szExpS: function 42 -/

/-! ### laws_szExp: function 10 -/

mutual
def laws_szExp.f : Nat → (Int) → (Int) → (ByteArray) → (List (S24)) → (Int) → Option (Int)
 | 0, _, _, _, _, _ => none
 | k + 1, a0_0, a0_1, a0_2, l0_3, a1 => if (wrap64 (a1 - (a0_2.size : Int))) < 0 then (some (-1)) else ((laws_szExpS.f k l0_3 (wrap64 (a1 - (a0_2.size : Int)))).bind fun t104 => (if t104 < 0 then (some (-1)) else (some t104)))
def laws_szExpS.l0 : Nat → List (S24) → Int → Int → Option (Int)
 | 0, _, _, _ => none
 | k + 1, x0, x1, x5 => if x5 < (x0.length : Int) then (if 0 ≤ x5 then ((laws_szExp.f k ((rd_T24 x0 x5).f0) ((rd_T24 x0 x5).f1) ((rd_T24 x0 x5).f2) ((rd_T24 x0 x5).f3) x1).bind fun t102 => (if t102 < 0 then (some (-1)) else (laws_szExpS.l0 k x0 t102 (wrap64 (x5 + 1))))) else (none)) else (some x1)
def laws_szExpS.f : Nat → (List (S24)) → (Int) → Option (Int)
 | 0, _, _ => none
 | k + 1, l0, a1 => if (wrap64 (a1 - (l0.length : Int))) < 0 then (some (-1)) else (laws_szExpS.l0 k l0 (wrap64 (a1 - (l0.length : Int))) 0)
end

theorem laws_szExp_szExpS_both.mono : ∀ k, (∀ y0 y1 y2 y3 y4, LeO (laws_szExp.f k y0 y1 y2 y3 y4) (laws_szExp.f (k + 1) y0 y1 y2 y3 y4)) ∧ (∀ y0 y1 y2, LeO (laws_szExpS.l0 k y0 y1 y2) (laws_szExpS.l0 (k + 1) y0 y1 y2)) ∧ (∀ y0 y1, LeO (laws_szExpS.f k y0 y1) (laws_szExpS.f (k + 1) y0 y1))
 | 0 => ⟨fun _ _ _ _ _ r h => by simp [laws_szExp.f] at h, fun _ _ _ r h => by simp [laws_szExpS.l0] at h, fun _ _ r h => by simp [laws_szExpS.f] at h⟩
 | k + 1 => by
  have ih := laws_szExp_szExpS_both.mono k
  refine ⟨?_, ?_, ?_⟩
  ·intro y0 y1 y2 y3 y4
   rw [laws_szExp.f, laws_szExp.f]
   repeat' first
   | (with_reducible exact ih.1 _ _ _ _ _)
   | (with_reducible exact ih.2.1 _ _ _)
   | (with_reducible exact ih.2.2 _ _)
   | (with_reducible exact LeO.refl _)
   | (with_reducible exact LeO.none _)
   | (with_reducible refine LeO.ite ?_ ?_)
   | (with_reducible refine LeO.bind ?_ (fun _ => ?_))
  ·intro y0 y1 y2
   rw [laws_szExpS.l0, laws_szExpS.l0]
   repeat' first
   | (with_reducible exact ih.1 _ _ _ _ _)
   | (with_reducible exact ih.2.1 _ _ _)
   | (with_reducible exact ih.2.2 _ _)
   | (with_reducible exact LeO.refl _)
   | (with_reducible exact LeO.none _)
   | (with_reducible refine LeO.ite ?_ ?_)
   | (with_reducible refine LeO.bind ?_ (fun _ => ?_))
  ·intro y0 y1
   rw [laws_szExpS.f, laws_szExpS.f]
   repeat' first
   | (with_reducible exact ih.1 _ _ _ _ _)
   | (with_reducible exact ih.2.1 _ _ _)
   | (with_reducible exact ih.2.2 _ _)
   | (with_reducible exact LeO.refl _)
   | (with_reducible exact LeO.none _)
   | (with_reducible refine LeO.ite ?_ ?_)
   | (with_reducible refine LeO.bind ?_ (fun _ => ?_))

theorem laws_szExp.mono : ∀ a0 a1 a2 a3 a4 k, LeO (laws_szExp.f k a0 a1 a2 a3 a4) (laws_szExp.f (k + 1) a0 a1 a2 a3 a4) := fun a0 a1 a2 a3 a4 k => (laws_szExp_szExpS_both.mono k).1 a0 a1 a2 a3 a4

theorem laws_szExpS.mono : ∀ a0 a1 k, LeO (laws_szExpS.f k a0 a1) (laws_szExpS.f (k + 1) a0 a1) := fun a0 a1 k => (laws_szExp_szExpS_both.mono k).2.2 a0 a1

set_option maxHeartbeats 8000000 in
set_option maxRecDepth 100000 in
theorem laws_szExp.callsG (K : Nat) (IH : Aside0 (∀ m, m < K → ∀ (A0 : Option Addr) (c0 : Nat) (l0 : List (S24)) (a1 : Int) (r : Int) (w : World) (hr0 : Kd.C k24 w A0 l0.length l0) (hc0 : l0.length ≤ c0) (h : laws_szExpS.f m l0 a1 = some r),
   Calls Try.prog 42 #[.slice A0 l0.length c0, .int .i64 a1] w fun e w' => e = .returned (.int .i64 r) ∧ Below w.heap.size w w')) (a0_0 : Int) (a0_1 : Int) (a0_2 : ByteArray) (A0_3 : Option Addr) (c0_3 : Nat) (l0_3 : List (S24)) (a1 : Int) (r : Int) (w : World) (hr0_3 : Kd.C k24 w A0_3 l0_3.length l0_3) (hc0_3 : l0_3.length ≤ c0_3) (h : laws_szExp.f K a0_0 a0_1 a0_2 l0_3 a1 = some r) :
  Calls Try.prog 10 #[.agg #[.int .i64 a0_0, .int .i64 a0_1, .string a0_2, .slice A0_3 l0_3.length c0_3], .int .i64 a1] w fun e w' => e = .returned (.int .i64 r) ∧ Below w.heap.size w w' := by
 cases K with
 |zero => exact absurd h (by simp [laws_szExp.f])
 |succ k =>
 have hu24 := Try.underlying24
 have HR0_3 := mk0 hr0_3
 have HC0_3 := mk0 hc0_3
 clear hr0_3 hc0_3
 have HB := mk0 (Below.refl w.heap.size w)
 have H : (if (wrap64 (a1 - (a0_2.size : Int))) < 0 then (some (-1)) else ((laws_szExpS.f k l0_3 (wrap64 (a1 - (a0_2.size : Int)))).bind fun t104 => (if t104 < 0 then (some (-1)) else (some t104)))) = some r := by rw [laws_szExp.f] at h;exact h
 clear h
 by_cases c3 : (wrap64 (a1 - (a0_2.size : Int))) < 0
 ·rw [if_pos c3] at H
  have c3b0 : decide ((wrap64 (a1 - (a0_2.size : Int))) < 0) = true := decide_eq_true c3
  clear c3
  obtain rfl := Option.some.inj H
  go_enter Try.func10,Try.ntmps10
  go_wp2_with (first|((with_reducible refine gate_dst (N := 2) rfl ?_);refine box_event ?hg (N := 2) ?hd (cs := #[.int .i64 a0_0,.int .i64 a0_1,.string a0_2,.slice A0_3 l0_3.length c0_3]) (t := 24) ?hr ?_;(case hd => rfl);(case hg => rfl);(case hr => first|(go_simp;done)|(go_simp;rfl));intro gb103 hg w4 hbox hb;have q_ := qB (by repeat (first|(with_reducible first|exact HB.out|apply bA|apply bN|apply bD)|exact HB.out)) hb;have n0_ := mk0 (below_step q_ hb);have n1_ := mk0 (hbox);have n2_ := mk0 (below_size2 q_ hg);have n3_ := n2_;clear HB;have HB := n0_;have BK103 := n1_;have GW103 := n2_;have GE103 := n3_;clear q_ n0_ n1_ n2_ n3_ hb hbox hg;have z5 := bc4 BK103.out))
  go_ret
  exact ⟨by first|rfl|(simp [errW_none,errW_some] <;> rfl)|(simp [*,errW_none,errW_some] <;> rfl),by repeat (first|(with_reducible first|exact HB.out|apply bA|apply bN|apply bD|refine bS ?_ GE103.out)|exact HB.out)⟩
 ·rw [if_neg c3] at H
  have c3b0 : decide ((wrap64 (a1 - (a0_2.size : Int))) < 0) = false := decide_eq_false c3
  clear c3
  obtain ⟨t104,A6,H⟩ := bindA H
  refine Or.elim (Classical.em (t104 < 0)) (fun c7 => ?yes1) (fun c7 => ?no1)
  case' yes1 =>
   rw [if_pos c7] at H
   have c7b0 : decide (t104 < 0) = true := decide_eq_true c7
   clear c7
   obtain rfl := Option.some.inj H
  case' no1 =>
   rw [if_neg c7] at H
   have c7b0 : decide (t104 < 0) = false := decide_eq_false c7
   clear c7
   obtain rfl := Option.some.inj H
  all_goals
   go_enter Try.func10,Try.ntmps10
   go_wp2_with (first|((with_reducible refine gate_dst (N := 2) rfl ?_);refine box_event ?hg (N := 2) ?hd (cs := #[.int .i64 a0_0,.int .i64 a0_1,.string a0_2,.slice A0_3 l0_3.length c0_3]) (t := 24) ?hr ?_;(case hd => rfl);(case hg => rfl);(case hr => first|(go_simp;done)|(go_simp;rfl));intro gb103 hg w8 hbox hb;have q_ := qB (by repeat (first|(with_reducible first|exact HB.out|apply bA|apply bN|apply bD)|exact HB.out)) hb;have n0_ := mk0 (below_step q_ hb);have n1_ := mk0 (hbox);have n2_ := mk0 (below_size2 q_ hg);have n3_ := n2_;clear HB;have HB := n0_;have BK103 := n1_;have GW103 := n2_;have GE103 := n3_;clear q_ n0_ n1_ n2_ n3_ hb hbox hg;have z9 := bc4 BK103.out)|((with_reducible refine gate_callee (f := 42) rfl ?_);refine goesL_ (some 15) rfl rfl Try.func42 (by kernel_rfl) rfl #[.slice A0_3 l0_3.length c0_3,.int .i64 (wrap64 (a1 - (a0_2.size : Int)))] rfl (by (try simp only [List.map_toArray,List.map_cons,List.map_nil]);first|done|rfl) ?_;(with_reducible refine (IH.out k (by omega) _ _ l0_3 (wrap64 (a1 - (a0_2.size : Int))) t104 _ ?side1 ?side2 A6.out).mono ?_);(case side1 => repeat (first|exact (Kd.C_below HR0_3.out HB.out)|(with_reducible refine cA ?_ _)|(with_reducible refine cN ?_ _)|(with_reducible refine cD ?_)));(case side2 => exact HC0_3.out);rintro e w10 ⟨rfl,hb⟩;refine ⟨_,rfl,?_⟩;have n0_ := mk0 (blk_below (by exact kX BK103.out) hb);have n1_ := mk0 (below_step (by repeat (first|(with_reducible first|exact HB.out|apply bA|apply bN|apply bD|refine bS ?_ GE103.out)|exact HB.out)) hb);clear BK103 HB;have BK103 := n0_;have HB := n1_;clear n0_ n1_;(try clear hb);(try clear hb2);(try clear hk);(try clear hi)))
   go_ret
   exact ⟨by first|rfl|(simp [errW_none,errW_some] <;> rfl)|(simp [*,errW_none,errW_some] <;> rfl),by repeat (first|(with_reducible first|exact HB.out|apply bA|apply bN|apply bD|refine bS ?_ GE103.out)|exact HB.out)⟩

set_option maxHeartbeats 8000000 in
set_option maxRecDepth 100000 in
theorem laws_szExpS.callsG (K : Nat) (IH : Aside0 (∀ m, m < K → ∀ (a0_0 : Int) (a0_1 : Int) (a0_2 : ByteArray) (A0_3 : Option Addr) (c0_3 : Nat) (l0_3 : List (S24)) (a1 : Int) (r : Int) (w : World) (hr0_3 : Kd.C k24 w A0_3 l0_3.length l0_3) (hc0_3 : l0_3.length ≤ c0_3) (h : laws_szExp.f m a0_0 a0_1 a0_2 l0_3 a1 = some r),
   Calls Try.prog 10 #[.agg #[.int .i64 a0_0, .int .i64 a0_1, .string a0_2, .slice A0_3 l0_3.length c0_3], .int .i64 a1] w fun e w' => e = .returned (.int .i64 r) ∧ Below w.heap.size w w')) (A0 : Option Addr) (c0 : Nat) (l0 : List (S24)) (a1 : Int) (r : Int) (w : World) (hr0 : Kd.C k24 w A0 l0.length l0) (hc0 : l0.length ≤ c0) (h : laws_szExpS.f K l0 a1 = some r) :
  Calls Try.prog 42 #[.slice A0 l0.length c0, .int .i64 a1] w fun e w' => e = .returned (.int .i64 r) ∧ Below w.heap.size w w' := by
 cases K with
 |zero => exact absurd h (by simp [laws_szExpS.f])
 |succ k =>
 have hu24 := Try.underlying24
 have HR0 := mk0 hr0
 have HC0 := mk0 hc0
 clear hr0 hc0
 have HB := mk0 (Below.refl w.heap.size w)
 have H : (if (wrap64 (a1 - (l0.length : Int))) < 0 then (some (-1)) else (laws_szExpS.l0 k l0 (wrap64 (a1 - (l0.length : Int))) 0)) = some r := by rw [laws_szExpS.f] at h;exact h
 clear h
 by_cases c3 : (wrap64 (a1 - (l0.length : Int))) < 0
 ·rw [if_pos c3] at H
  have c3b0 : decide ((wrap64 (a1 - (l0.length : Int))) < 0) = true := decide_eq_true c3
  clear c3
  obtain rfl := Option.some.inj H
  go_enter Try.func42,Try.ntmps42
  go_wp2
  go_ret
  exact ⟨by first|rfl|(simp [errW_none,errW_some] <;> rfl)|(simp [*,errW_none,errW_some] <;> rfl),by repeat (first|(with_reducible first|exact HB.out|apply bA|apply bN|apply bD)|exact HB.out)⟩
 ·rw [if_neg c3] at H
  have c3b0 : decide ((wrap64 (a1 - (l0.length : Int))) < 0) = false := decide_eq_false c3
  clear c3
  have H' := mk0 H
  clear H
  go_enter Try.func42,Try.ntmps42
  go_wp2
  go_loopg [1,5] k (fun kq v1 v5 w' => ∃ (x1_1 : Int) (x5_1 : Int),v1 = .int .i64 x1_1 ∧ v5 = .int .i64 x5_1 ∧ Aside0 (laws_szExpS.l0 kq l0 x1_1 x5_1 = some r) ∧ Aside0 (kq ≤ k) ∧ Aside0 (Below w.heap.size w w'))
  case atStart => exact ⟨(wrap64 (a1 - (l0.length : Int))),(0),(by first|rfl|(simp;done)|(simp [*];done)),(by first|rfl|(simp;done)|(simp [*];done)),H',⟨Nat.le_refl _⟩,⟨by repeat (first|(with_reducible first|exact HB.out|apply bA|apply bN|apply bD)|exact HB.out)⟩⟩
  case round =>
   clear H'
   try clear p2
   try clear c3
   try clear c3b0
   obtain ⟨x1_1,x5_1,rfl,rfl,HA,HK1,HB⟩ := hrel
   cases gk with
     |zero => exact absurd HA.out (by simp [laws_szExpS.l0])
     |succ k1 =>
    have H := HA.out
    clear HA
    simp only [laws_szExpS.l0] at H
    refine Or.elim (Classical.em (x5_1 < (l0.length : Int))) (fun c4 => ?yes2) (fun c4 => ?no2)
    case' yes2 =>
     rw [if_pos c4] at H
     have c4b0 : decide (x5_1 < (l0.length : Int)) = true := decide_eq_true c4
     clear c4
     refine Or.elim (Classical.em (0 ≤ x5_1)) (fun c5 => ?yes3) (fun c5 => ?no3)
     case' yes3 =>
      rw [if_pos c5] at H
      have c5b0 : decide (0 ≤ x5_1) = true := decide_eq_true c5
      clear c5
      obtain ⟨t102,A6,H⟩ := bindA H
      refine Or.elim (Classical.em (t102 < 0)) (fun c7 => ?yes4) (fun c7 => ?no4)
      case' yes4 =>
       rw [if_pos c7] at H
       have c7b0 : decide (t102 < 0) = true := decide_eq_true c7
       clear c7
       obtain rfl := Option.some.inj H
       have p101 : 0 ≤ (x5_1 : Int) := of_decide_eq_true (by first|(with_reducible assumption)|assumption)
       have q101 : x5_1 < (l0.length : Int) := of_decide_eq_true (by first|(with_reducible assumption)|assumption)
       obtain ⟨ad101,A101_3,c101_3,e101,hx101_0,hx101_1,hx101_2,hx101_3,hl101_3,hi101_3⟩ := at_T24 HR0.out x5_1 p101 q101
       cases e101
       replace hx101_0 := hbc HB.out hx101_0
       replace hx101_1 := hbc HB.out hx101_1
       replace hx101_2 := hbc HB.out hx101_2
       replace hx101_3 := hbc HB.out hx101_3
       have HR101_3 := mk0 hi101_3
       have HC101_3 := mk0 hl101_3
       clear hi101_3 hl101_3
       replace p101 := eq_true p101
       replace q101 := eq_true q101
      case' no4 =>
       rw [if_neg c7] at H
       have c7b0 : decide (t102 < 0) = false := decide_eq_false c7
       clear c7
       have H' := mk0 H
       clear H
       have p101 : 0 ≤ (x5_1 : Int) := of_decide_eq_true (by first|(with_reducible assumption)|assumption)
       have q101 : x5_1 < (l0.length : Int) := of_decide_eq_true (by first|(with_reducible assumption)|assumption)
       obtain ⟨ad101,A101_3,c101_3,e101,hx101_0,hx101_1,hx101_2,hx101_3,hl101_3,hi101_3⟩ := at_T24 HR0.out x5_1 p101 q101
       cases e101
       replace hx101_0 := hbc HB.out hx101_0
       replace hx101_1 := hbc HB.out hx101_1
       replace hx101_2 := hbc HB.out hx101_2
       replace hx101_3 := hbc HB.out hx101_3
       have HR101_3 := mk0 hi101_3
       have HC101_3 := mk0 hl101_3
       clear hi101_3 hl101_3
       replace p101 := eq_true p101
       replace q101 := eq_true q101
       go_wp2_with (first|((with_reducible refine gate_callee (f := 10) rfl ?_);refine goesL_ (some 23) rfl rfl Try.func10 (by kernel_rfl) rfl #[.agg #[.int .i64 ((rd_T24 l0 x5_1).f0),.int .i64 ((rd_T24 l0 x5_1).f1),.string ((rd_T24 l0 x5_1).f2),.slice A101_3 ((rd_T24 l0 x5_1).f3).length c101_3],.int .i64 x1_1] rfl (by (try simp only [List.map_toArray,List.map_cons,List.map_nil]);first|done|rfl) ?_;(with_reducible refine (IH.out k1 (by have := HK1.out;omega) ((rd_T24 l0 x5_1).f0) ((rd_T24 l0 x5_1).f1) ((rd_T24 l0 x5_1).f2) _ _ ((rd_T24 l0 x5_1).f3) x1_1 t102 _ ?side1 ?side2 A6.out).mono ?_);(case side1 => repeat (first|exact (Kd.C_below HR101_3.out HB.out)|(with_reducible refine cA ?_ _)|(with_reducible refine cN ?_ _)|(with_reducible refine cD ?_)));(case side2 => exact HC101_3.out);rintro e w9 ⟨rfl,hb⟩;refine ⟨_,rfl,?_⟩;have n0_ := mk0 (below_step (by repeat (first|(with_reducible first|exact HB.out|apply bA|apply bN|apply bD)|exact HB.out)) hb);clear HB;have HB := n0_;clear n0_;(try clear hb);(try clear hb2);(try clear hk);(try clear hi)))
       go_roundg k1
       case measure => have := HK1.out;omega
       case rel => exact ⟨(t102),(wrap64 (x5_1 + 1)),(by first|rfl|(simp;done)|(simp [*];done)),(by first|rfl|(simp;done)|(simp [*];done)),H',⟨by have := HK1.out;omega⟩,⟨by repeat (first|(with_reducible first|exact HB.out|apply bA|apply bN|apply bD)|exact HB.out)⟩⟩
     case' no3 =>
      rw [if_neg c5] at H
      exact absurd H (by simp)
    case' no2 =>
     rw [if_neg c4] at H
     have c4b0 : decide (x5_1 < (l0.length : Int)) = false := decide_eq_false c4
     clear c4
     obtain rfl := Option.some.inj H
    all_goals
     go_wp2_with (first|((with_reducible refine gate_callee (f := 10) rfl ?_);refine goesL_ (some 23) rfl rfl Try.func10 (by kernel_rfl) rfl #[.agg #[.int .i64 ((rd_T24 l0 x5_1).f0),.int .i64 ((rd_T24 l0 x5_1).f1),.string ((rd_T24 l0 x5_1).f2),.slice A101_3 ((rd_T24 l0 x5_1).f3).length c101_3],.int .i64 x1_1] rfl (by (try simp only [List.map_toArray,List.map_cons,List.map_nil]);first|done|rfl) ?_;(with_reducible refine (IH.out k1 (by have := HK1.out;omega) ((rd_T24 l0 x5_1).f0) ((rd_T24 l0 x5_1).f1) ((rd_T24 l0 x5_1).f2) _ _ ((rd_T24 l0 x5_1).f3) x1_1 t102 _ ?side1 ?side2 A6.out).mono ?_);(case side1 => repeat (first|exact (Kd.C_below HR101_3.out HB.out)|(with_reducible refine cA ?_ _)|(with_reducible refine cN ?_ _)|(with_reducible refine cD ?_)));(case side2 => exact HC101_3.out);rintro e w8 ⟨rfl,hb⟩;refine ⟨_,rfl,?_⟩;have n0_ := mk0 (below_step (by repeat (first|(with_reducible first|exact HB.out|apply bA|apply bN|apply bD)|exact HB.out)) hb);clear HB;have HB := n0_;clear n0_;(try clear hb);(try clear hb2);(try clear hk);(try clear hi)))
     go_ret
     exact ⟨by first|rfl|(simp [errW_none,errW_some] <;> rfl)|(simp [*,errW_none,errW_some] <;> rfl),by repeat (first|(with_reducible first|exact HB.out|apply bA|apply bN|apply bD)|exact HB.out)⟩
theorem laws_szExp_szExpS_both.calls : ∀ k, (∀ (a0_0 : Int) (a0_1 : Int) (a0_2 : ByteArray) (A0_3 : Option Addr) (c0_3 : Nat) (l0_3 : List (S24)) (a1 : Int) (r : Int) (w : World) (hr0_3 : Kd.C k24 w A0_3 l0_3.length l0_3) (hc0_3 : l0_3.length ≤ c0_3) (h : laws_szExp.f k a0_0 a0_1 a0_2 l0_3 a1 = some r),
   Calls Try.prog 10 #[.agg #[.int .i64 a0_0, .int .i64 a0_1, .string a0_2, .slice A0_3 l0_3.length c0_3], .int .i64 a1] w fun e w' => e = .returned (.int .i64 r) ∧ Below w.heap.size w w') ∧ (∀ (A0 : Option Addr) (c0 : Nat) (l0 : List (S24)) (a1 : Int) (r : Int) (w : World) (hr0 : Kd.C k24 w A0 l0.length l0) (hc0 : l0.length ≤ c0) (h : laws_szExpS.f k l0 a1 = some r),
   Calls Try.prog 42 #[.slice A0 l0.length c0, .int .i64 a1] w fun e w' => e = .returned (.int .i64 r) ∧ Below w.heap.size w w') := by
 intro k
 induction k using Nat.strongRecOn with
 |_ k ih =>
 exact ⟨fun a0_0 a0_1 a0_2 A0_3 c0_3 l0_3 a1 r w hr0_3 hc0_3 h => laws_szExp.callsG k ⟨fun m hm => (ih m hm).2⟩ a0_0 a0_1 a0_2 A0_3 c0_3 l0_3 a1 r w hr0_3 hc0_3 h,fun A0 c0 l0 a1 r w hr0 hc0 h => laws_szExpS.callsG k ⟨fun m hm => (ih m hm).1⟩ A0 c0 l0 a1 r w hr0 hc0 h⟩
theorem laws_szExp.calls (k : Nat) (a0_0 : Int) (a0_1 : Int) (a0_2 : ByteArray) (A0_3 : Option Addr) (c0_3 : Nat) (l0_3 : List (S24)) (a1 : Int) (r : Int) (w : World) (hr0_3 : Kd.C k24 w A0_3 l0_3.length l0_3) (hc0_3 : l0_3.length ≤ c0_3) (h : laws_szExp.f k a0_0 a0_1 a0_2 l0_3 a1 = some r) :
  Calls Try.prog 10 #[.agg #[.int .i64 a0_0, .int .i64 a0_1, .string a0_2, .slice A0_3 l0_3.length c0_3], .int .i64 a1] w fun e w' => e = .returned (.int .i64 r) ∧ Below w.heap.size w w' := (laws_szExp_szExpS_both.calls k).1 a0_0 a0_1 a0_2 A0_3 c0_3 l0_3 a1 r w hr0_3 hc0_3 h

theorem laws_szExpS.calls (k : Nat) (A0 : Option Addr) (c0 : Nat) (l0 : List (S24)) (a1 : Int) (r : Int) (w : World) (hr0 : Kd.C k24 w A0 l0.length l0) (hc0 : l0.length ≤ c0) (h : laws_szExpS.f k l0 a1 = some r) :
  Calls Try.prog 42 #[.slice A0 l0.length c0, .int .i64 a1] w fun e w' => e = .returned (.int .i64 r) ∧ Below w.heap.size w w' := (laws_szExp_szExpS_both.calls k).2 A0 c0 l0 a1 r w hr0 hc0 h

-- JOINED: 58
/-! ### laws_szStmtS: function 58 -/

/-! ### laws_szStmt: function 22 -/

mutual
def laws_szStmt.f : Nat → (Int) → (ByteArray) → (Int) → (Int) → (ByteArray) → (List (S24)) → (Int) → (Int) → (ByteArray) → (List (S24)) → (Int) → (Int) → (ByteArray) → (List (S24)) → (Int) → (Int) → (ByteArray) → (List (S24)) → (List (S45)) → (Int) → Option (Int)
 | 0, _, _, _, _, _, _, _, _, _, _, _, _, _, _, _, _, _, _, _, _ => none
 | k + 1, a0_0, a0_1, a0_2, a0_3, a0_4, l0_5, a0_6, a0_7, a0_8, l0_9, a0_10, a0_11, a0_12, l0_13, a0_14, a0_15, a0_16, l0_17, l0_18, a1 => if (wrap64 (a1 - (a0_1.size : Int))) < 0 then (some (-1)) else ((laws_szExp.f k a0_2 a0_3 a0_4 l0_5 (wrap64 (a1 - (a0_1.size : Int)))).bind fun t108 => (if t108 < 0 then (some (-1)) else ((laws_szExp.f k a0_6 a0_7 a0_8 l0_9 t108).bind fun t109 => (if t109 < 0 then (some (-1)) else ((laws_szExp.f k a0_10 a0_11 a0_12 l0_13 t109).bind fun t110 => (if t110 < 0 then (some (-1)) else ((laws_szExp.f k a0_14 a0_15 a0_16 l0_17 t110).bind fun t111 => (if t111 < 0 then (some (-1)) else ((laws_szStmtS.f k l0_18 t111).bind fun t112 => (if t112 < 0 then (some (-1)) else (some t112)))))))))))
def laws_szStmtS.l0 : Nat → List (S45) → Int → Int → Option (Int)
 | 0, _, _, _ => none
 | k + 1, x0, x1, x5 => if x5 < (x0.length : Int) then (if 0 ≤ x5 then ((laws_szStmt.f k ((rd_T45 x0 x5).f0) ((rd_T45 x0 x5).f1) ((rd_T45 x0 x5).f2.f0) ((rd_T45 x0 x5).f2.f1) ((rd_T45 x0 x5).f2.f2) ((rd_T45 x0 x5).f2.f3) ((rd_T45 x0 x5).f3.f0) ((rd_T45 x0 x5).f3.f1) ((rd_T45 x0 x5).f3.f2) ((rd_T45 x0 x5).f3.f3) ((rd_T45 x0 x5).f4.f0) ((rd_T45 x0 x5).f4.f1) ((rd_T45 x0 x5).f4.f2) ((rd_T45 x0 x5).f4.f3) ((rd_T45 x0 x5).f5.f0) ((rd_T45 x0 x5).f5.f1) ((rd_T45 x0 x5).f5.f2) ((rd_T45 x0 x5).f5.f3) ((rd_T45 x0 x5).f6) x1).bind fun t106 => (if t106 < 0 then (some (-1)) else (laws_szStmtS.l0 k x0 t106 (wrap64 (x5 + 1))))) else (none)) else (some x1)
def laws_szStmtS.f : Nat → (List (S45)) → (Int) → Option (Int)
 | 0, _, _ => none
 | k + 1, l0, a1 => if (wrap64 (a1 - (l0.length : Int))) < 0 then (some (-1)) else (laws_szStmtS.l0 k l0 (wrap64 (a1 - (l0.length : Int))) 0)
end

theorem laws_szStmt_szStmtS_both.mono : ∀ k, (∀ y0 y1 y2 y3 y4 y5 y6 y7 y8 y9 y10 y11 y12 y13 y14 y15 y16 y17 y18 y19, LeO (laws_szStmt.f k y0 y1 y2 y3 y4 y5 y6 y7 y8 y9 y10 y11 y12 y13 y14 y15 y16 y17 y18 y19) (laws_szStmt.f (k + 1) y0 y1 y2 y3 y4 y5 y6 y7 y8 y9 y10 y11 y12 y13 y14 y15 y16 y17 y18 y19)) ∧ (∀ y0 y1 y2, LeO (laws_szStmtS.l0 k y0 y1 y2) (laws_szStmtS.l0 (k + 1) y0 y1 y2)) ∧ (∀ y0 y1, LeO (laws_szStmtS.f k y0 y1) (laws_szStmtS.f (k + 1) y0 y1))
 | 0 => ⟨fun _ _ _ _ _ _ _ _ _ _ _ _ _ _ _ _ _ _ _ _ r h => by simp [laws_szStmt.f] at h, fun _ _ _ r h => by simp [laws_szStmtS.l0] at h, fun _ _ r h => by simp [laws_szStmtS.f] at h⟩
 | k + 1 => by
  have ih := laws_szStmt_szStmtS_both.mono k
  refine ⟨?_, ?_, ?_⟩
  ·intro y0 y1 y2 y3 y4 y5 y6 y7 y8 y9 y10 y11 y12 y13 y14 y15 y16 y17 y18 y19
   rw [laws_szStmt.f, laws_szStmt.f]
   repeat' first
   | (with_reducible exact ih.1 _ _ _ _ _ _ _ _ _ _ _ _ _ _ _ _ _ _ _ _)
   | (with_reducible exact ih.2.1 _ _ _)
   | (with_reducible exact ih.2.2 _ _)
   | (with_reducible exact laws_szExp.mono _ _ _ _ _ _)
   | (with_reducible exact LeO.refl _)
   | (with_reducible exact LeO.none _)
   | (with_reducible refine LeO.ite ?_ ?_)
   | (with_reducible refine LeO.bind ?_ (fun _ => ?_))
  ·intro y0 y1 y2
   rw [laws_szStmtS.l0, laws_szStmtS.l0]
   repeat' first
   | (with_reducible exact ih.1 _ _ _ _ _ _ _ _ _ _ _ _ _ _ _ _ _ _ _ _)
   | (with_reducible exact ih.2.1 _ _ _)
   | (with_reducible exact ih.2.2 _ _)
   | (with_reducible exact laws_szExp.mono _ _ _ _ _ _)
   | (with_reducible exact LeO.refl _)
   | (with_reducible exact LeO.none _)
   | (with_reducible refine LeO.ite ?_ ?_)
   | (with_reducible refine LeO.bind ?_ (fun _ => ?_))
  ·intro y0 y1
   rw [laws_szStmtS.f, laws_szStmtS.f]
   repeat' first
   | (with_reducible exact ih.1 _ _ _ _ _ _ _ _ _ _ _ _ _ _ _ _ _ _ _ _)
   | (with_reducible exact ih.2.1 _ _ _)
   | (with_reducible exact ih.2.2 _ _)
   | (with_reducible exact laws_szExp.mono _ _ _ _ _ _)
   | (with_reducible exact LeO.refl _)
   | (with_reducible exact LeO.none _)
   | (with_reducible refine LeO.ite ?_ ?_)
   | (with_reducible refine LeO.bind ?_ (fun _ => ?_))

theorem laws_szStmt.mono : ∀ a0 a1 a2 a3 a4 a5 a6 a7 a8 a9 a10 a11 a12 a13 a14 a15 a16 a17 a18 a19 k, LeO (laws_szStmt.f k a0 a1 a2 a3 a4 a5 a6 a7 a8 a9 a10 a11 a12 a13 a14 a15 a16 a17 a18 a19) (laws_szStmt.f (k + 1) a0 a1 a2 a3 a4 a5 a6 a7 a8 a9 a10 a11 a12 a13 a14 a15 a16 a17 a18 a19) := fun a0 a1 a2 a3 a4 a5 a6 a7 a8 a9 a10 a11 a12 a13 a14 a15 a16 a17 a18 a19 k => (laws_szStmt_szStmtS_both.mono k).1 a0 a1 a2 a3 a4 a5 a6 a7 a8 a9 a10 a11 a12 a13 a14 a15 a16 a17 a18 a19

theorem laws_szStmtS.mono : ∀ a0 a1 k, LeO (laws_szStmtS.f k a0 a1) (laws_szStmtS.f (k + 1) a0 a1) := fun a0 a1 k => (laws_szStmt_szStmtS_both.mono k).2.2 a0 a1

set_option maxHeartbeats 8000000 in
set_option maxRecDepth 100000 in
theorem laws_szStmt.callsG (K : Nat) (IH : Aside0 (∀ m, m < K → ∀ (A0 : Option Addr) (c0 : Nat) (l0 : List (S45)) (a1 : Int) (r : Int) (w : World) (hr0 : Kd.C k45 w A0 l0.length l0) (hc0 : l0.length ≤ c0) (h : laws_szStmtS.f m l0 a1 = some r),
   Calls Try.prog 58 #[.slice A0 l0.length c0, .int .i64 a1] w fun e w' => e = .returned (.int .i64 r) ∧ Below w.heap.size w w')) (a0_0 : Int) (a0_1 : ByteArray) (a0_2 : Int) (a0_3 : Int) (a0_4 : ByteArray) (A0_5 : Option Addr) (c0_5 : Nat) (l0_5 : List (S24)) (a0_6 : Int) (a0_7 : Int) (a0_8 : ByteArray) (A0_9 : Option Addr) (c0_9 : Nat) (l0_9 : List (S24)) (a0_10 : Int) (a0_11 : Int) (a0_12 : ByteArray) (A0_13 : Option Addr) (c0_13 : Nat) (l0_13 : List (S24)) (a0_14 : Int) (a0_15 : Int) (a0_16 : ByteArray) (A0_17 : Option Addr) (c0_17 : Nat) (l0_17 : List (S24)) (A0_18 : Option Addr) (c0_18 : Nat) (l0_18 : List (S45)) (a1 : Int) (r : Int) (w : World) (hr0_5 : Kd.C k24 w A0_5 l0_5.length l0_5) (hc0_5 : l0_5.length ≤ c0_5) (hr0_9 : Kd.C k24 w A0_9 l0_9.length l0_9) (hc0_9 : l0_9.length ≤ c0_9) (hr0_13 : Kd.C k24 w A0_13 l0_13.length l0_13) (hc0_13 : l0_13.length ≤ c0_13) (hr0_17 : Kd.C k24 w A0_17 l0_17.length l0_17) (hc0_17 : l0_17.length ≤ c0_17) (hr0_18 : Kd.C k45 w A0_18 l0_18.length l0_18) (hc0_18 : l0_18.length ≤ c0_18) (h : laws_szStmt.f K a0_0 a0_1 a0_2 a0_3 a0_4 l0_5 a0_6 a0_7 a0_8 l0_9 a0_10 a0_11 a0_12 l0_13 a0_14 a0_15 a0_16 l0_17 l0_18 a1 = some r) :
  Calls Try.prog 22 #[.agg #[.int .i64 a0_0, .string a0_1, .int .i64 a0_2, .int .i64 a0_3, .string a0_4, .slice A0_5 l0_5.length c0_5, .int .i64 a0_6, .int .i64 a0_7, .string a0_8, .slice A0_9 l0_9.length c0_9, .int .i64 a0_10, .int .i64 a0_11, .string a0_12, .slice A0_13 l0_13.length c0_13, .int .i64 a0_14, .int .i64 a0_15, .string a0_16, .slice A0_17 l0_17.length c0_17, .slice A0_18 l0_18.length c0_18], .int .i64 a1] w fun e w' => e = .returned (.int .i64 r) ∧ Below w.heap.size w w' := by
 cases K with
 |zero => exact absurd h (by simp [laws_szStmt.f])
 |succ k =>
 have hu45 := Try.underlying45
 have hu24 := Try.underlying24
 have HR0_5 := mk0 hr0_5
 have HC0_5 := mk0 hc0_5
 clear hr0_5 hc0_5
 have HR0_9 := mk0 hr0_9
 have HC0_9 := mk0 hc0_9
 clear hr0_9 hc0_9
 have HR0_13 := mk0 hr0_13
 have HC0_13 := mk0 hc0_13
 clear hr0_13 hc0_13
 have HR0_17 := mk0 hr0_17
 have HC0_17 := mk0 hc0_17
 clear hr0_17 hc0_17
 have HR0_18 := mk0 hr0_18
 have HC0_18 := mk0 hc0_18
 clear hr0_18 hc0_18
 have HB := mk0 (Below.refl w.heap.size w)
 have H : (if (wrap64 (a1 - (a0_1.size : Int))) < 0 then (some (-1)) else ((laws_szExp.f k a0_2 a0_3 a0_4 l0_5 (wrap64 (a1 - (a0_1.size : Int)))).bind fun t108 => (if t108 < 0 then (some (-1)) else ((laws_szExp.f k a0_6 a0_7 a0_8 l0_9 t108).bind fun t109 => (if t109 < 0 then (some (-1)) else ((laws_szExp.f k a0_10 a0_11 a0_12 l0_13 t109).bind fun t110 => (if t110 < 0 then (some (-1)) else ((laws_szExp.f k a0_14 a0_15 a0_16 l0_17 t110).bind fun t111 => (if t111 < 0 then (some (-1)) else ((laws_szStmtS.f k l0_18 t111).bind fun t112 => (if t112 < 0 then (some (-1)) else (some t112)))))))))))) = some r := by rw [laws_szStmt.f] at h;exact h
 clear h
 by_cases c3 : (wrap64 (a1 - (a0_1.size : Int))) < 0
 ·rw [if_pos c3] at H
  have c3b0 : decide ((wrap64 (a1 - (a0_1.size : Int))) < 0) = true := decide_eq_true c3
  clear c3
  obtain rfl := Option.some.inj H
  go_enter Try.func22,Try.ntmps22
  go_wp2_with (first|((with_reducible refine gate_dst (N := 2) rfl ?_);refine box_event ?hg (N := 2) ?hd (cs := #[.int .i64 a0_0,.string a0_1,.int .i64 a0_2,.int .i64 a0_3,.string a0_4,.slice A0_5 l0_5.length c0_5,.int .i64 a0_6,.int .i64 a0_7,.string a0_8,.slice A0_9 l0_9.length c0_9,.int .i64 a0_10,.int .i64 a0_11,.string a0_12,.slice A0_13 l0_13.length c0_13,.int .i64 a0_14,.int .i64 a0_15,.string a0_16,.slice A0_17 l0_17.length c0_17,.slice A0_18 l0_18.length c0_18]) (t := 45) ?hr ?_;(case hd => rfl);(case hg => rfl);(case hr => first|(go_simp;done)|(go_simp;rfl));intro gb107 hg w4 hbox hb;have q_ := qB (by repeat (first|(with_reducible first|exact HB.out|apply bA|apply bN|apply bD)|exact HB.out)) hb;have n0_ := mk0 (below_step q_ hb);have n1_ := mk0 (hbox);have n2_ := mk0 (below_size2 q_ hg);have n3_ := n2_;clear HB;have HB := n0_;have BK107 := n1_;have GW107 := n2_;have GE107 := n3_;clear q_ n0_ n1_ n2_ n3_ hb hbox hg)|((with_reducible refine gate_dst (N := 7) rfl ?_);refine normW ?_ (by (try simp only [Act.put,List.setIfInBounds_toArray,List.set_cons_zero,List.set_cons_succ]);rfl);refine ldOne rfl 9 _ rfl gb107 1 rfl (l := [.int .i64 a0_0,.string a0_1,.int .i64 a0_2,.int .i64 a0_3,.string a0_4,.slice A0_5 l0_5.length c0_5,.int .i64 a0_6,.int .i64 a0_7,.string a0_8,.slice A0_9 l0_9.length c0_9,.int .i64 a0_10,.int .i64 a0_11,.string a0_12,.slice A0_13 l0_13.length c0_13,.int .i64 a0_14,.int .i64 a0_15,.string a0_16,.slice A0_17 l0_17.length c0_17,.slice A0_18 l0_18.length c0_18]) (tb := 45) (by exact kX BK107.out) (.string a0_1) rfl (fun _ => by kernel_rfl) ?_))
  go_ret
  exact ⟨by first|rfl|(simp [errW_none,errW_some] <;> rfl)|(simp [*,errW_none,errW_some] <;> rfl),by repeat (first|(with_reducible first|exact HB.out|apply bA|apply bN|apply bD|refine bS ?_ GE107.out)|exact HB.out)⟩
 ·rw [if_neg c3] at H
  have c3b0 : decide ((wrap64 (a1 - (a0_1.size : Int))) < 0) = false := decide_eq_false c3
  clear c3
  obtain ⟨t108,A5,H⟩ := bindA H
  refine Or.elim (Classical.em (t108 < 0)) (fun c6 => ?yes8) (fun c6 => ?no8)
  case' yes8 =>
   rw [if_pos c6] at H
   have c6b0 : decide (t108 < 0) = true := decide_eq_true c6
   clear c6
   obtain rfl := Option.some.inj H
  case' no8 =>
   rw [if_neg c6] at H
   have c6b0 : decide (t108 < 0) = false := decide_eq_false c6
   clear c6
   obtain ⟨t109,A9,H⟩ := bindA H
   refine Or.elim (Classical.em (t109 < 0)) (fun c10 => ?yes9) (fun c10 => ?no9)
   case' yes9 =>
    rw [if_pos c10] at H
    have c10b0 : decide (t109 < 0) = true := decide_eq_true c10
    clear c10
    obtain rfl := Option.some.inj H
   case' no9 =>
    rw [if_neg c10] at H
    have c10b0 : decide (t109 < 0) = false := decide_eq_false c10
    clear c10
    obtain ⟨t110,A14,H⟩ := bindA H
    refine Or.elim (Classical.em (t110 < 0)) (fun c15 => ?yes6) (fun c15 => ?no6)
    case' yes6 =>
     rw [if_pos c15] at H
     have c15b0 : decide (t110 < 0) = true := decide_eq_true c15
     clear c15
     obtain rfl := Option.some.inj H
    case' no6 =>
     rw [if_neg c15] at H
     have c15b0 : decide (t110 < 0) = false := decide_eq_false c15
     clear c15
     obtain ⟨t111,A20,H⟩ := bindA H
     refine Or.elim (Classical.em (t111 < 0)) (fun c21 => ?yes7) (fun c21 => ?no7)
     case' yes7 =>
      rw [if_pos c21] at H
      have c21b0 : decide (t111 < 0) = true := decide_eq_true c21
      clear c21
      obtain rfl := Option.some.inj H
     case' no7 =>
      rw [if_neg c21] at H
      have c21b0 : decide (t111 < 0) = false := decide_eq_false c21
      clear c21
      obtain ⟨t112,A27,H⟩ := bindA H
      refine Or.elim (Classical.em (t112 < 0)) (fun c28 => ?yes5) (fun c28 => ?no5)
      case' yes5 =>
       rw [if_pos c28] at H
       have c28b0 : decide (t112 < 0) = true := decide_eq_true c28
       clear c28
       obtain rfl := Option.some.inj H
      case' no5 =>
       rw [if_neg c28] at H
       have c28b0 : decide (t112 < 0) = false := decide_eq_false c28
       clear c28
       obtain rfl := Option.some.inj H
      all_goals
       go_enter Try.func22,Try.ntmps22
       go_wp2_with (first|((with_reducible refine gate_dst (N := 2) rfl ?_);refine box_event ?hg (N := 2) ?hd (cs := #[.int .i64 a0_0,.string a0_1,.int .i64 a0_2,.int .i64 a0_3,.string a0_4,.slice A0_5 l0_5.length c0_5,.int .i64 a0_6,.int .i64 a0_7,.string a0_8,.slice A0_9 l0_9.length c0_9,.int .i64 a0_10,.int .i64 a0_11,.string a0_12,.slice A0_13 l0_13.length c0_13,.int .i64 a0_14,.int .i64 a0_15,.string a0_16,.slice A0_17 l0_17.length c0_17,.slice A0_18 l0_18.length c0_18]) (t := 45) ?hr ?_;(case hd => rfl);(case hg => rfl);(case hr => first|(go_simp;done)|(go_simp;rfl));intro gb107 hg w29 hbox hb;have q_ := qB (by repeat (first|(with_reducible first|exact HB.out|apply bA|apply bN|apply bD)|exact HB.out)) hb;have n0_ := mk0 (below_step q_ hb);have n1_ := mk0 (hbox);have n2_ := mk0 (below_size2 q_ hg);have n3_ := n2_;clear HB;have HB := n0_;have BK107 := n1_;have GW107 := n2_;have GE107 := n3_;clear q_ n0_ n1_ n2_ n3_ hb hbox hg)|((with_reducible refine gate_dst (N := 7) rfl ?_);refine normW ?_ (by (try simp only [Act.put,List.setIfInBounds_toArray,List.set_cons_zero,List.set_cons_succ]);rfl);refine ldOne rfl 9 _ rfl gb107 1 rfl (l := [.int .i64 a0_0,.string a0_1,.int .i64 a0_2,.int .i64 a0_3,.string a0_4,.slice A0_5 l0_5.length c0_5,.int .i64 a0_6,.int .i64 a0_7,.string a0_8,.slice A0_9 l0_9.length c0_9,.int .i64 a0_10,.int .i64 a0_11,.string a0_12,.slice A0_13 l0_13.length c0_13,.int .i64 a0_14,.int .i64 a0_15,.string a0_16,.slice A0_17 l0_17.length c0_17,.slice A0_18 l0_18.length c0_18]) (tb := 45) (by exact kX BK107.out) (.string a0_1) rfl (fun _ => by kernel_rfl) ?_)|((with_reducible refine gate_dst (N := 13) rfl ?_);refine normW ?_ (by (try simp only [Act.put,List.setIfInBounds_toArray,List.set_cons_zero,List.set_cons_succ]);rfl);refine ldBox rfl 24 _ rfl gb107 2 rfl (l := [.int .i64 a0_0,.string a0_1,.int .i64 a0_2,.int .i64 a0_3,.string a0_4,.slice A0_5 l0_5.length c0_5,.int .i64 a0_6,.int .i64 a0_7,.string a0_8,.slice A0_9 l0_9.length c0_9,.int .i64 a0_10,.int .i64 a0_11,.string a0_12,.slice A0_13 l0_13.length c0_13,.int .i64 a0_14,.int .i64 a0_15,.string a0_16,.slice A0_17 l0_17.length c0_17,.slice A0_18 l0_18.length c0_18]) (tb := 45) (by exact kX BK107.out) [.int .i64 a0_2,.int .i64 a0_3,.string a0_4,.slice A0_5 l0_5.length c0_5] rfl _ hu24 (by kernel_rfl) ?_)|((with_reducible refine gate_callee (f := 10) rfl ?_);refine goesL_ (some 15) rfl rfl Try.func10 (by kernel_rfl) rfl #[.agg #[.int .i64 a0_2,.int .i64 a0_3,.string a0_4,.slice A0_5 l0_5.length c0_5],.int .i64 (wrap64 (a1 - (a0_1.size : Int)))] rfl (by (try simp only [List.map_toArray,List.map_cons,List.map_nil]);first|done|rfl) ?_;(with_reducible refine (laws_szExp.calls k a0_2 a0_3 a0_4 _ _ l0_5 (wrap64 (a1 - (a0_1.size : Int))) t108 _ ?side1 ?side2 A5.out).mono ?_);(case side1 => repeat (first|exact (Kd.C_below HR0_5.out HB.out)|(with_reducible refine cA ?_ _)|(with_reducible refine cN ?_ _)|(with_reducible refine cD ?_)));(case side2 => exact HC0_5.out);rintro e w30 ⟨rfl,hb⟩;refine ⟨_,rfl,?_⟩;have n0_ := mk0 (blk_below (by exact kX BK107.out) hb);have n1_ := mk0 (below_step (by repeat (first|(with_reducible first|exact HB.out|apply bA|apply bN|apply bD|refine bS ?_ GE107.out)|exact HB.out)) hb);clear BK107 HB;have BK107 := n0_;have HB := n1_;clear n0_ n1_;(try clear hb);(try clear hb2);(try clear hk);(try clear hi))|((with_reducible refine gate_dst (N := 19) rfl ?_);refine normW ?_ (by (try simp only [Act.put,List.setIfInBounds_toArray,List.set_cons_zero,List.set_cons_succ]);rfl);refine ldBox rfl 24 _ rfl gb107 6 rfl (l := [.int .i64 a0_0,.string a0_1,.int .i64 a0_2,.int .i64 a0_3,.string a0_4,.slice A0_5 l0_5.length c0_5,.int .i64 a0_6,.int .i64 a0_7,.string a0_8,.slice A0_9 l0_9.length c0_9,.int .i64 a0_10,.int .i64 a0_11,.string a0_12,.slice A0_13 l0_13.length c0_13,.int .i64 a0_14,.int .i64 a0_15,.string a0_16,.slice A0_17 l0_17.length c0_17,.slice A0_18 l0_18.length c0_18]) (tb := 45) (by exact kX BK107.out) [.int .i64 a0_6,.int .i64 a0_7,.string a0_8,.slice A0_9 l0_9.length c0_9] rfl _ hu24 (by kernel_rfl) ?_)|((with_reducible refine gate_callee (f := 10) rfl ?_);refine goesL_ (some 21) rfl rfl Try.func10 (by kernel_rfl) rfl #[.agg #[.int .i64 a0_6,.int .i64 a0_7,.string a0_8,.slice A0_9 l0_9.length c0_9],.int .i64 t108] rfl (by (try simp only [List.map_toArray,List.map_cons,List.map_nil]);first|done|rfl) ?_;(with_reducible refine (laws_szExp.calls k a0_6 a0_7 a0_8 _ _ l0_9 t108 t109 _ ?side1 ?side2 A9.out).mono ?_);(case side1 => repeat (first|exact (Kd.C_below HR0_9.out HB.out)|(with_reducible refine cA ?_ _)|(with_reducible refine cN ?_ _)|(with_reducible refine cD ?_)));(case side2 => exact HC0_9.out);rintro e w31 ⟨rfl,hb⟩;refine ⟨_,rfl,?_⟩;have n0_ := mk0 (blk_below (by exact kX BK107.out) hb);have n1_ := mk0 (below_step (by repeat (first|(with_reducible first|exact HB.out|apply bA|apply bN|apply bD|refine bS ?_ GE107.out)|exact HB.out)) hb);clear BK107 HB;have BK107 := n0_;have HB := n1_;clear n0_ n1_;(try clear hb);(try clear hb2);(try clear hk);(try clear hi))|((with_reducible refine gate_dst (N := 25) rfl ?_);refine normW ?_ (by (try simp only [Act.put,List.setIfInBounds_toArray,List.set_cons_zero,List.set_cons_succ]);rfl);refine ldBox rfl 24 _ rfl gb107 10 rfl (l := [.int .i64 a0_0,.string a0_1,.int .i64 a0_2,.int .i64 a0_3,.string a0_4,.slice A0_5 l0_5.length c0_5,.int .i64 a0_6,.int .i64 a0_7,.string a0_8,.slice A0_9 l0_9.length c0_9,.int .i64 a0_10,.int .i64 a0_11,.string a0_12,.slice A0_13 l0_13.length c0_13,.int .i64 a0_14,.int .i64 a0_15,.string a0_16,.slice A0_17 l0_17.length c0_17,.slice A0_18 l0_18.length c0_18]) (tb := 45) (by exact kX BK107.out) [.int .i64 a0_10,.int .i64 a0_11,.string a0_12,.slice A0_13 l0_13.length c0_13] rfl _ hu24 (by kernel_rfl) ?_)|((with_reducible refine gate_callee (f := 10) rfl ?_);refine goesL_ (some 27) rfl rfl Try.func10 (by kernel_rfl) rfl #[.agg #[.int .i64 a0_10,.int .i64 a0_11,.string a0_12,.slice A0_13 l0_13.length c0_13],.int .i64 t109] rfl (by (try simp only [List.map_toArray,List.map_cons,List.map_nil]);first|done|rfl) ?_;(with_reducible refine (laws_szExp.calls k a0_10 a0_11 a0_12 _ _ l0_13 t109 t110 _ ?side1 ?side2 A14.out).mono ?_);(case side1 => repeat (first|exact (Kd.C_below HR0_13.out HB.out)|(with_reducible refine cA ?_ _)|(with_reducible refine cN ?_ _)|(with_reducible refine cD ?_)));(case side2 => exact HC0_13.out);rintro e w32 ⟨rfl,hb⟩;refine ⟨_,rfl,?_⟩;have n0_ := mk0 (blk_below (by exact kX BK107.out) hb);have n1_ := mk0 (below_step (by repeat (first|(with_reducible first|exact HB.out|apply bA|apply bN|apply bD|refine bS ?_ GE107.out)|exact HB.out)) hb);clear BK107 HB;have BK107 := n0_;have HB := n1_;clear n0_ n1_;(try clear hb);(try clear hb2);(try clear hk);(try clear hi))|((with_reducible refine gate_dst (N := 31) rfl ?_);refine normW ?_ (by (try simp only [Act.put,List.setIfInBounds_toArray,List.set_cons_zero,List.set_cons_succ]);rfl);refine ldBox rfl 24 _ rfl gb107 14 rfl (l := [.int .i64 a0_0,.string a0_1,.int .i64 a0_2,.int .i64 a0_3,.string a0_4,.slice A0_5 l0_5.length c0_5,.int .i64 a0_6,.int .i64 a0_7,.string a0_8,.slice A0_9 l0_9.length c0_9,.int .i64 a0_10,.int .i64 a0_11,.string a0_12,.slice A0_13 l0_13.length c0_13,.int .i64 a0_14,.int .i64 a0_15,.string a0_16,.slice A0_17 l0_17.length c0_17,.slice A0_18 l0_18.length c0_18]) (tb := 45) (by exact kX BK107.out) [.int .i64 a0_14,.int .i64 a0_15,.string a0_16,.slice A0_17 l0_17.length c0_17] rfl _ hu24 (by kernel_rfl) ?_)|((with_reducible refine gate_callee (f := 10) rfl ?_);refine goesL_ (some 33) rfl rfl Try.func10 (by kernel_rfl) rfl #[.agg #[.int .i64 a0_14,.int .i64 a0_15,.string a0_16,.slice A0_17 l0_17.length c0_17],.int .i64 t110] rfl (by (try simp only [List.map_toArray,List.map_cons,List.map_nil]);first|done|rfl) ?_;(with_reducible refine (laws_szExp.calls k a0_14 a0_15 a0_16 _ _ l0_17 t110 t111 _ ?side1 ?side2 A20.out).mono ?_);(case side1 => repeat (first|exact (Kd.C_below HR0_17.out HB.out)|(with_reducible refine cA ?_ _)|(with_reducible refine cN ?_ _)|(with_reducible refine cD ?_)));(case side2 => exact HC0_17.out);rintro e w33 ⟨rfl,hb⟩;refine ⟨_,rfl,?_⟩;have n0_ := mk0 (blk_below (by exact kX BK107.out) hb);have n1_ := mk0 (below_step (by repeat (first|(with_reducible first|exact HB.out|apply bA|apply bN|apply bD|refine bS ?_ GE107.out)|exact HB.out)) hb);clear BK107 HB;have BK107 := n0_;have HB := n1_;clear n0_ n1_;(try clear hb);(try clear hb2);(try clear hk);(try clear hi))|((with_reducible refine gate_dst (N := 37) rfl ?_);refine normW ?_ (by (try simp only [Act.put,List.setIfInBounds_toArray,List.set_cons_zero,List.set_cons_succ]);rfl);refine ldOne rfl 43 _ rfl gb107 18 rfl (l := [.int .i64 a0_0,.string a0_1,.int .i64 a0_2,.int .i64 a0_3,.string a0_4,.slice A0_5 l0_5.length c0_5,.int .i64 a0_6,.int .i64 a0_7,.string a0_8,.slice A0_9 l0_9.length c0_9,.int .i64 a0_10,.int .i64 a0_11,.string a0_12,.slice A0_13 l0_13.length c0_13,.int .i64 a0_14,.int .i64 a0_15,.string a0_16,.slice A0_17 l0_17.length c0_17,.slice A0_18 l0_18.length c0_18]) (tb := 45) (by exact kX BK107.out) (.slice A0_18 l0_18.length c0_18) rfl (fun _ => by kernel_rfl) ?_)|((with_reducible refine gate_callee (f := 58) rfl ?_);refine goesL_ (some 39) rfl rfl Try.func58 (by kernel_rfl) rfl #[.slice A0_18 l0_18.length c0_18,.int .i64 t111] rfl (by (try simp only [List.map_toArray,List.map_cons,List.map_nil]);first|done|rfl) ?_;(with_reducible refine (IH.out k (by omega) _ _ l0_18 t111 t112 _ ?side1 ?side2 A27.out).mono ?_);(case side1 => repeat (first|exact (Kd.C_below HR0_18.out HB.out)|(with_reducible refine cA ?_ _)|(with_reducible refine cN ?_ _)|(with_reducible refine cD ?_)));(case side2 => exact HC0_18.out);rintro e w34 ⟨rfl,hb⟩;refine ⟨_,rfl,?_⟩;have n0_ := mk0 (blk_below (by exact kX BK107.out) hb);have n1_ := mk0 (below_step (by repeat (first|(with_reducible first|exact HB.out|apply bA|apply bN|apply bD|refine bS ?_ GE107.out)|exact HB.out)) hb);clear BK107 HB;have BK107 := n0_;have HB := n1_;clear n0_ n1_;(try clear hb);(try clear hb2);(try clear hk);(try clear hi)))
       go_ret
       exact ⟨by first|rfl|(simp [errW_none,errW_some] <;> rfl)|(simp [*,errW_none,errW_some] <;> rfl),by repeat (first|(with_reducible first|exact HB.out|apply bA|apply bN|apply bD|refine bS ?_ GE107.out)|exact HB.out)⟩
    all_goals
     go_enter Try.func22,Try.ntmps22
     go_wp2_with (first|((with_reducible refine gate_dst (N := 2) rfl ?_);refine box_event ?hg (N := 2) ?hd (cs := #[.int .i64 a0_0,.string a0_1,.int .i64 a0_2,.int .i64 a0_3,.string a0_4,.slice A0_5 l0_5.length c0_5,.int .i64 a0_6,.int .i64 a0_7,.string a0_8,.slice A0_9 l0_9.length c0_9,.int .i64 a0_10,.int .i64 a0_11,.string a0_12,.slice A0_13 l0_13.length c0_13,.int .i64 a0_14,.int .i64 a0_15,.string a0_16,.slice A0_17 l0_17.length c0_17,.slice A0_18 l0_18.length c0_18]) (t := 45) ?hr ?_;(case hd => rfl);(case hg => rfl);(case hr => first|(go_simp;done)|(go_simp;rfl));intro gb107 hg w22 hbox hb;have q_ := qB (by repeat (first|(with_reducible first|exact HB.out|apply bA|apply bN|apply bD)|exact HB.out)) hb;have n0_ := mk0 (below_step q_ hb);have n1_ := mk0 (hbox);have n2_ := mk0 (below_size2 q_ hg);have n3_ := n2_;clear HB;have HB := n0_;have BK107 := n1_;have GW107 := n2_;have GE107 := n3_;clear q_ n0_ n1_ n2_ n3_ hb hbox hg)|((with_reducible refine gate_dst (N := 7) rfl ?_);refine normW ?_ (by (try simp only [Act.put,List.setIfInBounds_toArray,List.set_cons_zero,List.set_cons_succ]);rfl);refine ldOne rfl 9 _ rfl gb107 1 rfl (l := [.int .i64 a0_0,.string a0_1,.int .i64 a0_2,.int .i64 a0_3,.string a0_4,.slice A0_5 l0_5.length c0_5,.int .i64 a0_6,.int .i64 a0_7,.string a0_8,.slice A0_9 l0_9.length c0_9,.int .i64 a0_10,.int .i64 a0_11,.string a0_12,.slice A0_13 l0_13.length c0_13,.int .i64 a0_14,.int .i64 a0_15,.string a0_16,.slice A0_17 l0_17.length c0_17,.slice A0_18 l0_18.length c0_18]) (tb := 45) (by exact kX BK107.out) (.string a0_1) rfl (fun _ => by kernel_rfl) ?_)|((with_reducible refine gate_dst (N := 13) rfl ?_);refine normW ?_ (by (try simp only [Act.put,List.setIfInBounds_toArray,List.set_cons_zero,List.set_cons_succ]);rfl);refine ldBox rfl 24 _ rfl gb107 2 rfl (l := [.int .i64 a0_0,.string a0_1,.int .i64 a0_2,.int .i64 a0_3,.string a0_4,.slice A0_5 l0_5.length c0_5,.int .i64 a0_6,.int .i64 a0_7,.string a0_8,.slice A0_9 l0_9.length c0_9,.int .i64 a0_10,.int .i64 a0_11,.string a0_12,.slice A0_13 l0_13.length c0_13,.int .i64 a0_14,.int .i64 a0_15,.string a0_16,.slice A0_17 l0_17.length c0_17,.slice A0_18 l0_18.length c0_18]) (tb := 45) (by exact kX BK107.out) [.int .i64 a0_2,.int .i64 a0_3,.string a0_4,.slice A0_5 l0_5.length c0_5] rfl _ hu24 (by kernel_rfl) ?_)|((with_reducible refine gate_callee (f := 10) rfl ?_);refine goesL_ (some 15) rfl rfl Try.func10 (by kernel_rfl) rfl #[.agg #[.int .i64 a0_2,.int .i64 a0_3,.string a0_4,.slice A0_5 l0_5.length c0_5],.int .i64 (wrap64 (a1 - (a0_1.size : Int)))] rfl (by (try simp only [List.map_toArray,List.map_cons,List.map_nil]);first|done|rfl) ?_;(with_reducible refine (laws_szExp.calls k a0_2 a0_3 a0_4 _ _ l0_5 (wrap64 (a1 - (a0_1.size : Int))) t108 _ ?side1 ?side2 A5.out).mono ?_);(case side1 => repeat (first|exact (Kd.C_below HR0_5.out HB.out)|(with_reducible refine cA ?_ _)|(with_reducible refine cN ?_ _)|(with_reducible refine cD ?_)));(case side2 => exact HC0_5.out);rintro e w23 ⟨rfl,hb⟩;refine ⟨_,rfl,?_⟩;have n0_ := mk0 (blk_below (by exact kX BK107.out) hb);have n1_ := mk0 (below_step (by repeat (first|(with_reducible first|exact HB.out|apply bA|apply bN|apply bD|refine bS ?_ GE107.out)|exact HB.out)) hb);clear BK107 HB;have BK107 := n0_;have HB := n1_;clear n0_ n1_;(try clear hb);(try clear hb2);(try clear hk);(try clear hi))|((with_reducible refine gate_dst (N := 19) rfl ?_);refine normW ?_ (by (try simp only [Act.put,List.setIfInBounds_toArray,List.set_cons_zero,List.set_cons_succ]);rfl);refine ldBox rfl 24 _ rfl gb107 6 rfl (l := [.int .i64 a0_0,.string a0_1,.int .i64 a0_2,.int .i64 a0_3,.string a0_4,.slice A0_5 l0_5.length c0_5,.int .i64 a0_6,.int .i64 a0_7,.string a0_8,.slice A0_9 l0_9.length c0_9,.int .i64 a0_10,.int .i64 a0_11,.string a0_12,.slice A0_13 l0_13.length c0_13,.int .i64 a0_14,.int .i64 a0_15,.string a0_16,.slice A0_17 l0_17.length c0_17,.slice A0_18 l0_18.length c0_18]) (tb := 45) (by exact kX BK107.out) [.int .i64 a0_6,.int .i64 a0_7,.string a0_8,.slice A0_9 l0_9.length c0_9] rfl _ hu24 (by kernel_rfl) ?_)|((with_reducible refine gate_callee (f := 10) rfl ?_);refine goesL_ (some 21) rfl rfl Try.func10 (by kernel_rfl) rfl #[.agg #[.int .i64 a0_6,.int .i64 a0_7,.string a0_8,.slice A0_9 l0_9.length c0_9],.int .i64 t108] rfl (by (try simp only [List.map_toArray,List.map_cons,List.map_nil]);first|done|rfl) ?_;(with_reducible refine (laws_szExp.calls k a0_6 a0_7 a0_8 _ _ l0_9 t108 t109 _ ?side1 ?side2 A9.out).mono ?_);(case side1 => repeat (first|exact (Kd.C_below HR0_9.out HB.out)|(with_reducible refine cA ?_ _)|(with_reducible refine cN ?_ _)|(with_reducible refine cD ?_)));(case side2 => exact HC0_9.out);rintro e w24 ⟨rfl,hb⟩;refine ⟨_,rfl,?_⟩;have n0_ := mk0 (blk_below (by exact kX BK107.out) hb);have n1_ := mk0 (below_step (by repeat (first|(with_reducible first|exact HB.out|apply bA|apply bN|apply bD|refine bS ?_ GE107.out)|exact HB.out)) hb);clear BK107 HB;have BK107 := n0_;have HB := n1_;clear n0_ n1_;(try clear hb);(try clear hb2);(try clear hk);(try clear hi))|((with_reducible refine gate_dst (N := 25) rfl ?_);refine normW ?_ (by (try simp only [Act.put,List.setIfInBounds_toArray,List.set_cons_zero,List.set_cons_succ]);rfl);refine ldBox rfl 24 _ rfl gb107 10 rfl (l := [.int .i64 a0_0,.string a0_1,.int .i64 a0_2,.int .i64 a0_3,.string a0_4,.slice A0_5 l0_5.length c0_5,.int .i64 a0_6,.int .i64 a0_7,.string a0_8,.slice A0_9 l0_9.length c0_9,.int .i64 a0_10,.int .i64 a0_11,.string a0_12,.slice A0_13 l0_13.length c0_13,.int .i64 a0_14,.int .i64 a0_15,.string a0_16,.slice A0_17 l0_17.length c0_17,.slice A0_18 l0_18.length c0_18]) (tb := 45) (by exact kX BK107.out) [.int .i64 a0_10,.int .i64 a0_11,.string a0_12,.slice A0_13 l0_13.length c0_13] rfl _ hu24 (by kernel_rfl) ?_)|((with_reducible refine gate_callee (f := 10) rfl ?_);refine goesL_ (some 27) rfl rfl Try.func10 (by kernel_rfl) rfl #[.agg #[.int .i64 a0_10,.int .i64 a0_11,.string a0_12,.slice A0_13 l0_13.length c0_13],.int .i64 t109] rfl (by (try simp only [List.map_toArray,List.map_cons,List.map_nil]);first|done|rfl) ?_;(with_reducible refine (laws_szExp.calls k a0_10 a0_11 a0_12 _ _ l0_13 t109 t110 _ ?side1 ?side2 A14.out).mono ?_);(case side1 => repeat (first|exact (Kd.C_below HR0_13.out HB.out)|(with_reducible refine cA ?_ _)|(with_reducible refine cN ?_ _)|(with_reducible refine cD ?_)));(case side2 => exact HC0_13.out);rintro e w25 ⟨rfl,hb⟩;refine ⟨_,rfl,?_⟩;have n0_ := mk0 (blk_below (by exact kX BK107.out) hb);have n1_ := mk0 (below_step (by repeat (first|(with_reducible first|exact HB.out|apply bA|apply bN|apply bD|refine bS ?_ GE107.out)|exact HB.out)) hb);clear BK107 HB;have BK107 := n0_;have HB := n1_;clear n0_ n1_;(try clear hb);(try clear hb2);(try clear hk);(try clear hi))|((with_reducible refine gate_dst (N := 31) rfl ?_);refine normW ?_ (by (try simp only [Act.put,List.setIfInBounds_toArray,List.set_cons_zero,List.set_cons_succ]);rfl);refine ldBox rfl 24 _ rfl gb107 14 rfl (l := [.int .i64 a0_0,.string a0_1,.int .i64 a0_2,.int .i64 a0_3,.string a0_4,.slice A0_5 l0_5.length c0_5,.int .i64 a0_6,.int .i64 a0_7,.string a0_8,.slice A0_9 l0_9.length c0_9,.int .i64 a0_10,.int .i64 a0_11,.string a0_12,.slice A0_13 l0_13.length c0_13,.int .i64 a0_14,.int .i64 a0_15,.string a0_16,.slice A0_17 l0_17.length c0_17,.slice A0_18 l0_18.length c0_18]) (tb := 45) (by exact kX BK107.out) [.int .i64 a0_14,.int .i64 a0_15,.string a0_16,.slice A0_17 l0_17.length c0_17] rfl _ hu24 (by kernel_rfl) ?_)|((with_reducible refine gate_callee (f := 10) rfl ?_);refine goesL_ (some 33) rfl rfl Try.func10 (by kernel_rfl) rfl #[.agg #[.int .i64 a0_14,.int .i64 a0_15,.string a0_16,.slice A0_17 l0_17.length c0_17],.int .i64 t110] rfl (by (try simp only [List.map_toArray,List.map_cons,List.map_nil]);first|done|rfl) ?_;(with_reducible refine (laws_szExp.calls k a0_14 a0_15 a0_16 _ _ l0_17 t110 t111 _ ?side1 ?side2 A20.out).mono ?_);(case side1 => repeat (first|exact (Kd.C_below HR0_17.out HB.out)|(with_reducible refine cA ?_ _)|(with_reducible refine cN ?_ _)|(with_reducible refine cD ?_)));(case side2 => exact HC0_17.out);rintro e w26 ⟨rfl,hb⟩;refine ⟨_,rfl,?_⟩;have n0_ := mk0 (blk_below (by exact kX BK107.out) hb);have n1_ := mk0 (below_step (by repeat (first|(with_reducible first|exact HB.out|apply bA|apply bN|apply bD|refine bS ?_ GE107.out)|exact HB.out)) hb);clear BK107 HB;have BK107 := n0_;have HB := n1_;clear n0_ n1_;(try clear hb);(try clear hb2);(try clear hk);(try clear hi)))
     go_ret
     exact ⟨by first|rfl|(simp [errW_none,errW_some] <;> rfl)|(simp [*,errW_none,errW_some] <;> rfl),by repeat (first|(with_reducible first|exact HB.out|apply bA|apply bN|apply bD|refine bS ?_ GE107.out)|exact HB.out)⟩
  all_goals
   go_enter Try.func22,Try.ntmps22
   go_wp2_with (first|((with_reducible refine gate_dst (N := 2) rfl ?_);refine box_event ?hg (N := 2) ?hd (cs := #[.int .i64 a0_0,.string a0_1,.int .i64 a0_2,.int .i64 a0_3,.string a0_4,.slice A0_5 l0_5.length c0_5,.int .i64 a0_6,.int .i64 a0_7,.string a0_8,.slice A0_9 l0_9.length c0_9,.int .i64 a0_10,.int .i64 a0_11,.string a0_12,.slice A0_13 l0_13.length c0_13,.int .i64 a0_14,.int .i64 a0_15,.string a0_16,.slice A0_17 l0_17.length c0_17,.slice A0_18 l0_18.length c0_18]) (t := 45) ?hr ?_;(case hd => rfl);(case hg => rfl);(case hr => first|(go_simp;done)|(go_simp;rfl));intro gb107 hg w11 hbox hb;have q_ := qB (by repeat (first|(with_reducible first|exact HB.out|apply bA|apply bN|apply bD)|exact HB.out)) hb;have n0_ := mk0 (below_step q_ hb);have n1_ := mk0 (hbox);have n2_ := mk0 (below_size2 q_ hg);have n3_ := n2_;clear HB;have HB := n0_;have BK107 := n1_;have GW107 := n2_;have GE107 := n3_;clear q_ n0_ n1_ n2_ n3_ hb hbox hg)|((with_reducible refine gate_dst (N := 7) rfl ?_);refine normW ?_ (by (try simp only [Act.put,List.setIfInBounds_toArray,List.set_cons_zero,List.set_cons_succ]);rfl);refine ldOne rfl 9 _ rfl gb107 1 rfl (l := [.int .i64 a0_0,.string a0_1,.int .i64 a0_2,.int .i64 a0_3,.string a0_4,.slice A0_5 l0_5.length c0_5,.int .i64 a0_6,.int .i64 a0_7,.string a0_8,.slice A0_9 l0_9.length c0_9,.int .i64 a0_10,.int .i64 a0_11,.string a0_12,.slice A0_13 l0_13.length c0_13,.int .i64 a0_14,.int .i64 a0_15,.string a0_16,.slice A0_17 l0_17.length c0_17,.slice A0_18 l0_18.length c0_18]) (tb := 45) (by exact kX BK107.out) (.string a0_1) rfl (fun _ => by kernel_rfl) ?_)|((with_reducible refine gate_dst (N := 13) rfl ?_);refine normW ?_ (by (try simp only [Act.put,List.setIfInBounds_toArray,List.set_cons_zero,List.set_cons_succ]);rfl);refine ldBox rfl 24 _ rfl gb107 2 rfl (l := [.int .i64 a0_0,.string a0_1,.int .i64 a0_2,.int .i64 a0_3,.string a0_4,.slice A0_5 l0_5.length c0_5,.int .i64 a0_6,.int .i64 a0_7,.string a0_8,.slice A0_9 l0_9.length c0_9,.int .i64 a0_10,.int .i64 a0_11,.string a0_12,.slice A0_13 l0_13.length c0_13,.int .i64 a0_14,.int .i64 a0_15,.string a0_16,.slice A0_17 l0_17.length c0_17,.slice A0_18 l0_18.length c0_18]) (tb := 45) (by exact kX BK107.out) [.int .i64 a0_2,.int .i64 a0_3,.string a0_4,.slice A0_5 l0_5.length c0_5] rfl _ hu24 (by kernel_rfl) ?_)|((with_reducible refine gate_callee (f := 10) rfl ?_);refine goesL_ (some 15) rfl rfl Try.func10 (by kernel_rfl) rfl #[.agg #[.int .i64 a0_2,.int .i64 a0_3,.string a0_4,.slice A0_5 l0_5.length c0_5],.int .i64 (wrap64 (a1 - (a0_1.size : Int)))] rfl (by (try simp only [List.map_toArray,List.map_cons,List.map_nil]);first|done|rfl) ?_;(with_reducible refine (laws_szExp.calls k a0_2 a0_3 a0_4 _ _ l0_5 (wrap64 (a1 - (a0_1.size : Int))) t108 _ ?side1 ?side2 A5.out).mono ?_);(case side1 => repeat (first|exact (Kd.C_below HR0_5.out HB.out)|(with_reducible refine cA ?_ _)|(with_reducible refine cN ?_ _)|(with_reducible refine cD ?_)));(case side2 => exact HC0_5.out);rintro e w12 ⟨rfl,hb⟩;refine ⟨_,rfl,?_⟩;have n0_ := mk0 (blk_below (by exact kX BK107.out) hb);have n1_ := mk0 (below_step (by repeat (first|(with_reducible first|exact HB.out|apply bA|apply bN|apply bD|refine bS ?_ GE107.out)|exact HB.out)) hb);clear BK107 HB;have BK107 := n0_;have HB := n1_;clear n0_ n1_;(try clear hb);(try clear hb2);(try clear hk);(try clear hi))|((with_reducible refine gate_dst (N := 19) rfl ?_);refine normW ?_ (by (try simp only [Act.put,List.setIfInBounds_toArray,List.set_cons_zero,List.set_cons_succ]);rfl);refine ldBox rfl 24 _ rfl gb107 6 rfl (l := [.int .i64 a0_0,.string a0_1,.int .i64 a0_2,.int .i64 a0_3,.string a0_4,.slice A0_5 l0_5.length c0_5,.int .i64 a0_6,.int .i64 a0_7,.string a0_8,.slice A0_9 l0_9.length c0_9,.int .i64 a0_10,.int .i64 a0_11,.string a0_12,.slice A0_13 l0_13.length c0_13,.int .i64 a0_14,.int .i64 a0_15,.string a0_16,.slice A0_17 l0_17.length c0_17,.slice A0_18 l0_18.length c0_18]) (tb := 45) (by exact kX BK107.out) [.int .i64 a0_6,.int .i64 a0_7,.string a0_8,.slice A0_9 l0_9.length c0_9] rfl _ hu24 (by kernel_rfl) ?_)|((with_reducible refine gate_callee (f := 10) rfl ?_);refine goesL_ (some 21) rfl rfl Try.func10 (by kernel_rfl) rfl #[.agg #[.int .i64 a0_6,.int .i64 a0_7,.string a0_8,.slice A0_9 l0_9.length c0_9],.int .i64 t108] rfl (by (try simp only [List.map_toArray,List.map_cons,List.map_nil]);first|done|rfl) ?_;(with_reducible refine (laws_szExp.calls k a0_6 a0_7 a0_8 _ _ l0_9 t108 t109 _ ?side1 ?side2 A9.out).mono ?_);(case side1 => repeat (first|exact (Kd.C_below HR0_9.out HB.out)|(with_reducible refine cA ?_ _)|(with_reducible refine cN ?_ _)|(with_reducible refine cD ?_)));(case side2 => exact HC0_9.out);rintro e w13 ⟨rfl,hb⟩;refine ⟨_,rfl,?_⟩;have n0_ := mk0 (blk_below (by exact kX BK107.out) hb);have n1_ := mk0 (below_step (by repeat (first|(with_reducible first|exact HB.out|apply bA|apply bN|apply bD|refine bS ?_ GE107.out)|exact HB.out)) hb);clear BK107 HB;have BK107 := n0_;have HB := n1_;clear n0_ n1_;(try clear hb);(try clear hb2);(try clear hk);(try clear hi)))
   go_ret
   exact ⟨by first|rfl|(simp [errW_none,errW_some] <;> rfl)|(simp [*,errW_none,errW_some] <;> rfl),by repeat (first|(with_reducible first|exact HB.out|apply bA|apply bN|apply bD|refine bS ?_ GE107.out)|exact HB.out)⟩

set_option maxHeartbeats 8000000 in
set_option maxRecDepth 100000 in
theorem laws_szStmtS.callsG (K : Nat) (IH : Aside0 (∀ m, m < K → ∀ (a0_0 : Int) (a0_1 : ByteArray) (a0_2 : Int) (a0_3 : Int) (a0_4 : ByteArray) (A0_5 : Option Addr) (c0_5 : Nat) (l0_5 : List (S24)) (a0_6 : Int) (a0_7 : Int) (a0_8 : ByteArray) (A0_9 : Option Addr) (c0_9 : Nat) (l0_9 : List (S24)) (a0_10 : Int) (a0_11 : Int) (a0_12 : ByteArray) (A0_13 : Option Addr) (c0_13 : Nat) (l0_13 : List (S24)) (a0_14 : Int) (a0_15 : Int) (a0_16 : ByteArray) (A0_17 : Option Addr) (c0_17 : Nat) (l0_17 : List (S24)) (A0_18 : Option Addr) (c0_18 : Nat) (l0_18 : List (S45)) (a1 : Int) (r : Int) (w : World) (hr0_5 : Kd.C k24 w A0_5 l0_5.length l0_5) (hc0_5 : l0_5.length ≤ c0_5) (hr0_9 : Kd.C k24 w A0_9 l0_9.length l0_9) (hc0_9 : l0_9.length ≤ c0_9) (hr0_13 : Kd.C k24 w A0_13 l0_13.length l0_13) (hc0_13 : l0_13.length ≤ c0_13) (hr0_17 : Kd.C k24 w A0_17 l0_17.length l0_17) (hc0_17 : l0_17.length ≤ c0_17) (hr0_18 : Kd.C k45 w A0_18 l0_18.length l0_18) (hc0_18 : l0_18.length ≤ c0_18) (h : laws_szStmt.f m a0_0 a0_1 a0_2 a0_3 a0_4 l0_5 a0_6 a0_7 a0_8 l0_9 a0_10 a0_11 a0_12 l0_13 a0_14 a0_15 a0_16 l0_17 l0_18 a1 = some r),
   Calls Try.prog 22 #[.agg #[.int .i64 a0_0, .string a0_1, .int .i64 a0_2, .int .i64 a0_3, .string a0_4, .slice A0_5 l0_5.length c0_5, .int .i64 a0_6, .int .i64 a0_7, .string a0_8, .slice A0_9 l0_9.length c0_9, .int .i64 a0_10, .int .i64 a0_11, .string a0_12, .slice A0_13 l0_13.length c0_13, .int .i64 a0_14, .int .i64 a0_15, .string a0_16, .slice A0_17 l0_17.length c0_17, .slice A0_18 l0_18.length c0_18], .int .i64 a1] w fun e w' => e = .returned (.int .i64 r) ∧ Below w.heap.size w w')) (A0 : Option Addr) (c0 : Nat) (l0 : List (S45)) (a1 : Int) (r : Int) (w : World) (hr0 : Kd.C k45 w A0 l0.length l0) (hc0 : l0.length ≤ c0) (h : laws_szStmtS.f K l0 a1 = some r) :
  Calls Try.prog 58 #[.slice A0 l0.length c0, .int .i64 a1] w fun e w' => e = .returned (.int .i64 r) ∧ Below w.heap.size w w' := by
 cases K with
 |zero => exact absurd h (by simp [laws_szStmtS.f])
 |succ k =>
 have hu45 := Try.underlying45
 have HR0 := mk0 hr0
 have HC0 := mk0 hc0
 clear hr0 hc0
 have HB := mk0 (Below.refl w.heap.size w)
 have H : (if (wrap64 (a1 - (l0.length : Int))) < 0 then (some (-1)) else (laws_szStmtS.l0 k l0 (wrap64 (a1 - (l0.length : Int))) 0)) = some r := by rw [laws_szStmtS.f] at h;exact h
 clear h
 by_cases c3 : (wrap64 (a1 - (l0.length : Int))) < 0
 ·rw [if_pos c3] at H
  have c3b0 : decide ((wrap64 (a1 - (l0.length : Int))) < 0) = true := decide_eq_true c3
  clear c3
  obtain rfl := Option.some.inj H
  go_enter Try.func58,Try.ntmps58
  go_wp2
  go_ret
  exact ⟨by first|rfl|(simp [errW_none,errW_some] <;> rfl)|(simp [*,errW_none,errW_some] <;> rfl),by repeat (first|(with_reducible first|exact HB.out|apply bA|apply bN|apply bD)|exact HB.out)⟩
 ·rw [if_neg c3] at H
  have c3b0 : decide ((wrap64 (a1 - (l0.length : Int))) < 0) = false := decide_eq_false c3
  clear c3
  have H' := mk0 H
  clear H
  go_enter Try.func58,Try.ntmps58
  go_wp2
  go_loopg [1,5] k (fun kq v1 v5 w' => ∃ (x1_1 : Int) (x5_1 : Int),v1 = .int .i64 x1_1 ∧ v5 = .int .i64 x5_1 ∧ Aside0 (laws_szStmtS.l0 kq l0 x1_1 x5_1 = some r) ∧ Aside0 (kq ≤ k) ∧ Aside0 (Below w.heap.size w w'))
  case atStart => exact ⟨(wrap64 (a1 - (l0.length : Int))),(0),(by first|rfl|(simp;done)|(simp [*];done)),(by first|rfl|(simp;done)|(simp [*];done)),H',⟨Nat.le_refl _⟩,⟨by repeat (first|(with_reducible first|exact HB.out|apply bA|apply bN|apply bD)|exact HB.out)⟩⟩
  case round =>
   clear H'
   try clear p2
   try clear c3
   try clear c3b0
   obtain ⟨x1_1,x5_1,rfl,rfl,HA,HK1,HB⟩ := hrel
   cases gk with
     |zero => exact absurd HA.out (by simp [laws_szStmtS.l0])
     |succ k1 =>
    have H := HA.out
    clear HA
    simp only [laws_szStmtS.l0] at H
    refine Or.elim (Classical.em (x5_1 < (l0.length : Int))) (fun c4 => ?yes10) (fun c4 => ?no10)
    case' yes10 =>
     rw [if_pos c4] at H
     have c4b0 : decide (x5_1 < (l0.length : Int)) = true := decide_eq_true c4
     clear c4
     refine Or.elim (Classical.em (0 ≤ x5_1)) (fun c5 => ?yes11) (fun c5 => ?no11)
     case' yes11 =>
      rw [if_pos c5] at H
      have c5b0 : decide (0 ≤ x5_1) = true := decide_eq_true c5
      clear c5
      obtain ⟨t106,A6,H⟩ := bindA H
      refine Or.elim (Classical.em (t106 < 0)) (fun c7 => ?yes12) (fun c7 => ?no12)
      case' yes12 =>
       rw [if_pos c7] at H
       have c7b0 : decide (t106 < 0) = true := decide_eq_true c7
       clear c7
       obtain rfl := Option.some.inj H
       have p105 : 0 ≤ (x5_1 : Int) := of_decide_eq_true (by first|(with_reducible assumption)|assumption)
       have q105 : x5_1 < (l0.length : Int) := of_decide_eq_true (by first|(with_reducible assumption)|assumption)
       obtain ⟨ad105,A105_5,c105_5,A105_9,c105_9,A105_13,c105_13,A105_17,c105_17,A105_18,c105_18,e105,hx105_0,hx105_1,hx105_2,hx105_3,hx105_4,hx105_5,hx105_6,hx105_7,hx105_8,hx105_9,hx105_10,hx105_11,hx105_12,hx105_13,hx105_14,hx105_15,hx105_16,hx105_17,hx105_18,hl105_5,hi105_5,hl105_9,hi105_9,hl105_13,hi105_13,hl105_17,hi105_17,hl105_18,hi105_18⟩ := at_T45 HR0.out x5_1 p105 q105
       cases e105
       replace hx105_0 := hbc HB.out hx105_0
       replace hx105_1 := hbc HB.out hx105_1
       replace hx105_2 := hbc HB.out hx105_2
       replace hx105_3 := hbc HB.out hx105_3
       replace hx105_4 := hbc HB.out hx105_4
       replace hx105_5 := hbc HB.out hx105_5
       replace hx105_6 := hbc HB.out hx105_6
       replace hx105_7 := hbc HB.out hx105_7
       replace hx105_8 := hbc HB.out hx105_8
       replace hx105_9 := hbc HB.out hx105_9
       replace hx105_10 := hbc HB.out hx105_10
       replace hx105_11 := hbc HB.out hx105_11
       replace hx105_12 := hbc HB.out hx105_12
       replace hx105_13 := hbc HB.out hx105_13
       replace hx105_14 := hbc HB.out hx105_14
       replace hx105_15 := hbc HB.out hx105_15
       replace hx105_16 := hbc HB.out hx105_16
       replace hx105_17 := hbc HB.out hx105_17
       replace hx105_18 := hbc HB.out hx105_18
       have HR105_5 := mk0 hi105_5
       have HC105_5 := mk0 hl105_5
       clear hi105_5 hl105_5
       have HR105_9 := mk0 hi105_9
       have HC105_9 := mk0 hl105_9
       clear hi105_9 hl105_9
       have HR105_13 := mk0 hi105_13
       have HC105_13 := mk0 hl105_13
       clear hi105_13 hl105_13
       have HR105_17 := mk0 hi105_17
       have HC105_17 := mk0 hl105_17
       clear hi105_17 hl105_17
       have HR105_18 := mk0 hi105_18
       have HC105_18 := mk0 hl105_18
       clear hi105_18 hl105_18
       replace p105 := eq_true p105
       replace q105 := eq_true q105
      case' no12 =>
       rw [if_neg c7] at H
       have c7b0 : decide (t106 < 0) = false := decide_eq_false c7
       clear c7
       have H' := mk0 H
       clear H
       have p105 : 0 ≤ (x5_1 : Int) := of_decide_eq_true (by first|(with_reducible assumption)|assumption)
       have q105 : x5_1 < (l0.length : Int) := of_decide_eq_true (by first|(with_reducible assumption)|assumption)
       obtain ⟨ad105,A105_5,c105_5,A105_9,c105_9,A105_13,c105_13,A105_17,c105_17,A105_18,c105_18,e105,hx105_0,hx105_1,hx105_2,hx105_3,hx105_4,hx105_5,hx105_6,hx105_7,hx105_8,hx105_9,hx105_10,hx105_11,hx105_12,hx105_13,hx105_14,hx105_15,hx105_16,hx105_17,hx105_18,hl105_5,hi105_5,hl105_9,hi105_9,hl105_13,hi105_13,hl105_17,hi105_17,hl105_18,hi105_18⟩ := at_T45 HR0.out x5_1 p105 q105
       cases e105
       replace hx105_0 := hbc HB.out hx105_0
       replace hx105_1 := hbc HB.out hx105_1
       replace hx105_2 := hbc HB.out hx105_2
       replace hx105_3 := hbc HB.out hx105_3
       replace hx105_4 := hbc HB.out hx105_4
       replace hx105_5 := hbc HB.out hx105_5
       replace hx105_6 := hbc HB.out hx105_6
       replace hx105_7 := hbc HB.out hx105_7
       replace hx105_8 := hbc HB.out hx105_8
       replace hx105_9 := hbc HB.out hx105_9
       replace hx105_10 := hbc HB.out hx105_10
       replace hx105_11 := hbc HB.out hx105_11
       replace hx105_12 := hbc HB.out hx105_12
       replace hx105_13 := hbc HB.out hx105_13
       replace hx105_14 := hbc HB.out hx105_14
       replace hx105_15 := hbc HB.out hx105_15
       replace hx105_16 := hbc HB.out hx105_16
       replace hx105_17 := hbc HB.out hx105_17
       replace hx105_18 := hbc HB.out hx105_18
       have HR105_5 := mk0 hi105_5
       have HC105_5 := mk0 hl105_5
       clear hi105_5 hl105_5
       have HR105_9 := mk0 hi105_9
       have HC105_9 := mk0 hl105_9
       clear hi105_9 hl105_9
       have HR105_13 := mk0 hi105_13
       have HC105_13 := mk0 hl105_13
       clear hi105_13 hl105_13
       have HR105_17 := mk0 hi105_17
       have HC105_17 := mk0 hl105_17
       clear hi105_17 hl105_17
       have HR105_18 := mk0 hi105_18
       have HC105_18 := mk0 hl105_18
       clear hi105_18 hl105_18
       replace p105 := eq_true p105
       replace q105 := eq_true q105
       go_wp2_with (first|((with_reducible refine gate_dst (N := 21) rfl ?_);first|(refine ldRow rfl 45 _ rfl _ rfl _ (row19 hx105_0 hx105_1 hx105_2 hx105_3 hx105_4 hx105_5 hx105_6 hx105_7 hx105_8 hx105_9 hx105_10 hx105_11 hx105_12 hx105_13 hx105_14 hx105_15 hx105_16 hx105_17 hx105_18) _ Try.underlying45 (by kernel_rfl) ?_))|((with_reducible refine gate_callee (f := 22) rfl ?_);refine goesL_ (some 23) rfl rfl Try.func22 (by kernel_rfl) rfl #[.agg #[.int .i64 ((rd_T45 l0 x5_1).f0),.string ((rd_T45 l0 x5_1).f1),.int .i64 ((rd_T45 l0 x5_1).f2.f0),.int .i64 ((rd_T45 l0 x5_1).f2.f1),.string ((rd_T45 l0 x5_1).f2.f2),.slice A105_5 ((rd_T45 l0 x5_1).f2.f3).length c105_5,.int .i64 ((rd_T45 l0 x5_1).f3.f0),.int .i64 ((rd_T45 l0 x5_1).f3.f1),.string ((rd_T45 l0 x5_1).f3.f2),.slice A105_9 ((rd_T45 l0 x5_1).f3.f3).length c105_9,.int .i64 ((rd_T45 l0 x5_1).f4.f0),.int .i64 ((rd_T45 l0 x5_1).f4.f1),.string ((rd_T45 l0 x5_1).f4.f2),.slice A105_13 ((rd_T45 l0 x5_1).f4.f3).length c105_13,.int .i64 ((rd_T45 l0 x5_1).f5.f0),.int .i64 ((rd_T45 l0 x5_1).f5.f1),.string ((rd_T45 l0 x5_1).f5.f2),.slice A105_17 ((rd_T45 l0 x5_1).f5.f3).length c105_17,.slice A105_18 ((rd_T45 l0 x5_1).f6).length c105_18],.int .i64 x1_1] rfl (by (try simp only [List.map_toArray,List.map_cons,List.map_nil]);first|done|rfl) ?_;(with_reducible refine (IH.out k1 (by have := HK1.out;omega) ((rd_T45 l0 x5_1).f0) ((rd_T45 l0 x5_1).f1) ((rd_T45 l0 x5_1).f2.f0) ((rd_T45 l0 x5_1).f2.f1) ((rd_T45 l0 x5_1).f2.f2) _ _ ((rd_T45 l0 x5_1).f2.f3) ((rd_T45 l0 x5_1).f3.f0) ((rd_T45 l0 x5_1).f3.f1) ((rd_T45 l0 x5_1).f3.f2) _ _ ((rd_T45 l0 x5_1).f3.f3) ((rd_T45 l0 x5_1).f4.f0) ((rd_T45 l0 x5_1).f4.f1) ((rd_T45 l0 x5_1).f4.f2) _ _ ((rd_T45 l0 x5_1).f4.f3) ((rd_T45 l0 x5_1).f5.f0) ((rd_T45 l0 x5_1).f5.f1) ((rd_T45 l0 x5_1).f5.f2) _ _ ((rd_T45 l0 x5_1).f5.f3) _ _ ((rd_T45 l0 x5_1).f6) x1_1 t106 _ ?side1 ?side2 ?side3 ?side4 ?side5 ?side6 ?side7 ?side8 ?side9 ?side10 A6.out).mono ?_);(case side1 => repeat (first|exact (Kd.C_below HR105_5.out HB.out)|(with_reducible refine cA ?_ _)|(with_reducible refine cN ?_ _)|(with_reducible refine cD ?_)));(case side2 => exact HC105_5.out);(case side3 => repeat (first|exact (Kd.C_below HR105_9.out HB.out)|(with_reducible refine cA ?_ _)|(with_reducible refine cN ?_ _)|(with_reducible refine cD ?_)));(case side4 => exact HC105_9.out);(case side5 => repeat (first|exact (Kd.C_below HR105_13.out HB.out)|(with_reducible refine cA ?_ _)|(with_reducible refine cN ?_ _)|(with_reducible refine cD ?_)));(case side6 => exact HC105_13.out);(case side7 => repeat (first|exact (Kd.C_below HR105_17.out HB.out)|(with_reducible refine cA ?_ _)|(with_reducible refine cN ?_ _)|(with_reducible refine cD ?_)));(case side8 => exact HC105_17.out);(case side9 => repeat (first|exact (Kd.C_below HR105_18.out HB.out)|(with_reducible refine cA ?_ _)|(with_reducible refine cN ?_ _)|(with_reducible refine cD ?_)));(case side10 => exact HC105_18.out);rintro e w9 ⟨rfl,hb⟩;refine ⟨_,rfl,?_⟩;have n0_ := mk0 (below_step (by repeat (first|(with_reducible first|exact HB.out|apply bA|apply bN|apply bD)|exact HB.out)) hb);clear HB;have HB := n0_;clear n0_;(try clear hb);(try clear hb2);(try clear hk);(try clear hi)))
       go_roundg k1
       case measure => have := HK1.out;omega
       case rel => exact ⟨(t106),(wrap64 (x5_1 + 1)),(by first|rfl|(simp;done)|(simp [*];done)),(by first|rfl|(simp;done)|(simp [*];done)),H',⟨by have := HK1.out;omega⟩,⟨by repeat (first|(with_reducible first|exact HB.out|apply bA|apply bN|apply bD)|exact HB.out)⟩⟩
     case' no11 =>
      rw [if_neg c5] at H
      exact absurd H (by simp)
    case' no10 =>
     rw [if_neg c4] at H
     have c4b0 : decide (x5_1 < (l0.length : Int)) = false := decide_eq_false c4
     clear c4
     obtain rfl := Option.some.inj H
    all_goals
     go_wp2_with (first|((with_reducible refine gate_dst (N := 21) rfl ?_);first|(refine ldRow rfl 45 _ rfl _ rfl _ (row19 hx105_0 hx105_1 hx105_2 hx105_3 hx105_4 hx105_5 hx105_6 hx105_7 hx105_8 hx105_9 hx105_10 hx105_11 hx105_12 hx105_13 hx105_14 hx105_15 hx105_16 hx105_17 hx105_18) _ Try.underlying45 (by kernel_rfl) ?_))|((with_reducible refine gate_callee (f := 22) rfl ?_);refine goesL_ (some 23) rfl rfl Try.func22 (by kernel_rfl) rfl #[.agg #[.int .i64 ((rd_T45 l0 x5_1).f0),.string ((rd_T45 l0 x5_1).f1),.int .i64 ((rd_T45 l0 x5_1).f2.f0),.int .i64 ((rd_T45 l0 x5_1).f2.f1),.string ((rd_T45 l0 x5_1).f2.f2),.slice A105_5 ((rd_T45 l0 x5_1).f2.f3).length c105_5,.int .i64 ((rd_T45 l0 x5_1).f3.f0),.int .i64 ((rd_T45 l0 x5_1).f3.f1),.string ((rd_T45 l0 x5_1).f3.f2),.slice A105_9 ((rd_T45 l0 x5_1).f3.f3).length c105_9,.int .i64 ((rd_T45 l0 x5_1).f4.f0),.int .i64 ((rd_T45 l0 x5_1).f4.f1),.string ((rd_T45 l0 x5_1).f4.f2),.slice A105_13 ((rd_T45 l0 x5_1).f4.f3).length c105_13,.int .i64 ((rd_T45 l0 x5_1).f5.f0),.int .i64 ((rd_T45 l0 x5_1).f5.f1),.string ((rd_T45 l0 x5_1).f5.f2),.slice A105_17 ((rd_T45 l0 x5_1).f5.f3).length c105_17,.slice A105_18 ((rd_T45 l0 x5_1).f6).length c105_18],.int .i64 x1_1] rfl (by (try simp only [List.map_toArray,List.map_cons,List.map_nil]);first|done|rfl) ?_;(with_reducible refine (IH.out k1 (by have := HK1.out;omega) ((rd_T45 l0 x5_1).f0) ((rd_T45 l0 x5_1).f1) ((rd_T45 l0 x5_1).f2.f0) ((rd_T45 l0 x5_1).f2.f1) ((rd_T45 l0 x5_1).f2.f2) _ _ ((rd_T45 l0 x5_1).f2.f3) ((rd_T45 l0 x5_1).f3.f0) ((rd_T45 l0 x5_1).f3.f1) ((rd_T45 l0 x5_1).f3.f2) _ _ ((rd_T45 l0 x5_1).f3.f3) ((rd_T45 l0 x5_1).f4.f0) ((rd_T45 l0 x5_1).f4.f1) ((rd_T45 l0 x5_1).f4.f2) _ _ ((rd_T45 l0 x5_1).f4.f3) ((rd_T45 l0 x5_1).f5.f0) ((rd_T45 l0 x5_1).f5.f1) ((rd_T45 l0 x5_1).f5.f2) _ _ ((rd_T45 l0 x5_1).f5.f3) _ _ ((rd_T45 l0 x5_1).f6) x1_1 t106 _ ?side1 ?side2 ?side3 ?side4 ?side5 ?side6 ?side7 ?side8 ?side9 ?side10 A6.out).mono ?_);(case side1 => repeat (first|exact (Kd.C_below HR105_5.out HB.out)|(with_reducible refine cA ?_ _)|(with_reducible refine cN ?_ _)|(with_reducible refine cD ?_)));(case side2 => exact HC105_5.out);(case side3 => repeat (first|exact (Kd.C_below HR105_9.out HB.out)|(with_reducible refine cA ?_ _)|(with_reducible refine cN ?_ _)|(with_reducible refine cD ?_)));(case side4 => exact HC105_9.out);(case side5 => repeat (first|exact (Kd.C_below HR105_13.out HB.out)|(with_reducible refine cA ?_ _)|(with_reducible refine cN ?_ _)|(with_reducible refine cD ?_)));(case side6 => exact HC105_13.out);(case side7 => repeat (first|exact (Kd.C_below HR105_17.out HB.out)|(with_reducible refine cA ?_ _)|(with_reducible refine cN ?_ _)|(with_reducible refine cD ?_)));(case side8 => exact HC105_17.out);(case side9 => repeat (first|exact (Kd.C_below HR105_18.out HB.out)|(with_reducible refine cA ?_ _)|(with_reducible refine cN ?_ _)|(with_reducible refine cD ?_)));(case side10 => exact HC105_18.out);rintro e w8 ⟨rfl,hb⟩;refine ⟨_,rfl,?_⟩;have n0_ := mk0 (below_step (by repeat (first|(with_reducible first|exact HB.out|apply bA|apply bN|apply bD)|exact HB.out)) hb);clear HB;have HB := n0_;clear n0_;(try clear hb);(try clear hb2);(try clear hk);(try clear hi)))
     go_ret
     exact ⟨by first|rfl|(simp [errW_none,errW_some] <;> rfl)|(simp [*,errW_none,errW_some] <;> rfl),by repeat (first|(with_reducible first|exact HB.out|apply bA|apply bN|apply bD)|exact HB.out)⟩
theorem laws_szStmt_szStmtS_both.calls : ∀ k, (∀ (a0_0 : Int) (a0_1 : ByteArray) (a0_2 : Int) (a0_3 : Int) (a0_4 : ByteArray) (A0_5 : Option Addr) (c0_5 : Nat) (l0_5 : List (S24)) (a0_6 : Int) (a0_7 : Int) (a0_8 : ByteArray) (A0_9 : Option Addr) (c0_9 : Nat) (l0_9 : List (S24)) (a0_10 : Int) (a0_11 : Int) (a0_12 : ByteArray) (A0_13 : Option Addr) (c0_13 : Nat) (l0_13 : List (S24)) (a0_14 : Int) (a0_15 : Int) (a0_16 : ByteArray) (A0_17 : Option Addr) (c0_17 : Nat) (l0_17 : List (S24)) (A0_18 : Option Addr) (c0_18 : Nat) (l0_18 : List (S45)) (a1 : Int) (r : Int) (w : World) (hr0_5 : Kd.C k24 w A0_5 l0_5.length l0_5) (hc0_5 : l0_5.length ≤ c0_5) (hr0_9 : Kd.C k24 w A0_9 l0_9.length l0_9) (hc0_9 : l0_9.length ≤ c0_9) (hr0_13 : Kd.C k24 w A0_13 l0_13.length l0_13) (hc0_13 : l0_13.length ≤ c0_13) (hr0_17 : Kd.C k24 w A0_17 l0_17.length l0_17) (hc0_17 : l0_17.length ≤ c0_17) (hr0_18 : Kd.C k45 w A0_18 l0_18.length l0_18) (hc0_18 : l0_18.length ≤ c0_18) (h : laws_szStmt.f k a0_0 a0_1 a0_2 a0_3 a0_4 l0_5 a0_6 a0_7 a0_8 l0_9 a0_10 a0_11 a0_12 l0_13 a0_14 a0_15 a0_16 l0_17 l0_18 a1 = some r),
   Calls Try.prog 22 #[.agg #[.int .i64 a0_0, .string a0_1, .int .i64 a0_2, .int .i64 a0_3, .string a0_4, .slice A0_5 l0_5.length c0_5, .int .i64 a0_6, .int .i64 a0_7, .string a0_8, .slice A0_9 l0_9.length c0_9, .int .i64 a0_10, .int .i64 a0_11, .string a0_12, .slice A0_13 l0_13.length c0_13, .int .i64 a0_14, .int .i64 a0_15, .string a0_16, .slice A0_17 l0_17.length c0_17, .slice A0_18 l0_18.length c0_18], .int .i64 a1] w fun e w' => e = .returned (.int .i64 r) ∧ Below w.heap.size w w') ∧ (∀ (A0 : Option Addr) (c0 : Nat) (l0 : List (S45)) (a1 : Int) (r : Int) (w : World) (hr0 : Kd.C k45 w A0 l0.length l0) (hc0 : l0.length ≤ c0) (h : laws_szStmtS.f k l0 a1 = some r),
   Calls Try.prog 58 #[.slice A0 l0.length c0, .int .i64 a1] w fun e w' => e = .returned (.int .i64 r) ∧ Below w.heap.size w w') := by
 intro k
 induction k using Nat.strongRecOn with
 |_ k ih =>
 exact ⟨fun a0_0 a0_1 a0_2 a0_3 a0_4 A0_5 c0_5 l0_5 a0_6 a0_7 a0_8 A0_9 c0_9 l0_9 a0_10 a0_11 a0_12 A0_13 c0_13 l0_13 a0_14 a0_15 a0_16 A0_17 c0_17 l0_17 A0_18 c0_18 l0_18 a1 r w hr0_5 hc0_5 hr0_9 hc0_9 hr0_13 hc0_13 hr0_17 hc0_17 hr0_18 hc0_18 h => laws_szStmt.callsG k ⟨fun m hm => (ih m hm).2⟩ a0_0 a0_1 a0_2 a0_3 a0_4 A0_5 c0_5 l0_5 a0_6 a0_7 a0_8 A0_9 c0_9 l0_9 a0_10 a0_11 a0_12 A0_13 c0_13 l0_13 a0_14 a0_15 a0_16 A0_17 c0_17 l0_17 A0_18 c0_18 l0_18 a1 r w hr0_5 hc0_5 hr0_9 hc0_9 hr0_13 hc0_13 hr0_17 hc0_17 hr0_18 hc0_18 h,fun A0 c0 l0 a1 r w hr0 hc0 h => laws_szStmtS.callsG k ⟨fun m hm => (ih m hm).1⟩ A0 c0 l0 a1 r w hr0 hc0 h⟩
theorem laws_szStmt.calls (k : Nat) (a0_0 : Int) (a0_1 : ByteArray) (a0_2 : Int) (a0_3 : Int) (a0_4 : ByteArray) (A0_5 : Option Addr) (c0_5 : Nat) (l0_5 : List (S24)) (a0_6 : Int) (a0_7 : Int) (a0_8 : ByteArray) (A0_9 : Option Addr) (c0_9 : Nat) (l0_9 : List (S24)) (a0_10 : Int) (a0_11 : Int) (a0_12 : ByteArray) (A0_13 : Option Addr) (c0_13 : Nat) (l0_13 : List (S24)) (a0_14 : Int) (a0_15 : Int) (a0_16 : ByteArray) (A0_17 : Option Addr) (c0_17 : Nat) (l0_17 : List (S24)) (A0_18 : Option Addr) (c0_18 : Nat) (l0_18 : List (S45)) (a1 : Int) (r : Int) (w : World) (hr0_5 : Kd.C k24 w A0_5 l0_5.length l0_5) (hc0_5 : l0_5.length ≤ c0_5) (hr0_9 : Kd.C k24 w A0_9 l0_9.length l0_9) (hc0_9 : l0_9.length ≤ c0_9) (hr0_13 : Kd.C k24 w A0_13 l0_13.length l0_13) (hc0_13 : l0_13.length ≤ c0_13) (hr0_17 : Kd.C k24 w A0_17 l0_17.length l0_17) (hc0_17 : l0_17.length ≤ c0_17) (hr0_18 : Kd.C k45 w A0_18 l0_18.length l0_18) (hc0_18 : l0_18.length ≤ c0_18) (h : laws_szStmt.f k a0_0 a0_1 a0_2 a0_3 a0_4 l0_5 a0_6 a0_7 a0_8 l0_9 a0_10 a0_11 a0_12 l0_13 a0_14 a0_15 a0_16 l0_17 l0_18 a1 = some r) :
  Calls Try.prog 22 #[.agg #[.int .i64 a0_0, .string a0_1, .int .i64 a0_2, .int .i64 a0_3, .string a0_4, .slice A0_5 l0_5.length c0_5, .int .i64 a0_6, .int .i64 a0_7, .string a0_8, .slice A0_9 l0_9.length c0_9, .int .i64 a0_10, .int .i64 a0_11, .string a0_12, .slice A0_13 l0_13.length c0_13, .int .i64 a0_14, .int .i64 a0_15, .string a0_16, .slice A0_17 l0_17.length c0_17, .slice A0_18 l0_18.length c0_18], .int .i64 a1] w fun e w' => e = .returned (.int .i64 r) ∧ Below w.heap.size w w' := (laws_szStmt_szStmtS_both.calls k).1 a0_0 a0_1 a0_2 a0_3 a0_4 A0_5 c0_5 l0_5 a0_6 a0_7 a0_8 A0_9 c0_9 l0_9 a0_10 a0_11 a0_12 A0_13 c0_13 l0_13 a0_14 a0_15 a0_16 A0_17 c0_17 l0_17 A0_18 c0_18 l0_18 a1 r w hr0_5 hc0_5 hr0_9 hc0_9 hr0_13 hc0_13 hr0_17 hc0_17 hr0_18 hc0_18 h

theorem laws_szStmtS.calls (k : Nat) (A0 : Option Addr) (c0 : Nat) (l0 : List (S45)) (a1 : Int) (r : Int) (w : World) (hr0 : Kd.C k45 w A0 l0.length l0) (hc0 : l0.length ≤ c0) (h : laws_szStmtS.f k l0 a1 = some r) :
  Calls Try.prog 58 #[.slice A0 l0.length c0, .int .i64 a1] w fun e w' => e = .returned (.int .i64 r) ∧ Below w.heap.size w w' := (laws_szStmt_szStmtS_both.calls k).2 A0 c0 l0 a1 r w hr0 hc0 h

/-! ### laws_szArr: function 84 -/
def laws_szArr.f (a0_0 : ByteArray) (a0_1 : Int) (a1 : Int) : Option (Int) := if (wrap64 (a1 - (a0_0.size : Int))) < 0 then (some (-1)) else (some (wrap64 (a1 - (a0_0.size : Int))))
set_option maxHeartbeats 8000000 in
set_option maxRecDepth 100000 in
theorem laws_szArr.calls (a0_0 : ByteArray) (a0_1 : Int) (a1 : Int) (r : Int) (w : World) (h : laws_szArr.f a0_0 a0_1 a1 = some r) :
  Calls Try.prog 84 #[.agg #[.string a0_0, .int .i64 a0_1], .int .i64 a1] w fun e w' => e = .returned (.int .i64 r) ∧ Below w.heap.size w w' := by
 have hu117 := Try.underlying117
 have HB := mk0 (Below.refl w.heap.size w)
 have H : (if (wrap64 (a1 - (a0_0.size : Int))) < 0 then (some (-1)) else (some (wrap64 (a1 - (a0_0.size : Int))))) = some r := h
 clear h
 by_cases c3 : (wrap64 (a1 - (a0_0.size : Int))) < 0
 ·rw [if_pos c3] at H
  have c3b0 : decide ((wrap64 (a1 - (a0_0.size : Int))) < 0) = true := decide_eq_true c3
  clear c3
  obtain rfl := Option.some.inj H
  go_enter Try.func84,Try.ntmps84
  go_wp2_with (first|((with_reducible refine gate_dst (N := 2) rfl ?_);refine box_event ?hg (N := 2) ?hd (cs := #[.string a0_0,.int .i64 a0_1]) (t := 117) ?hr ?_;(case hd => rfl);(case hg => rfl);(case hr => first|(go_simp;done)|(go_simp;rfl));intro gb113 hg w4 hbox hb;have q_ := qB (by repeat (first|(with_reducible first|exact HB.out|apply bA|apply bN|apply bD)|exact HB.out)) hb;have n0_ := mk0 (below_step q_ hb);have n1_ := mk0 (hbox);have n2_ := mk0 (below_size2 q_ hg);have n3_ := n2_;clear HB;have HB := n0_;have BK113 := n1_;have GW113 := n2_;have GE113 := n3_;clear q_ n0_ n1_ n2_ n3_ hb hbox hg;have z5 := bc2 BK113.out))
  go_ret
  exact ⟨by first|rfl|(simp [errW_none,errW_some] <;> rfl)|(simp [*,errW_none,errW_some] <;> rfl),by repeat (first|(with_reducible first|exact HB.out|apply bA|apply bN|apply bD|refine bS ?_ GE113.out)|exact HB.out)⟩
 ·rw [if_neg c3] at H
  have c3b0 : decide ((wrap64 (a1 - (a0_0.size : Int))) < 0) = false := decide_eq_false c3
  clear c3
  obtain rfl := Option.some.inj H
  go_enter Try.func84,Try.ntmps84
  go_wp2_with (first|((with_reducible refine gate_dst (N := 2) rfl ?_);refine box_event ?hg (N := 2) ?hd (cs := #[.string a0_0,.int .i64 a0_1]) (t := 117) ?hr ?_;(case hd => rfl);(case hg => rfl);(case hr => first|(go_simp;done)|(go_simp;rfl));intro gb113 hg w6 hbox hb;have q_ := qB (by repeat (first|(with_reducible first|exact HB.out|apply bA|apply bN|apply bD)|exact HB.out)) hb;have n0_ := mk0 (below_step q_ hb);have n1_ := mk0 (hbox);have n2_ := mk0 (below_size2 q_ hg);have n3_ := n2_;clear HB;have HB := n0_;have BK113 := n1_;have GW113 := n2_;have GE113 := n3_;clear q_ n0_ n1_ n2_ n3_ hb hbox hg;have z7 := bc2 BK113.out))
  go_ret
  exact ⟨by first|rfl|(simp [errW_none,errW_some] <;> rfl)|(simp [*,errW_none,errW_some] <;> rfl),by repeat (first|(with_reducible first|exact HB.out|apply bA|apply bN|apply bD|refine bS ?_ GE113.out)|exact HB.out)⟩

/-! ### laws_szArrS: function 64 -/
def laws_szArrS.l0 : Nat → List (S117) → Int → Int → Option (Int)
 |0,_,_,_ => none
 |k + 1,x0,x1,x5 => if x5 < (x0.length : Int) then (if 0 ≤ x5 then ((laws_szArr.f ((rd_T117 x0 x5).f0) ((rd_T117 x0 x5).f1) x1).bind fun t115 => (if t115 < 0 then (some (-1)) else (laws_szArrS.l0 k x0 t115 (wrap64 (x5 + 1))))) else (none)) else (some x1)
def laws_szArrS.f (k : Nat) (l0 : List (S117)) (a1 : Int) : Option (Int) := if (wrap64 (a1 - (l0.length : Int))) < 0 then (some (-1)) else (laws_szArrS.l0 k l0 (wrap64 (a1 - (l0.length : Int))) 0)
theorem laws_szArrS.mono_l : ∀ k, (∀ y0 y1 y2, LeO (laws_szArrS.l0 k y0 y1 y2) (laws_szArrS.l0 (k + 1) y0 y1 y2))
 | 0 => fun _ _ _ r h => by simp [laws_szArrS.l0] at h
 | k + 1 => by
  have ih0 := laws_szArrS.mono_l k
  ·intro y0 y1 y2
   unfold laws_szArrS.l0
   repeat' first
   | (with_reducible exact ih0 _ _ _)
   | (with_reducible exact LeO.refl _)
   | (with_reducible exact LeO.none _)
   | (with_reducible refine LeO.ite ?_ ?_)
   | (with_reducible refine LeO.bind ?_ (fun _ => ?_))
   | exact ih0 _ _ _
   | exact LeO.none _
   | refine LeO.ite ?_ ?_
   | refine LeO.bind ?_ (fun _ => ?_)
theorem laws_szArrS.mono : ∀ a0 a1 k, LeO (laws_szArrS.f k a0 a1) (laws_szArrS.f (k + 1) a0 a1) := by
 intro a0 a1 k
 have ih0 := laws_szArrS.mono_l k
 unfold laws_szArrS.f
 repeat' first
   | (with_reducible exact ih0 _ _ _)
   | (with_reducible exact LeO.refl _)
   | (with_reducible exact LeO.none _)
   | (with_reducible refine LeO.ite ?_ ?_)
   | (with_reducible refine LeO.bind ?_ (fun _ => ?_))
   | exact ih0 _ _ _
   | exact LeO.none _
   | refine LeO.ite ?_ ?_
   | refine LeO.bind ?_ (fun _ => ?_)
set_option maxHeartbeats 8000000 in
set_option maxRecDepth 100000 in
theorem laws_szArrS.calls (k : Nat) (A0 : Option Addr) (c0 : Nat) (l0 : List (S117)) (a1 : Int) (r : Int) (w : World) (hr0 : Kd.C k117 w A0 l0.length l0) (hc0 : l0.length ≤ c0) (h : laws_szArrS.f k l0 a1 = some r) :
  Calls Try.prog 64 #[.slice A0 l0.length c0, .int .i64 a1] w fun e w' => e = .returned (.int .i64 r) ∧ Below w.heap.size w w' := by
 have hu117 := Try.underlying117
 have HR0 := mk0 hr0
 have HC0 := mk0 hc0
 clear hr0 hc0
 have HB := mk0 (Below.refl w.heap.size w)
 have H : (if (wrap64 (a1 - (l0.length : Int))) < 0 then (some (-1)) else (laws_szArrS.l0 k l0 (wrap64 (a1 - (l0.length : Int))) 0)) = some r := h
 clear h
 by_cases c3 : (wrap64 (a1 - (l0.length : Int))) < 0
 ·rw [if_pos c3] at H
  have c3b0 : decide ((wrap64 (a1 - (l0.length : Int))) < 0) = true := decide_eq_true c3
  clear c3
  obtain rfl := Option.some.inj H
  go_enter Try.func64,Try.ntmps64
  go_wp2
  go_ret
  exact ⟨by first|rfl|(simp [errW_none,errW_some] <;> rfl)|(simp [*,errW_none,errW_some] <;> rfl),by repeat (first|(with_reducible first|exact HB.out|apply bA|apply bN|apply bD)|exact HB.out)⟩
 ·rw [if_neg c3] at H
  have c3b0 : decide ((wrap64 (a1 - (l0.length : Int))) < 0) = false := decide_eq_false c3
  clear c3
  have H' := mk0 H
  clear H
  go_enter Try.func64,Try.ntmps64
  go_wp2
  go_loopg [1,5] k (fun kq v1 v5 w' => ∃ (x1_1 : Int) (x5_1 : Int),v1 = .int .i64 x1_1 ∧ v5 = .int .i64 x5_1 ∧ Aside0 (laws_szArrS.l0 kq l0 x1_1 x5_1 = some r) ∧ Aside0 (kq ≤ k) ∧ Aside0 (Below w.heap.size w w'))
  case atStart => exact ⟨(wrap64 (a1 - (l0.length : Int))),(0),(by first|rfl|(simp;done)|(simp [*];done)),(by first|rfl|(simp;done)|(simp [*];done)),H',⟨Nat.le_refl _⟩,⟨by repeat (first|(with_reducible first|exact HB.out|apply bA|apply bN|apply bD)|exact HB.out)⟩⟩
  case round =>
   clear H'
   try clear p2
   try clear c3
   try clear c3b0
   obtain ⟨x1_1,x5_1,rfl,rfl,HA,HK1,HB⟩ := hrel
   cases gk with
     |zero => exact absurd HA.out (by simp [laws_szArrS.l0])
     |succ k1 =>
    have H := HA.out
    clear HA
    simp only [laws_szArrS.l0] at H
    by_cases c4 : x5_1 < (l0.length : Int)
    ·rw [if_pos c4] at H
     have c4b0 : decide (x5_1 < (l0.length : Int)) = true := decide_eq_true c4
     clear c4
     by_cases c5 : 0 ≤ x5_1
     ·rw [if_pos c5] at H
      have c5b0 : decide (0 ≤ x5_1) = true := decide_eq_true c5
      clear c5
      obtain ⟨t115,A6,H⟩ := bindA H
      by_cases c7 : t115 < 0
      ·rw [if_pos c7] at H
       have c7b0 : decide (t115 < 0) = true := decide_eq_true c7
       clear c7
       obtain rfl := Option.some.inj H
       have p114 : 0 ≤ (x5_1 : Int) := of_decide_eq_true (by first|(with_reducible assumption)|assumption)
       have q114 : x5_1 < (l0.length : Int) := of_decide_eq_true (by first|(with_reducible assumption)|assumption)
       obtain ⟨ad114,e114,hx114_0,hx114_1⟩ := at_T117 HR0.out x5_1 p114 q114
       cases e114
       replace hx114_0 := hbc HB.out hx114_0
       replace hx114_1 := hbc HB.out hx114_1
       replace p114 := eq_true p114
       replace q114 := eq_true q114
       go_wp2_with (first|((with_reducible refine gate_callee (f := 84) rfl ?_);refine goesL_ (some 23) rfl rfl Try.func84 (by kernel_rfl) rfl #[.agg #[.string ((rd_T117 l0 x5_1).f0),.int .i64 ((rd_T117 l0 x5_1).f1)],.int .i64 x1_1] rfl (by (try simp only [List.map_toArray,List.map_cons,List.map_nil]);first|done|rfl) ?_;(with_reducible refine (laws_szArr.calls ((rd_T117 l0 x5_1).f0) ((rd_T117 l0 x5_1).f1) x1_1 t115 _ A6.out).mono ?_);rintro e w8 ⟨rfl,hb⟩;refine ⟨_,rfl,?_⟩;have n0_ := mk0 (below_step (by repeat (first|(with_reducible first|exact HB.out|apply bA|apply bN|apply bD)|exact HB.out)) hb);clear HB;have HB := n0_;clear n0_;(try clear hb);(try clear hb2);(try clear hk);(try clear hi)))
       go_ret
       exact ⟨by first|rfl|(simp [errW_none,errW_some] <;> rfl)|(simp [*,errW_none,errW_some] <;> rfl),by repeat (first|(with_reducible first|exact HB.out|apply bA|apply bN|apply bD)|exact HB.out)⟩
      ·rw [if_neg c7] at H
       have c7b0 : decide (t115 < 0) = false := decide_eq_false c7
       clear c7
       have H' := mk0 H
       clear H
       have p114 : 0 ≤ (x5_1 : Int) := of_decide_eq_true (by first|(with_reducible assumption)|assumption)
       have q114 : x5_1 < (l0.length : Int) := of_decide_eq_true (by first|(with_reducible assumption)|assumption)
       obtain ⟨ad114,e114,hx114_0,hx114_1⟩ := at_T117 HR0.out x5_1 p114 q114
       cases e114
       replace hx114_0 := hbc HB.out hx114_0
       replace hx114_1 := hbc HB.out hx114_1
       replace p114 := eq_true p114
       replace q114 := eq_true q114
       go_wp2_with (first|((with_reducible refine gate_callee (f := 84) rfl ?_);refine goesL_ (some 23) rfl rfl Try.func84 (by kernel_rfl) rfl #[.agg #[.string ((rd_T117 l0 x5_1).f0),.int .i64 ((rd_T117 l0 x5_1).f1)],.int .i64 x1_1] rfl (by (try simp only [List.map_toArray,List.map_cons,List.map_nil]);first|done|rfl) ?_;(with_reducible refine (laws_szArr.calls ((rd_T117 l0 x5_1).f0) ((rd_T117 l0 x5_1).f1) x1_1 t115 _ A6.out).mono ?_);rintro e w9 ⟨rfl,hb⟩;refine ⟨_,rfl,?_⟩;have n0_ := mk0 (below_step (by repeat (first|(with_reducible first|exact HB.out|apply bA|apply bN|apply bD)|exact HB.out)) hb);clear HB;have HB := n0_;clear n0_;(try clear hb);(try clear hb2);(try clear hk);(try clear hi)))
       go_roundg k1
       case measure => have := HK1.out;omega
       case rel => exact ⟨(t115),(wrap64 (x5_1 + 1)),(by first|rfl|(simp;done)|(simp [*];done)),(by first|rfl|(simp;done)|(simp [*];done)),H',⟨by have := HK1.out;omega⟩,⟨by repeat (first|(with_reducible first|exact HB.out|apply bA|apply bN|apply bD)|exact HB.out)⟩⟩
     ·rw [if_neg c5] at H
      exact absurd H (by simp)
    ·rw [if_neg c4] at H
     have c4b0 : decide (x5_1 < (l0.length : Int)) = false := decide_eq_false c4
     clear c4
     obtain rfl := Option.some.inj H
     go_wp2
     go_ret
     exact ⟨by first|rfl|(simp [errW_none,errW_some] <;> rfl)|(simp [*,errW_none,errW_some] <;> rfl),by repeat (first|(with_reducible first|exact HB.out|apply bA|apply bN|apply bD)|exact HB.out)⟩

/-! ### laws_szProg: function 29 -/
def laws_szProg.f (k : Nat) (l0_0 : List (S117)) (l0_1 : List (S45)) (a1 : Int) : Option (Int) := (laws_szArrS.f k l0_0 a1).bind fun t117 => (if t117 < 0 then (some (-1)) else ((laws_szStmtS.f k l0_1 t117).bind fun t118 => (if t118 < 0 then (some (-1)) else (some t118))))
theorem laws_szProg.mono : ∀ a0 a1 a2 k, LeO (laws_szProg.f k a0 a1 a2) (laws_szProg.f (k + 1) a0 a1 a2) := by
 intro a0 a1 a2 k
 unfold laws_szProg.f
 repeat' first
   | (with_reducible exact laws_szArrS.mono _ _ _)
   | (with_reducible exact laws_szStmtS.mono _ _ _)
   | (with_reducible exact LeO.refl _)
   | (with_reducible exact LeO.none _)
   | (with_reducible refine LeO.ite ?_ ?_)
   | (with_reducible refine LeO.bind ?_ (fun _ => ?_))
   | exact laws_szArrS.mono _ _ _
   | exact laws_szStmtS.mono _ _ _
   | exact LeO.none _
   | refine LeO.ite ?_ ?_
   | refine LeO.bind ?_ (fun _ => ?_)
set_option maxHeartbeats 8000000 in
set_option maxRecDepth 100000 in
theorem laws_szProg.calls (k : Nat) (A0_0 : Option Addr) (c0_0 : Nat) (l0_0 : List (S117)) (A0_1 : Option Addr) (c0_1 : Nat) (l0_1 : List (S45)) (a1 : Int) (r : Int) (w : World) (hr0_0 : Kd.C k117 w A0_0 l0_0.length l0_0) (hc0_0 : l0_0.length ≤ c0_0) (hr0_1 : Kd.C k45 w A0_1 l0_1.length l0_1) (hc0_1 : l0_1.length ≤ c0_1) (h : laws_szProg.f k l0_0 l0_1 a1 = some r) :
  Calls Try.prog 29 #[.agg #[.slice A0_0 l0_0.length c0_0, .slice A0_1 l0_1.length c0_1], .int .i64 a1] w fun e w' => e = .returned (.int .i64 r) ∧ Below w.heap.size w w' := by
 have hu57 := Try.underlying57
 have HR0_0 := mk0 hr0_0
 have HC0_0 := mk0 hc0_0
 clear hr0_0 hc0_0
 have HR0_1 := mk0 hr0_1
 have HC0_1 := mk0 hc0_1
 clear hr0_1 hc0_1
 have HB := mk0 (Below.refl w.heap.size w)
 have H : ((laws_szArrS.f k l0_0 a1).bind fun t117 => (if t117 < 0 then (some (-1)) else ((laws_szStmtS.f k l0_1 t117).bind fun t118 => (if t118 < 0 then (some (-1)) else (some t118))))) = some r := h
 clear h
 obtain ⟨t117,A3,H⟩ := bindA H
 by_cases c4 : t117 < 0
 ·rw [if_pos c4] at H
  have c4b0 : decide (t117 < 0) = true := decide_eq_true c4
  clear c4
  obtain rfl := Option.some.inj H
  go_enter Try.func29,Try.ntmps29
  go_wp2_with (first|((with_reducible refine gate_dst (N := 2) rfl ?_);refine box_event ?hg (N := 2) ?hd (cs := #[.slice A0_0 l0_0.length c0_0,.slice A0_1 l0_1.length c0_1]) (t := 57) ?hr ?_;(case hd => rfl);(case hg => rfl);(case hr => first|(go_simp;done)|(go_simp;rfl));intro gb116 hg w5 hbox hb;have q_ := qB (by repeat (first|(with_reducible first|exact HB.out|apply bA|apply bN|apply bD)|exact HB.out)) hb;have n0_ := mk0 (below_step q_ hb);have n1_ := mk0 (hbox);have n2_ := mk0 (below_size2 q_ hg);have n3_ := n2_;clear HB;have HB := n0_;have BK116 := n1_;have GW116 := n2_;have GE116 := n3_;clear q_ n0_ n1_ n2_ n3_ hb hbox hg;have z6 := bc2 BK116.out)|((with_reducible refine gate_callee (f := 64) rfl ?_);refine goesL_ (some 8) rfl rfl Try.func64 (by kernel_rfl) rfl #[.slice A0_0 l0_0.length c0_0,.int .i64 a1] rfl (by (try simp only [List.map_toArray,List.map_cons,List.map_nil]);first|done|rfl) ?_;(with_reducible refine (laws_szArrS.calls k _ _ l0_0 a1 t117 _ ?side1 ?side2 A3.out).mono ?_);(case side1 => repeat (first|exact (Kd.C_below HR0_0.out HB.out)|(with_reducible refine cA ?_ _)|(with_reducible refine cN ?_ _)|(with_reducible refine cD ?_)));(case side2 => exact HC0_0.out);rintro e w7 ⟨rfl,hb⟩;refine ⟨_,rfl,?_⟩;have n0_ := mk0 (blk_below (by exact kX BK116.out) hb);have n1_ := mk0 (below_step (by repeat (first|(with_reducible first|exact HB.out|apply bA|apply bN|apply bD|refine bS ?_ GE116.out)|exact HB.out)) hb);clear BK116 HB;have BK116 := n0_;have HB := n1_;clear n0_ n1_;(try clear hb);(try clear hb2);(try clear hk);(try clear hi)))
  go_ret
  exact ⟨by first|rfl|(simp [errW_none,errW_some] <;> rfl)|(simp [*,errW_none,errW_some] <;> rfl),by repeat (first|(with_reducible first|exact HB.out|apply bA|apply bN|apply bD|refine bS ?_ GE116.out)|exact HB.out)⟩
 ·rw [if_neg c4] at H
  have c4b0 : decide (t117 < 0) = false := decide_eq_false c4
  clear c4
  obtain ⟨t118,A8,H⟩ := bindA H
  refine Or.elim (Classical.em (t118 < 0)) (fun c9 => ?yes13) (fun c9 => ?no13)
  case' yes13 =>
   rw [if_pos c9] at H
   have c9b0 : decide (t118 < 0) = true := decide_eq_true c9
   clear c9
   obtain rfl := Option.some.inj H
  case' no13 =>
   rw [if_neg c9] at H
   have c9b0 : decide (t118 < 0) = false := decide_eq_false c9
   clear c9
   obtain rfl := Option.some.inj H
  all_goals
   go_enter Try.func29,Try.ntmps29
   go_wp2_with (first|((with_reducible refine gate_dst (N := 2) rfl ?_);refine box_event ?hg (N := 2) ?hd (cs := #[.slice A0_0 l0_0.length c0_0,.slice A0_1 l0_1.length c0_1]) (t := 57) ?hr ?_;(case hd => rfl);(case hg => rfl);(case hr => first|(go_simp;done)|(go_simp;rfl));intro gb116 hg w10 hbox hb;have q_ := qB (by repeat (first|(with_reducible first|exact HB.out|apply bA|apply bN|apply bD)|exact HB.out)) hb;have n0_ := mk0 (below_step q_ hb);have n1_ := mk0 (hbox);have n2_ := mk0 (below_size2 q_ hg);have n3_ := n2_;clear HB;have HB := n0_;have BK116 := n1_;have GW116 := n2_;have GE116 := n3_;clear q_ n0_ n1_ n2_ n3_ hb hbox hg;have z11 := bc2 BK116.out)|((with_reducible refine gate_callee (f := 64) rfl ?_);refine goesL_ (some 8) rfl rfl Try.func64 (by kernel_rfl) rfl #[.slice A0_0 l0_0.length c0_0,.int .i64 a1] rfl (by (try simp only [List.map_toArray,List.map_cons,List.map_nil]);first|done|rfl) ?_;(with_reducible refine (laws_szArrS.calls k _ _ l0_0 a1 t117 _ ?side1 ?side2 A3.out).mono ?_);(case side1 => repeat (first|exact (Kd.C_below HR0_0.out HB.out)|(with_reducible refine cA ?_ _)|(with_reducible refine cN ?_ _)|(with_reducible refine cD ?_)));(case side2 => exact HC0_0.out);rintro e w12 ⟨rfl,hb⟩;refine ⟨_,rfl,?_⟩;have n0_ := mk0 (blk_below (by exact kX BK116.out) hb);have n1_ := mk0 (below_step (by repeat (first|(with_reducible first|exact HB.out|apply bA|apply bN|apply bD|refine bS ?_ GE116.out)|exact HB.out)) hb);clear BK116 HB;have BK116 := n0_;have HB := n1_;clear n0_ n1_;(try clear hb);(try clear hb2);(try clear hk);(try clear hi);have z13 := bc2 BK116.out)|((with_reducible refine gate_callee (f := 58) rfl ?_);refine goesL_ (some 14) rfl rfl Try.func58 (by kernel_rfl) rfl #[.slice A0_1 l0_1.length c0_1,.int .i64 t117] rfl (by (try simp only [List.map_toArray,List.map_cons,List.map_nil]);first|done|rfl) ?_;(with_reducible refine (laws_szStmtS.calls k _ _ l0_1 t117 t118 _ ?side1 ?side2 A8.out).mono ?_);(case side1 => repeat (first|exact (Kd.C_below HR0_1.out HB.out)|(with_reducible refine cA ?_ _)|(with_reducible refine cN ?_ _)|(with_reducible refine cD ?_)));(case side2 => exact HC0_1.out);rintro e w14 ⟨rfl,hb⟩;refine ⟨_,rfl,?_⟩;have n0_ := mk0 (blk_below (by exact kX BK116.out) hb);have n1_ := mk0 (below_step (by repeat (first|(with_reducible first|exact HB.out|apply bA|apply bN|apply bD|refine bS ?_ GE116.out)|exact HB.out)) hb);clear BK116 HB;have BK116 := n0_;have HB := n1_;clear n0_ n1_;(try clear hb);(try clear hb2);(try clear hk);(try clear hi)))
   go_ret
   exact ⟨by first|rfl|(simp [errW_none,errW_some] <;> rfl)|(simp [*,errW_none,errW_some] <;> rfl),by repeat (first|(with_reducible first|exact HB.out|apply bA|apply bN|apply bD|refine bS ?_ GE116.out)|exact HB.out)⟩
end Go.Proofs.Ytmmdgciefehbcaa.PFnExactArrAt
