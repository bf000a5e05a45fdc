-- The functions of a law as plain Lean functions, each with its contract: written by a program of this session.
import Derived.Test.YtmomablfmhkppaaPFnExactSubAx0
import Derived.Test.YtmomablfmhkppaaPFnExactSubAx5
namespace Go.Proofs.Ytmomablfmhkppaa.PFnExactSubA
open Go.RowKit Go.Proofs.YtmomablfmhkppaaW.PrintWords Go.Proofs.YtmomablfmhkppaaW.PrintLast Go.Proofs.YtmomablfmhkppaaW.PrintMore
attribute [local go_sem] max2_int min2_int max_two min_two max_three min_three max_four min_four   -- for this text's walks alone
set_option linter.unusedVariables false
set_option linter.unusedSimpArgs false

/-! ### spec_SubA: function 15 -/
def spec_SubA.f (k : Nat) (a0_0 : Int) (l0_1 : List (S70)) (a1_0 : Int) (l1_1 : List (S70)) : Option (Int × (List (S70)) × Bool) := (spec_l8Sum.f k a0_0 l0_1 a1_0 l1_1 (-1)).bind fun bt211 => (some (bt211.1, bt211.2.1, bt211.2.2))
theorem spec_SubA.mono : ∀ a0 a1 a2 a3 k, LeO (spec_SubA.f k a0 a1 a2 a3) (spec_SubA.f (k + 1) a0 a1 a2 a3) := by
 intro a0 a1 a2 a3 k
 unfold spec_SubA.f
 repeat' first
   | (with_reducible exact spec_l8Sum.mono _ _ _ _ _ _)
   | (with_reducible exact LeO.refl _)
   | (with_reducible exact LeO.none _)
   | (with_reducible refine LeO.ite ?_ ?_)
   | (with_reducible refine LeO.bind ?_ (fun _ => ?_))
   | exact spec_l8Sum.mono _ _ _ _ _ _
   | exact LeO.none _
   | refine LeO.ite ?_ ?_
   | refine LeO.bind ?_ (fun _ => ?_)
set_option maxHeartbeats 8000000 in
set_option maxRecDepth 100000 in
theorem spec_SubA.calls (k : Nat) (a0_0 : Int) (A0_1 : Option Addr) (c0_1 : Nat) (l0_1 : List (S70)) (a1_0 : Int) (A1_1 : Option Addr) (c1_1 : Nat) (l1_1 : List (S70)) (r1 : Int) (r2 : List (S70)) (r3 : Bool) (w : World) (hr0_1 : Kd.C k70 w A0_1 l0_1.length l0_1) (hc0_1 : l0_1.length ≤ c0_1) (hr1_1 : Kd.C k70 w A1_1 l1_1.length l1_1) (hc1_1 : l1_1.length ≤ c1_1) (h : spec_SubA.f k a0_0 l0_1 a1_0 l1_1 = some (r1, r2, r3)) :
  Calls Try.prog 15 #[.agg #[.int .i64 a0_0, .slice A0_1 l0_1.length c0_1], .agg #[.int .i64 a1_0, .slice A1_1 l1_1.length c1_1]] w fun e w' => ∃ v1_ : Value, e = .returned (.tuple #[.agg #[.int .i64 r1, v1_], .bool r3]) ∧ Kd.R k70 70 w' w.heap.size (fun _ => True) v1_ r2 ∧ Below w.heap.size w w' := by
 have hu28 := Try.underlying28
 have HR0_1 := mk0 hr0_1
 have HC0_1 := mk0 hc0_1
 clear hr0_1 hc0_1
 have HR1_1 := mk0 hr1_1
 have HC1_1 := mk0 hc1_1
 clear hr1_1 hc1_1
 have HB := mk0 (Below.refl w.heap.size w)
 have H : ((spec_l8Sum.f k a0_0 l0_1 a1_0 l1_1 (-1)).bind fun bt211 => (some (bt211.1,bt211.2.1,bt211.2.2))) = some (r1,r2,r3) := h
 clear h
 replace H := Option.bind_eq_some_iff.mp H
 obtain ⟨⟨t211,t212,t215⟩,A30,H⟩ := H
 replace H : (some (t211,t212,t215)) = some (r1,r2,r3) := H
 have A3 := mk0 A30
 clear A30
 simp only [Option.some.injEq,Prod.mk.injEq] at H
 obtain ⟨rfl,rfl,rfl⟩ := H
 go_enter Try.func15,Try.ntmps15
 go_wp2_with (first|((with_reducible refine gate_dst (N := 2) rfl ?_);refine box_event ?hg (N := 2) ?hd (cs := #[.int .i64 a0_0,.slice A0_1 l0_1.length c0_1]) (t := 28) ?hr ?_;(case hd => rfl);(case hg => rfl);(case hr => first|(go_simp;done)|(go_simp;rfl));intro gb208 hg w4 hbox hb;have q_ := qB (by repeat (first|(with_reducible first|exact HB.out|apply bA|apply bN|apply bD)|exact HB.out)) hb;have n0_ := mk0 (below_step q_ hb);have n1_ := mk0 (hbox);have n2_ := mk0 (below_size2 q_ hg);have n3_ := n2_;clear HB;have HB := n0_;have BK208 := n1_;have GW208 := n2_;have GE208 := n3_;clear q_ n0_ n1_ n2_ n3_;clear hb hbox hg)|((with_reducible refine gate_dst (N := 3) rfl ?_);refine box_event ?hg (N := 3) ?hd (cs := #[.int .i64 a1_0,.slice A1_1 l1_1.length c1_1]) (t := 28) ?hr ?_;(case hd => rfl);(case hg => rfl);(case hr => first|(go_simp;done)|(go_simp;rfl));intro gb209 hg w5 hbox hb;have q_ := qB (by repeat (first|(with_reducible first|exact HB.out|apply bA|apply bN|apply bD|refine bS ?_ GE208.out)|exact HB.out)) hb;have n0_ := mk0 (blk_below (by exact kX BK208.out) hb);have n1_ := mk0 (below_step q_ hb);have n2_ := mk0 (hbox);have n3_ := mk0 (below_size2 q_ hg);have n4_ := n3_;have n5_ := mk0 ((by rw [hg];exact Nat.ne_of_lt (blk_lt (by exact kX BK208.out)) : gb208 ≠ gb209));have n6_ := mk0 ((by rw [hg];exact Nat.ne_of_gt (blk_lt (by exact kX BK208.out)) : gb209 ≠ gb208));clear BK208;clear HB;have BK208 := n0_;have HB := n1_;have BK209 := n2_;have GW209 := n3_;have GE209 := n4_;have NB208_209 := n5_;have NB209_208 := n6_;clear q_ n0_ n1_ n2_ n3_ n4_ n5_ n6_;clear hb hbox hg)|((with_reducible refine gate_dst (N := 4) rfl ?_);refine box_event ?hg (N := 4) ?hd (cs := #[.int .i64 0,.slice none 0 0]) (t := 28) ?hr ?_;(case hd => rfl);(case hg => rfl);(case hr => first|(go_simp;done)|(go_simp;rfl));intro gb210 hg w6 hbox hb;have q_ := qB (by repeat (first|(with_reducible first|exact HB.out|apply bA|apply bN|apply bD|refine bS ?_ GE208.out|refine bS ?_ GE209.out)|exact HB.out)) hb;have n0_ := mk0 (blk_below (by exact kX BK208.out) hb);have n1_ := mk0 (blk_below (by exact kX BK209.out) hb);have n2_ := mk0 (below_step q_ hb);have n3_ := mk0 (hbox);have n4_ := mk0 (below_size2 q_ hg);have n5_ := n4_;have n6_ := mk0 ((by rw [hg];exact Nat.ne_of_lt (blk_lt (by exact kX BK208.out)) : gb208 ≠ gb210));have n7_ := mk0 ((by rw [hg];exact Nat.ne_of_gt (blk_lt (by exact kX BK208.out)) : gb210 ≠ gb208));have n8_ := mk0 ((by rw [hg];exact Nat.ne_of_lt (blk_lt (by exact kX BK209.out)) : gb209 ≠ gb210));have n9_ := mk0 ((by rw [hg];exact Nat.ne_of_gt (blk_lt (by exact kX BK209.out)) : gb210 ≠ gb209));clear BK208;clear BK209;clear HB;have BK208 := n0_;have BK209 := n1_;have HB := n2_;have BK210 := n3_;have GW210 := n4_;have GE210 := n5_;have NB208_210 := n6_;have NB210_208 := n7_;have NB209_210 := n8_;have NB210_209 := n9_;clear q_ n0_ n1_ n2_ n3_ n4_ n5_ n6_ n7_ n8_ n9_;clear hb hbox hg;have hnb7 := NB208_209.out;have hnc7 := NB209_208.out;have hnb8 := NB208_210.out;have hnc8 := NB210_208.out;have z9 := bc2 BK208.out;have hnb10 := NB209_210.out;have hnc10 := NB210_209.out;have z11 := bc2 BK209.out)|((with_reducible refine gate_callee (f := 38) rfl ?_);refine goesL_ (some 8) rfl rfl Try.func38 (by kernel_rfl) rfl #[.agg #[.int .i64 a0_0,.slice A0_1 l0_1.length c0_1],.agg #[.int .i64 a1_0,.slice A1_1 l1_1.length c1_1],.int .i64 (-1)] rfl (by (try simp only [List.map_toArray,List.map_cons,List.map_nil]);first|done|rfl) ?_;(with_reducible refine (spec_l8Sum.calls k a0_0 _ _ l0_1 a1_0 _ _ l1_1 (-1) t211 t212 t215 _ ?side1 ?side2 ?side3 ?side4 A3.out).mono ?_);(case side1 => repeat (first|exact (Kd.C_below HR0_1.out HB.out)|(with_reducible refine cA ?_ _)|(with_reducible refine cN ?_ _)|(with_reducible refine cD ?_)));(case side2 => exact HC0_1.out);(case side3 => repeat (first|exact (Kd.C_below HR1_1.out HB.out)|(with_reducible refine cA ?_ _)|(with_reducible refine cN ?_ _)|(with_reducible refine cD ?_)));(case side4 => exact HC1_1.out);rintro e w12 ⟨v213,rfl,ho0,hb⟩;refine ⟨_,rfl,?_⟩;have q_ := qB (by repeat (first|(with_reducible first|exact HB.out|apply bA|apply bN|apply bD|refine bS ?_ GE208.out|refine bS ?_ GE209.out|refine bS ?_ GE210.out)|exact HB.out)) hb;have n0_ := mk0 (Kd.R_lower ho0 (below_size q_));have n1_ := mk0 (blk_below (by exact kX BK208.out) hb);have n2_ := mk0 (blk_below (by exact kX BK209.out) hb);have n3_ := mk0 (blk_below (by exact kX BK210.out) hb);have n4_ := mk0 (below_step q_ hb);clear BK208;clear BK209;clear BK210;clear HB;have HO214 := n0_;have BK208 := n1_;have BK209 := n2_;have BK210 := n3_;have HB := n4_;clear q_ n0_ n1_ n2_ n3_ n4_;(try clear hb);(try clear hb2);(try clear hk);(try clear hi);(try clear ho0);have z13 := bc2 BK210.out;obtain ⟨Ao14,co14,eo14⟩ := Kd.R_slice HO214.out;subst eo14))
 refine bodyPost_ret (results_ct rfl _ _ gb210 28 #[.int .i64 t211,.slice Ao14 t212.length co14] (0,0) _ rfl (by refine kX ?_;refine blk_put (cs := #[.int .i64 t211,.slice none 0 0]) ?_ 1 _ rfl;refine kX ?_;refine blk_put (cs := #[.int .i64 0,.slice none 0 0]) ?_ 0 _ rfl;exact kX BK210.out) Try.underlying28 rfl (by kernel_rfl)) rfl ?_
 exact ⟨_,by first|rfl|(simp [errW_none,errW_some] <;> rfl)|(simp [*,errW_none,errW_some] <;> rfl),by refine rX ?_;exact Kd.R_mono (Kd.R_far (p := ⟨gb210,1,none⟩) (Kd.R_far (p := ⟨gb210,0,none⟩) (Kd.R_types HO214.out BK210.out (by decide)) (fun _ hk => hk.2) (.int .i64 t211)) (fun _ hk => hk.2) (.slice Ao14 t212.length co14)) (fun _ hk => trivial),by repeat (first|(with_reducible first|exact HB.out|apply bA|apply bN|apply bD|refine bS ?_ GE208.out|refine bS ?_ GE209.out|refine bS ?_ GE210.out)|exact HB.out)⟩

/-! ### impl_inRange: function 60 -/
def impl_inRange.f (a0 : Int) (a1 : Int) (a2 : Int) : Option (Bool) := if a0 ≥ a1 then (some (decide (a0 ≤ a2))) else (some false)
set_option maxHeartbeats 8000000 in
set_option maxRecDepth 100000 in
theorem impl_inRange.calls (a0 : Int) (a1 : Int) (a2 : Int) (r : Bool) (w : World) (h : impl_inRange.f a0 a1 a2 = some r) :
  Calls Try.prog 60 #[.int .i64 a0, .int .i64 a1, .int .i64 a2] w fun e w' => e = .returned (.bool r) ∧ Drawn0 w w' := by
 have H : (if a0 ≥ a1 then (some (decide (a0 ≤ a2))) else (some false)) = some r := h
 clear h
 by_cases c4 : a0 ≥ a1
 ·rw [if_pos c4] at H
  have c4b0 : decide (a1 ≤ a0) = true := decide_eq_true c4
  clear c4
  obtain rfl := Option.some.inj H
  go_enter Try.func60,Try.ntmps60
  go_wp2
  go_ret
  exact ⟨by first|rfl|(simp;done)|(simp [*];done),by repeat (first|exact Drawn0.refl _|apply Drawn0.step)⟩
 ·rw [if_neg c4] at H
  have c4b0 : decide (a1 ≤ a0) = false := decide_eq_false c4
  clear c4
  obtain rfl := Option.some.inj H
  go_enter Try.func60,Try.ntmps60
  go_wp2
  go_ret
  exact ⟨by first|rfl|(simp;done)|(simp [*];done),by repeat (first|exact Drawn0.refl _|apply Drawn0.step)⟩

/-! ### impl_isLetter: function 82 -/
def impl_isLetter.f (a0 : Int) : Option (Bool) := if a0 ≥ 97 then (some (decide (a0 ≤ 122))) else (some false)
set_option maxHeartbeats 8000000 in
set_option maxRecDepth 100000 in
theorem impl_isLetter.calls (a0 : Int) (r : Bool) (w : World) (h : impl_isLetter.f a0 = some r) :
  Calls Try.prog 82 #[.int .u8 a0] w fun e w' => e = .returned (.bool r) ∧ Drawn0 w w' := by
 have H : (if a0 ≥ 97 then (some (decide (a0 ≤ 122))) else (some false)) = some r := h
 clear h
 by_cases c2 : a0 ≥ 97
 ·rw [if_pos c2] at H
  have c2b0 : decide (97 ≤ a0) = true := decide_eq_true c2
  clear c2
  obtain rfl := Option.some.inj H
  go_enter Try.func82,Try.ntmps82
  go_wp2
  go_ret
  exact ⟨by first|rfl|(simp;done)|(simp [*];done),by repeat (first|exact Drawn0.refl _|apply Drawn0.step)⟩
 ·rw [if_neg c2] at H
  have c2b0 : decide (97 ≤ a0) = false := decide_eq_false c2
  clear c2
  obtain rfl := Option.some.inj H
  go_enter Try.func82,Try.ntmps82
  go_wp2
  go_ret
  exact ⟨by first|rfl|(simp;done)|(simp [*];done),by repeat (first|exact Drawn0.refl _|apply Drawn0.step)⟩

/-! ### impl_isKept: function 83 -/
def impl_isKept.f (a0 : ByteArray) : Option (Bool) := if a0.toList = ([97,114,114,97,121] : List UInt8) then (some true) else (if a0.toList = ([102,111,114] : List UInt8) then (some true) else (if a0.toList = ([116,111] : List UInt8) then (some true) else (if a0.toList = ([112,114,105,110,116] : List UInt8) then (some true) else (if a0.toList = ([109,105,110] : List UInt8) then (some true) else (if a0.toList = ([109,97,120] : List UInt8) then (some true) else (some false))))))
set_option maxHeartbeats 8000000 in
set_option maxRecDepth 100000 in
theorem impl_isKept.calls (a0 : ByteArray) (r : Bool) (w : World) (h : impl_isKept.f a0 = some r) :
  Calls Try.prog 83 #[.string a0] w fun e w' => e = .returned (.bool r) ∧ Drawn0 w w' := by
 have H : (if a0.toList = ([97,114,114,97,121] : List UInt8) then (some true) else (if a0.toList = ([102,111,114] : List UInt8) then (some true) else (if a0.toList = ([116,111] : List UInt8) then (some true) else (if a0.toList = ([112,114,105,110,116] : List UInt8) then (some true) else (if a0.toList = ([109,105,110] : List UInt8) then (some true) else (if a0.toList = ([109,97,120] : List UInt8) then (some true) else (some false))))))) = some r := h
 clear h
 by_cases c2 : a0.toList = ([97,114,114,97,121] : List UInt8)
 ·rw [if_pos c2] at H
  have c2b0 : (a0.toList == ([97,114,114,97,121] : List UInt8)) = true := beq_iff_eq.mpr c2
  have c2b1 : (a0.toList != ([97,114,114,97,121] : List UInt8)) = false := bne_eq_false_iff_eq.mpr c2
  clear c2
  obtain rfl := Option.some.inj H
  go_enter Try.func83,Try.ntmps83
  go_wp2
  go_ret
  exact ⟨by first|rfl|(simp;done)|(simp [*];done),by repeat (first|exact Drawn0.refl _|apply Drawn0.step)⟩
 ·rw [if_neg c2] at H
  have c2b0 : (a0.toList == ([97,114,114,97,121] : List UInt8)) = false := beq_eq_false_iff_ne.mpr c2
  have c2b1 : (a0.toList != ([97,114,114,97,121] : List UInt8)) = true := bne_iff_ne.mpr c2
  by_cases c3 : a0.toList = ([102,111,114] : List UInt8)
  ·rw [if_pos c3] at H
   have c3b0 : (a0.toList == ([102,111,114] : List UInt8)) = true := beq_iff_eq.mpr c3
   have c3b1 : (a0.toList != ([102,111,114] : List UInt8)) = false := bne_eq_false_iff_eq.mpr c3
   clear c3
   obtain rfl := Option.some.inj H
   go_enter Try.func83,Try.ntmps83
   go_wp2
   go_ret
   exact ⟨by first|rfl|(simp;done)|(simp [*];done),by repeat (first|exact Drawn0.refl _|apply Drawn0.step)⟩
  ·rw [if_neg c3] at H
   have c3b0 : (a0.toList == ([102,111,114] : List UInt8)) = false := beq_eq_false_iff_ne.mpr c3
   have c3b1 : (a0.toList != ([102,111,114] : List UInt8)) = true := bne_iff_ne.mpr c3
   by_cases c4 : a0.toList = ([116,111] : List UInt8)
   ·rw [if_pos c4] at H
    have c4b0 : (a0.toList == ([116,111] : List UInt8)) = true := beq_iff_eq.mpr c4
    have c4b1 : (a0.toList != ([116,111] : List UInt8)) = false := bne_eq_false_iff_eq.mpr c4
    clear c4
    obtain rfl := Option.some.inj H
    go_enter Try.func83,Try.ntmps83
    go_wp2
    go_ret
    exact ⟨by first|rfl|(simp;done)|(simp [*];done),by repeat (first|exact Drawn0.refl _|apply Drawn0.step)⟩
   ·rw [if_neg c4] at H
    have c4b0 : (a0.toList == ([116,111] : List UInt8)) = false := beq_eq_false_iff_ne.mpr c4
    have c4b1 : (a0.toList != ([116,111] : List UInt8)) = true := bne_iff_ne.mpr c4
    by_cases c5 : a0.toList = ([112,114,105,110,116] : List UInt8)
    ·rw [if_pos c5] at H
     have c5b0 : (a0.toList == ([112,114,105,110,116] : List UInt8)) = true := beq_iff_eq.mpr c5
     have c5b1 : (a0.toList != ([112,114,105,110,116] : List UInt8)) = false := bne_eq_false_iff_eq.mpr c5
     clear c5
     obtain rfl := Option.some.inj H
     go_enter Try.func83,Try.ntmps83
     go_wp2
     go_ret
     exact ⟨by first|rfl|(simp;done)|(simp [*];done),by repeat (first|exact Drawn0.refl _|apply Drawn0.step)⟩
    ·rw [if_neg c5] at H
     have c5b0 : (a0.toList == ([112,114,105,110,116] : List UInt8)) = false := beq_eq_false_iff_ne.mpr c5
     have c5b1 : (a0.toList != ([112,114,105,110,116] : List UInt8)) = true := bne_iff_ne.mpr c5
     by_cases c6 : a0.toList = ([109,105,110] : List UInt8)
     ·rw [if_pos c6] at H
      have c6b0 : (a0.toList == ([109,105,110] : List UInt8)) = true := beq_iff_eq.mpr c6
      have c6b1 : (a0.toList != ([109,105,110] : List UInt8)) = false := bne_eq_false_iff_eq.mpr c6
      clear c6
      obtain rfl := Option.some.inj H
      go_enter Try.func83,Try.ntmps83
      go_wp2
      go_ret
      exact ⟨by first|rfl|(simp;done)|(simp [*];done),by repeat (first|exact Drawn0.refl _|apply Drawn0.step)⟩
     ·rw [if_neg c6] at H
      have c6b0 : (a0.toList == ([109,105,110] : List UInt8)) = false := beq_eq_false_iff_ne.mpr c6
      have c6b1 : (a0.toList != ([109,105,110] : List UInt8)) = true := bne_iff_ne.mpr c6
      by_cases c7 : a0.toList = ([109,97,120] : List UInt8)
      ·rw [if_pos c7] at H
       have c7b0 : (a0.toList == ([109,97,120] : List UInt8)) = true := beq_iff_eq.mpr c7
       have c7b1 : (a0.toList != ([109,97,120] : List UInt8)) = false := bne_eq_false_iff_eq.mpr c7
       clear c7
       obtain rfl := Option.some.inj H
       go_enter Try.func83,Try.ntmps83
       go_wp2
       go_ret
       exact ⟨by first|rfl|(simp;done)|(simp [*];done),by repeat (first|exact Drawn0.refl _|apply Drawn0.step)⟩
      ·rw [if_neg c7] at H
       have c7b0 : (a0.toList == ([109,97,120] : List UInt8)) = false := beq_eq_false_iff_ne.mpr c7
       have c7b1 : (a0.toList != ([109,97,120] : List UInt8)) = true := bne_iff_ne.mpr c7
       obtain rfl := Option.some.inj H
       go_enter Try.func83,Try.ntmps83
       go_wp2
       go_ret
       exact ⟨by first|rfl|(simp;done)|(simp [*];done),by repeat (first|exact Drawn0.refl _|apply Drawn0.step)⟩

/-! ### impl_NameOk: function 47 -/
def impl_NameOk.l0 : Nat → ByteArray → Int → Option (Bool)
 |0,_,_ => none
 |k + 1,x0,x3 => if x3 < (x0.size : Int) then (if 0 ≤ x3 then ((impl_isLetter.f (bt x0 x3)).bind fun t216 => (if t216 = true then (impl_NameOk.l0 k x0 (wrap64 (x3 + 1))) else (some false))) else (none)) else ((impl_inRange.f (x0.size : Int) 1 6).bind fun t217 => (if t217 = true then ((impl_isKept.f x0).bind fun t218 => (some (!t218))) else (some false)))
def impl_NameOk.f (k : Nat) (a0 : ByteArray) : Option (Bool) := impl_NameOk.l0 k a0 0
theorem impl_NameOk.mono_l : ∀ k, (∀ y0 y1, LeO (impl_NameOk.l0 k y0 y1) (impl_NameOk.l0 (k + 1) y0 y1))
 | 0 => fun _ _ r h => by simp [impl_NameOk.l0] at h
 | k + 1 => by
  have ih0 := impl_NameOk.mono_l k
  ·intro y0 y1
   unfold impl_NameOk.l0
   repeat' first
   | (with_reducible exact ih0 _ _)
   | (with_reducible exact LeO.refl _)
   | (with_reducible exact LeO.none _)
   | (with_reducible refine LeO.ite ?_ ?_)
   | (with_reducible refine LeO.bind ?_ (fun _ => ?_))
   | exact ih0 _ _
   | exact LeO.none _
   | refine LeO.ite ?_ ?_
   | refine LeO.bind ?_ (fun _ => ?_)
theorem impl_NameOk.mono : ∀ a0 k, LeO (impl_NameOk.f k a0) (impl_NameOk.f (k + 1) a0) := by
 intro a0 k
 have ih0 := impl_NameOk.mono_l k
 unfold impl_NameOk.f
 repeat' first
   | (with_reducible exact ih0 _ _)
   | (with_reducible exact LeO.refl _)
   | (with_reducible exact LeO.none _)
   | (with_reducible refine LeO.ite ?_ ?_)
   | (with_reducible refine LeO.bind ?_ (fun _ => ?_))
   | exact ih0 _ _
   | exact LeO.none _
   | refine LeO.ite ?_ ?_
   | refine LeO.bind ?_ (fun _ => ?_)
set_option maxHeartbeats 8000000 in
set_option maxRecDepth 100000 in
theorem impl_NameOk.calls (k : Nat) (a0 : ByteArray) (r : Bool) (w : World) (h : impl_NameOk.f k a0 = some r) :
  Calls Try.prog 47 #[.string a0] w fun e w' => e = .returned (.bool r) ∧ Drawn0 w w' := by
 have H : (impl_NameOk.l0 k a0 0) = some r := h
 clear h
 have H' := mk0 H
 clear H
 go_enter Try.func47,Try.ntmps47
 go_wp2
 go_loopg [3] k (fun kq v3 w' => ∃ (x3_1 : Int),v3 = .int .i64 x3_1 ∧ Aside0 (impl_NameOk.l0 kq a0 x3_1 = some r) ∧ Aside0 (kq ≤ k) ∧ Drawn0 w w')
 case atStart => exact ⟨(0),(by first|rfl|(simp;done)|(simp [*];done)),H',⟨Nat.le_refl _⟩,by repeat (first|exact Drawn0.refl _|apply Drawn0.step)⟩
 case round =>
  clear H'
  obtain ⟨x3_1,rfl,HA,HK1,⟨m1,rfl⟩⟩ := hrel
  cases gk with
   |zero => exact absurd HA.out (by simp [impl_NameOk.l0])
   |succ k1 =>
   have H := HA.out
   clear HA
   simp only [impl_NameOk.l0] at H
   by_cases c2 : x3_1 < (a0.size : Int)
   ·rw [if_pos c2] at H
    have c2b0 : decide (x3_1 < (a0.size : Int)) = true := decide_eq_true c2
    clear c2
    by_cases c3 : 0 ≤ x3_1
    ·rw [if_pos c3] at H
     have c3b0 : decide (0 ≤ x3_1) = true := decide_eq_true c3
     clear c3
     obtain ⟨t216,A5,H⟩ := bindA H
     by_cases c6 : t216 = true
     ·subst c6
      rw [if_pos rfl] at H
      have H' := mk0 H
      clear H
      have p4 : 0 ≤ (x3_1 : Int) := of_decide_eq_true (by first|(with_reducible assumption)|assumption)
      have q4 : x3_1 < (a0.size : Int) := of_decide_eq_true (by first|(with_reducible assumption)|assumption)
      have hx4 := bt_at a0 x3_1
      replace p4 := eq_true p4
      replace q4 := eq_true q4
      go_wp2_with (first|((with_reducible refine gate_callee (f := 82) rfl ?_);refine goesL_ (some 13) rfl rfl Try.func82 (by kernel_rfl) rfl #[.int .u8 (bt a0 x3_1)] rfl (by (try simp only [List.map_toArray,List.map_cons,List.map_nil]);first|done|rfl) ?_;(with_reducible refine (impl_isLetter.calls (bt a0 x3_1) true _ A5.out).mono ?_);rintro e w' ⟨rfl,⟨nd,rfl⟩⟩;refine ⟨_,rfl,?_⟩))
      go_roundg k1
      case measure => have := HK1.out;omega
      case rel => exact ⟨(wrap64 (x3_1 + 1)),(by first|rfl|(simp;done)|(simp [*];done)),H',⟨by have := HK1.out;omega⟩,by repeat (first|exact Drawn0.refl _|apply Drawn0.step)⟩
     ·replace c6 := Bool.eq_false_iff.mpr c6
      subst c6
      rw [if_neg (show ¬ (false = true) by decide)] at H
      obtain rfl := Option.some.inj H
      have p4 : 0 ≤ (x3_1 : Int) := of_decide_eq_true (by first|(with_reducible assumption)|assumption)
      have q4 : x3_1 < (a0.size : Int) := of_decide_eq_true (by first|(with_reducible assumption)|assumption)
      have hx4 := bt_at a0 x3_1
      replace p4 := eq_true p4
      replace q4 := eq_true q4
      go_wp2_with (first|((with_reducible refine gate_callee (f := 82) rfl ?_);refine goesL_ (some 13) rfl rfl Try.func82 (by kernel_rfl) rfl #[.int .u8 (bt a0 x3_1)] rfl (by (try simp only [List.map_toArray,List.map_cons,List.map_nil]);first|done|rfl) ?_;(with_reducible refine (impl_isLetter.calls (bt a0 x3_1) false _ A5.out).mono ?_);rintro e w' ⟨rfl,⟨nd,rfl⟩⟩;refine ⟨_,rfl,?_⟩))
      go_ret
      exact ⟨by first|rfl|(simp;done)|(simp [*];done),by repeat (first|exact Drawn0.refl _|apply Drawn0.step)⟩
    ·rw [if_neg c3] at H
     exact absurd H (by simp)
   ·rw [if_neg c2] at H
    have c2b0 : decide (x3_1 < (a0.size : Int)) = false := decide_eq_false c2
    clear c2
    obtain ⟨t217,A7,H⟩ := bindA H
    by_cases c8 : t217 = true
    ·subst c8
     rw [if_pos rfl] at H
     obtain ⟨t218,A9,H⟩ := bindA H
     obtain rfl := Option.some.inj H
     go_wp2_with (first|((with_reducible refine gate_callee (f := 60) rfl ?_);refine goesL_ (some 17) rfl rfl Try.func60 (by kernel_rfl) rfl #[.int .i64 (a0.size : Int),.int .i64 1,.int .i64 6] rfl (by (try simp only [List.map_toArray,List.map_cons,List.map_nil]);first|done|rfl) ?_;(with_reducible refine (impl_inRange.calls (a0.size : Int) 1 6 true _ A7.out).mono ?_);rintro e w' ⟨rfl,⟨nd,rfl⟩⟩;refine ⟨_,rfl,?_⟩)|(go_at_call 83;(with_reducible refine (impl_isKept.calls a0 t218 _ A9.out).mono ?_);rintro e w' ⟨rfl,⟨nd,rfl⟩⟩))
     go_ret
     exact ⟨by first|rfl|(simp;done)|(simp [*];done),by repeat (first|exact Drawn0.refl _|apply Drawn0.step)⟩
    ·replace c8 := Bool.eq_false_iff.mpr c8
     subst c8
     rw [if_neg (show ¬ (false = true) by decide)] at H
     obtain rfl := Option.some.inj H
     go_wp2_with (first|((with_reducible refine gate_callee (f := 60) rfl ?_);refine goesL_ (some 17) rfl rfl Try.func60 (by kernel_rfl) rfl #[.int .i64 (a0.size : Int),.int .i64 1,.int .i64 6] rfl (by (try simp only [List.map_toArray,List.map_cons,List.map_nil]);first|done|rfl) ?_;(with_reducible refine (impl_inRange.calls (a0.size : Int) 1 6 false _ A7.out).mono ?_);rintro e w' ⟨rfl,⟨nd,rfl⟩⟩;refine ⟨_,rfl,?_⟩))
     go_ret
     exact ⟨by first|rfl|(simp;done)|(simp [*];done),by repeat (first|exact Drawn0.refl _|apply Drawn0.step)⟩

/-! ### impl_isCoef: function 48 -/
def impl_isCoef.f (a0 : Int) : Option (Bool) := (impl_inRange.f a0 (-100000) 100000).bind fun t219 => (some t219)
set_option maxHeartbeats 8000000 in
set_option maxRecDepth 100000 in
theorem impl_isCoef.calls (a0 : Int) (r : Bool) (w : World) (h : impl_isCoef.f a0 = some r) :
  Calls Try.prog 48 #[.int .i64 a0] w fun e w' => e = .returned (.bool r) ∧ Drawn0 w w' := by
 have H : ((impl_inRange.f a0 (-100000) 100000).bind fun t219 => (some t219)) = some r := h
 clear h
 obtain ⟨t219,A2,H⟩ := bindA H
 obtain rfl := Option.some.inj H
 go_enter Try.func48,Try.ntmps48
 go_wp2_with (first|((with_reducible refine gate_callee (f := 60) rfl ?_);refine goesL_ (some 4) rfl rfl Try.func60 (by kernel_rfl) rfl #[.int .i64 a0,.int .i64 (-100000),.int .i64 100000] rfl (by (try simp only [List.map_toArray,List.map_cons,List.map_nil]);first|done|rfl) ?_;(with_reducible refine (impl_inRange.calls a0 (-100000) 100000 t219 _ A2.out).mono ?_);rintro e w' ⟨rfl,⟨nd,rfl⟩⟩;refine ⟨_,rfl,?_⟩))
 go_ret
 exact ⟨by first|rfl|(simp;done)|(simp [*];done),by repeat (first|exact Drawn0.refl _|apply Drawn0.step)⟩

def impl_AffOk.l0 : Nat → List (S70) → Int → Int → Int → List (S70) → Option (Bool)
 |0,_,_,_,_,_ => none
 |k + 1,x6,x7,x8,x154000,x154001 => if x8 < x7 then (if 0 ≤ x8 then (if x8 < (x6.length : Int) then ((impl_NameOk.f k ((rd_T70 x6 x8).f0)).bind fun t157 => (if t157 = true then (if ((rd_T70 x6 x8).f1) = 0 then (some false) else ((impl_isCoef.f ((rd_T70 x6 x8).f1)).bind fun t158 => (if t158 = true then (if x8 > 0 then (if 0 ≤ (wrap64 (x8 - 1)) then (if (wrap64 (x8 - 1)) < (x154001.length : Int) then (if ((Op.bytesLess (((rd_T70 x154001 (wrap64 (x8 - 1))).f0).toList) (((rd_T70 x6 x8).f0).toList)) = true) then (impl_AffOk.l0 k x6 x7 (wrap64 (x8 + 1)) x154000 x154001) else (some false)) else (none)) else (none)) else (impl_AffOk.l0 k x6 x7 (wrap64 (x8 + 1)) x154000 x154001)) else (some false)))) else (some false))) else (none)) else (none)) else ((impl_isCoef.f x154000).bind fun t154 => (some t154))
def impl_AffOk.f (k : Nat) (a0_0 : Int) (l0_1 : List (S70)) : Option (Bool) := impl_AffOk.l0 k l0_1 (l0_1.length : Int) 0 a0_0 l0_1
theorem impl_AffOk.mono_l : ∀ k, (∀ y0 y1 y2 y3 y4, LeO (impl_AffOk.l0 k y0 y1 y2 y3 y4) (impl_AffOk.l0 (k + 1) y0 y1 y2 y3 y4))
 | 0 => fun _ _ _ _ _ r h => by simp [impl_AffOk.l0] at h
 | k + 1 => by
  have ih0 := impl_AffOk.mono_l k
  ·intro y0 y1 y2 y3 y4
   unfold impl_AffOk.l0
   repeat' first
   | (with_reducible exact ih0 _ _ _ _ _)
   | (with_reducible exact impl_NameOk.mono _ _)
   | (with_reducible exact LeO.refl _)
   | (with_reducible exact LeO.none _)
   | (with_reducible refine LeO.ite ?_ ?_)
   | (with_reducible refine LeO.bind ?_ (fun _ => ?_))
   | exact ih0 _ _ _ _ _
   | exact impl_NameOk.mono _ _
   | exact LeO.none _
   | refine LeO.ite ?_ ?_
   | refine LeO.bind ?_ (fun _ => ?_)
theorem impl_AffOk.mono : ∀ a0 a1 k, LeO (impl_AffOk.f k a0 a1) (impl_AffOk.f (k + 1) a0 a1) := by
 intro a0 a1 k
 have ih0 := impl_AffOk.mono_l k
 unfold impl_AffOk.f
 repeat' first
   | (with_reducible exact ih0 _ _ _ _ _)
   | (with_reducible exact impl_NameOk.mono _ _)
   | (with_reducible exact LeO.refl _)
   | (with_reducible exact LeO.none _)
   | (with_reducible refine LeO.ite ?_ ?_)
   | (with_reducible refine LeO.bind ?_ (fun _ => ?_))
   | exact ih0 _ _ _ _ _
   | exact impl_NameOk.mono _ _
   | exact LeO.none _
   | refine LeO.ite ?_ ?_
   | refine LeO.bind ?_ (fun _ => ?_)
theorem impl_AffOk.leq_not : ∀ a b : List UInt8, (Op.bytesLess a b || a == b) = !Op.bytesLess b a
 | [], [] => by simp [Op.bytesLess]
 | [], b :: ys => by simp [Op.bytesLess]
 | a :: xs, [] => by simp [Op.bytesLess]
 | a :: xs, b :: ys => by
  have ih := impl_AffOk.leq_not xs ys
  simp only [Op.bytesLess]
  rcases Nat.lt_trichotomy a.toNat b.toNat with h | h | h
  ·have h1 : a < b := h
   have h2 : ¬ b < a := fun k => by have : b.toNat < a.toNat := k; omega
   have h3 : ¬ b = a := fun e => by subst e; omega
   have h4 : ¬ a = b := fun e => h3 e.symm
   simp [h1, h2, h3, h4]
  ·have h3 : a = b := UInt8.toNat_inj.1 h
   subst h3
   have h2 : ¬ a < a := fun k => by have : a.toNat < a.toNat := k; omega
   simp [h2]
   simpa using ih
  ·have h1 : b < a := h
   have h2 : ¬ a < b := fun k => by have : a.toNat < b.toNat := k; omega
   have h3 : ¬ b = a := fun e => by subst e; omega
   have h4 : ¬ a = b := fun e => h3 e.symm
   simp [h1, h2, h3, h4]
theorem impl_AffOk.binOp_leq (t : TypeId) (a b : ByteArray) : binOp .leq t (.string a) (.string b) = pure (.bool (!Op.bytesLess b.toList a.toList)) := by
 rw [← impl_AffOk.leq_not]
 simp [binOp, Op.stringOp]
set_option maxHeartbeats 8000000 in
set_option maxRecDepth 100000 in
theorem impl_AffOk.calls (k : Nat) (a0_0 : Int) (A0_1 : Option Addr) (c0_1 : Nat) (l0_1 : List (S70)) (r : Bool) (w : World) (hr0_1 : Kd.C k70 w A0_1 l0_1.length l0_1) (hc0_1 : l0_1.length ≤ c0_1) (h : impl_AffOk.f k a0_0 l0_1 = some r) :
  Calls Try.prog 20 #[.agg #[.int .i64 a0_0, .slice A0_1 l0_1.length c0_1]] w fun e w' => e = .returned (.bool r) ∧ Below w.heap.size w w' := by
 have hu28 := Try.underlying28
 have hu70 := Try.underlying70
 have HR0_1 := mk0 hr0_1
 have HC0_1 := mk0 hc0_1
 clear hr0_1 hc0_1
 have HB := mk0 (Below.refl w.heap.size w)
 have H : (impl_AffOk.l0 k l0_1 (l0_1.length : Int) 0 a0_0 l0_1) = some r := h
 clear h
 have H' := mk0 H
 clear H
 go_enter Try.func20,Try.ntmps20
 go_wp2_with (first|((with_reducible refine gate_dst (N := 1) rfl ?_);refine box_event ?hg (N := 1) ?hd (cs := #[.int .i64 a0_0,.slice A0_1 l0_1.length c0_1]) (t := 28) ?hr ?_;(case hd => rfl);(case hg => rfl);(case hr => first|(go_simp;done)|(go_simp;rfl));intro gb153 hg w2 hbox hb;have q_ := qB (by repeat (first|(with_reducible first|exact HB.out|apply bA|apply bN|apply bD)|exact HB.out)) hb;have n0_ := mk0 (below_step q_ hb);have n1_ := mk0 (hbox);have n2_ := mk0 (below_size2 q_ hg);have n3_ := n2_;clear HB;have HB := n0_;have BK153 := n1_;have GW153 := n2_;have GE153 := n3_;clear q_ n0_ n1_ n2_ n3_;clear hb hbox hg;have z3 := bc2 BK153.out))
 go_loopg [8] k (fun kq v8 w' => ∃ (x8_1 : Int),v8 = .int .i64 x8_1 ∧ Aside0 (impl_AffOk.l0 kq l0_1 (l0_1.length : Int) x8_1 a0_0 l0_1 = some r) ∧ Aside0 (kq ≤ k) ∧ Aside0 (w'.heap[gb153]? = some (.cells #[.int .i64 a0_0,(.slice A0_1 l0_1.length c0_1)] 28 (0,0))) ∧ Aside0 (Below w.heap.size w w'))
 case atStart => exact ⟨(0),(by first|rfl|(simp;done)|(simp [*];done)),H',⟨Nat.le_refl _⟩,⟨by refine kX ?_;exact BK153.out⟩,⟨by repeat (first|(with_reducible first|exact HB.out|apply bA|apply bN|apply bD|refine bS ?_ GE153.out)|exact HB.out)⟩⟩
 case round =>
  clear H'
  try clear p2
  try clear c3
  try clear z3
  obtain ⟨x8_1,rfl,HA,HK1,BK153,HB⟩ := hrel
  cases gk with
   |zero => exact absurd HA.out (by simp [impl_AffOk.l0])
   |succ k1 =>
   have H := HA.out
   clear HA
   simp only [impl_AffOk.l0] at H
   by_cases c4 : x8_1 < (l0_1.length : Int)
   ·rw [if_pos c4] at H
    have c4b0 : decide (x8_1 < (l0_1.length : Int)) = true := decide_eq_true c4
    clear c4
    by_cases c5 : 0 ≤ x8_1
    ·rw [if_pos c5] at H
     have c5b0 : decide (0 ≤ x8_1) = true := decide_eq_true c5
     clear c5
     rw [if_pos (of_decide_eq_true c4b0)] at H
     have p155 : 0 ≤ (x8_1 : Int) := of_decide_eq_true c5b0
     have q155 : x8_1 < (l0_1.length : Int) := of_decide_eq_true c4b0
     obtain ⟨ad155,e155,hx155_0,hx155_1⟩ := at_T70 HR0_1.out x8_1 p155 q155
     cases e155
     replace hx155_0 := hbc HB.out hx155_0
     replace hx155_1 := hbc HB.out hx155_1
     replace p155 := eq_true p155
     replace q155 := eq_true q155
     try go_wp2_with (first|((with_reducible refine gate_dst (N := 4) rfl ?_);refine box_event ?hg (N := 4) ?hd (cs := #[.string (⟨#[]⟩ : ByteArray),.int .i64 0]) (t := 70) ?hr ?_;(case hd => rfl);(case hg => rfl);(case hr => first|(go_simp;done)|(go_simp;rfl));intro gb156 hg w10 hbox hb;have q_ := qB (by repeat (first|(with_reducible first|exact HB.out|apply bA|apply bN|apply bD|refine bS ?_ GE153.out)|exact HB.out)) hb;have n0_ := mk0 (blk_below (by exact kX BK153.out) hb);have n1_ := mk0 (below_step q_ hb);have n2_ := mk0 (hbox);have n3_ := mk0 (below_size2 q_ hg);have n4_ := n3_;have n5_ := mk0 ((by rw [hg];exact Nat.ne_of_lt (blk_lt (by exact kX BK153.out)) : gb153 ≠ gb156));have n6_ := mk0 ((by rw [hg];exact Nat.ne_of_gt (blk_lt (by exact kX BK153.out)) : gb156 ≠ gb153));clear BK153;clear HB;have BK153 := n0_;have HB := n1_;have BK156 := n2_;have GW156 := n3_;have GE156 := n4_;have NB153_156 := n5_;have NB156_153 := n6_;clear q_ n0_ n1_ n2_ n3_ n4_ n5_ n6_;clear hb hbox hg;have hnb11 := NB156_153.out;have hnc11 := NB153_156.out;have hcz12_0 : w10.cell? ⟨gb156,0,none⟩ = some (.string (⟨#[]⟩ : ByteArray)) := (blk_cell BK156.out 0).trans rfl;have hcz12_1 : w10.cell? ⟨gb156,1,none⟩ = some (.int .i64 0) := (blk_cell BK156.out 1).trans rfl;have hfz12_0 := blk_frozen BK156.out 0;have hfz12_1 := blk_frozen BK156.out 1))
     have n0_ : Aside0 (((w10.setCell ⟨gb156,0,none⟩ (.string ((rd_T70 l0_1 x8_1).f0))).setCell ⟨gb156,1,none⟩ (.int .i64 ((rd_T70 l0_1 x8_1).f1))).heap[gb153]? = some (.cells #[.int .i64 a0_0,.slice (some ad155) l0_1.length c0_1] 28 (0,0))) := ⟨by refine kX ?_;refine blk_far ?_ NB153_156.out _;refine kX ?_;refine blk_far ?_ NB153_156.out _;refine kX ?_;exact BK153.out⟩
     have n1_ : Aside0 (((w10.setCell ⟨gb156,0,none⟩ (.string ((rd_T70 l0_1 x8_1).f0))).setCell ⟨gb156,1,none⟩ (.int .i64 ((rd_T70 l0_1 x8_1).f1))).heap[gb156]? = some (.cells #[.string ((rd_T70 l0_1 x8_1).f0),.int .i64 ((rd_T70 l0_1 x8_1).f1)] 70 (0,0))) := ⟨by refine kX ?_;refine blk_put (cs := #[.string ((rd_T70 l0_1 x8_1).f0),.int .i64 0]) ?_ 1 _ rfl;refine kX ?_;refine blk_put (cs := #[.string (⟨#[]⟩ : ByteArray),.int .i64 0]) ?_ 0 _ rfl;refine kX ?_;exact BK156.out⟩
     have n2_ : Aside0 (Below w.heap.size w ((w10.setCell ⟨gb156,0,none⟩ (.string ((rd_T70 l0_1 x8_1).f0))).setCell ⟨gb156,1,none⟩ (.int .i64 ((rd_T70 l0_1 x8_1).f1)))) := ⟨by repeat (first|(with_reducible first|exact HB.out|apply bA|apply bN|apply bD|refine bS ?_ GE153.out|refine bS ?_ GE156.out)|exact HB.out)⟩
     (try clear BK153)
     (try clear BK156)
     (try clear HB)
     generalize ((w10.setCell ⟨gb156,0,none⟩ (.string ((rd_T70 l0_1 x8_1).f0))).setCell ⟨gb156,1,none⟩ (.int .i64 ((rd_T70 l0_1 x8_1).f1))) = w13 at n0_ n1_ n2_ ⊢
     have BK153 := n0_
     have BK156 := n1_
     have HB := n2_
     clear n0_ n1_ n2_
     have hz0 : w13.cell? ⟨gb156,0,none⟩ = some (.string (rd_T70 l0_1 x8_1).f0) := (blk_cell BK156.out 0).trans rfl
     have hz1 : w13.cell? ⟨gb156,1,none⟩ = some (.int .i64 (rd_T70 l0_1 x8_1).f1) := (blk_cell BK156.out 1).trans rfl
     have hy1 : w13.cell? ⟨gb153,1,none⟩ = some (.slice (some ad155) l0_1.length c0_1) := (blk_cell BK153.out 1).trans rfl
     clear hx155_0 hx155_1 hcz12_0 hcz12_1 hfz12_0 hfz12_1 hnb11 hnc11
     replace H := Option.bind_eq_some_iff.mp H
     obtain ⟨t157,A7,H⟩ := H
     have A7 := mk0 A7
     have hbq : ∀ n,Below w.heap.size w (w13.drewN n) := fun n => bN HB.out n
     have HBQ := mk0 hbq
     clear hbq
     have C7 := fun W => (impl_NameOk.calls k1 _ t157 W A7.out).mono (fun e w_ h_ => (⟨h_.1,h_.2.out⟩ : e = Ending.returned (Value.bool t157) ∧ ∃ m,w_ = W.drewN m))
     have CC7 := mk0 C7
     clear C7
     cases t157 with
         |false =>
      rw [if_neg (show ¬ (false = true) by decide)] at H
      obtain rfl := Option.some.inj H
      clear H
      go_quiet (first|(go_at_call 47;refine Calls.quiet_of (CC7.out _)))
      go_wp2
      go_ret
      exact ⟨rfl,HBQ.out _⟩
         |true =>
      rw [if_pos rfl] at H
      by_cases c9 : (rd_T70 l0_1 x8_1).f1 = 0
      ·rw [if_pos c9] at H
       have c9b0 : ((rd_T70 l0_1 x8_1).f1 == 0) = true := beq_iff_eq.mpr c9
       clear c9
       obtain rfl := Option.some.inj H
       clear H
       go_quiet (first|(go_at_call 47;refine Calls.quiet_of (CC7.out _)))
       go_wp2
       go_ret
       exact ⟨rfl,HBQ.out _⟩
      ·rw [if_neg c9] at H
       have c9b0 : ((rd_T70 l0_1 x8_1).f1 == 0) = false := beq_eq_false_iff_ne.mpr c9
       clear c9
       replace H := Option.bind_eq_some_iff.mp H
       obtain ⟨t158,A8,H⟩ := H
       have A8 := mk0 A8
       have CC8 := mk0 (fun W => (impl_isCoef.calls _ t158 W A8.out).mono (fun e w_ h_ => (⟨h_.1,h_.2.out⟩ : e = Ending.returned (Value.bool t158) ∧ ∃ m,w_ = W.drewN m)))
       cases t158 with
             |false =>
        rw [if_neg (show ¬ (false = true) by decide)] at H
        obtain rfl := Option.some.inj H
        clear H
        go_quiet (first|(go_at_call 47;refine Calls.quiet_of (CC7.out _))|(go_at_call 48;refine Calls.quiet_of (CC8.out _)))
        go_wp2
        go_ret
        exact ⟨rfl,HBQ.out _⟩
             |true =>
        rw [if_pos rfl] at H
        by_cases c10 : x8_1 > 0
        ·rw [if_pos c10] at H
         have c10b0 : decide (0 < x8_1) = true := decide_eq_true c10
         have hlm : l0_1.length ≤ 9223372036854775807 := HR0_1.out.2.1
         have hlt : x8_1 < (l0_1.length : Int) := of_decide_eq_true c4b0
         have ew : wrap64 (x8_1 - 1) = x8_1 - 1 := by unfold wrap64;omega
         rw [ew,if_pos (by omega),if_pos (by omega)] at H
         obtain ⟨ji,hji⟩ : ∃ ji : Int,x8_1 - 1 = ji := ⟨_,rfl⟩
         have hw2 : IntKind.i64.wrap (x8_1 - 1) = ji := by rw [IntKind.wrap_i64];omega
         rw [hji] at H
         have p2 : 0 ≤ ji := by omega
         have q2 : ji < (l0_1.length : Int) := by omega
         obtain ⟨ad2,e2,hv0,_⟩ := at_T70 HR0_1.out ji p2 q2
         cases e2
         replace hv0 := hbc HB.out hv0
         clear hlm hlt c10 ew hji
         replace p2 := eq_true p2
         replace q2 := eq_true q2
         have hle := fun t => impl_AffOk.binOp_leq t (rd_T70 l0_1 x8_1).f0 (rd_T70 l0_1 ji).f0
         cases c11 : Op.bytesLess (rd_T70 l0_1 ji).f0.toList (rd_T70 l0_1 x8_1).f0.toList with
                 |false =>
          rw [c11] at hle
          simp only [Bool.not_false] at hle
          rw [c11,if_neg (show ¬ (false = true) by decide)] at H
          obtain rfl := Option.some.inj H
          clear H
          go_quiet (first|(go_at_call 47;refine Calls.quiet_of (CC7.out _))|(go_at_call 48;refine Calls.quiet_of (CC8.out _)))
          go_wp2
          go_ret
          exact ⟨rfl,HBQ.out _⟩
                 |true =>
          rw [c11] at hle
          simp only [Bool.not_true] at hle
          rw [c11,if_pos rfl] at H
          have H' := mk0 H
          clear H
          go_quiet (first|(go_at_call 47;refine Calls.quiet_of (CC7.out _))|(go_at_call 48;refine Calls.quiet_of (CC8.out _)))
          go_wp2
          go_roundg k1
          case measure => have := HK1.out;omega
          case rel => exact ⟨(wrap64 (x8_1 + 1)),rfl,H',⟨by have := HK1.out;omega⟩,⟨by refine kX ?_;exact BK153.out⟩,⟨HBQ.out _⟩⟩
        ·rw [if_neg c10] at H
         have c10b0 : decide (0 < x8_1) = false := decide_eq_false c10
         clear c10
         have H' := mk0 H
         clear H
         go_quiet (first|(go_at_call 47;refine Calls.quiet_of (CC7.out _))|(go_at_call 48;refine Calls.quiet_of (CC8.out _)))
         go_wp2
         go_roundg k1
         case measure => have := HK1.out;omega
         case rel => exact ⟨(wrap64 (x8_1 + 1)),rfl,H',⟨by have := HK1.out;omega⟩,⟨by refine kX ?_;exact BK153.out⟩,⟨HBQ.out _⟩⟩

    ·rw [if_neg c5] at H
     exact absurd H (by simp)
   ·rw [if_neg c4] at H
    have c4b0 : decide (x8_1 < (l0_1.length : Int)) = false := decide_eq_false c4
    clear c4
    replace H := Option.bind_eq_some_iff.mp H
    obtain ⟨t154,A8,H⟩ := H
    obtain rfl := Option.some.inj H
    clear H
    have hy0 : wr.cell? ⟨gb153,0,none⟩ = some (.int .i64 a0_0) := (blk_cell BK153.out 0).trans rfl
    have A8 := mk0 A8
    have CC8 := mk0 (fun W => (impl_isCoef.calls _ t154 W A8.out))
    go_wp2_with (go_at_call 48;refine (CC8.out _).mono ?_;rintro e w' ⟨rfl,⟨nd,rfl⟩⟩)
    go_ret
    exact ⟨rfl,by repeat (first|exact HB.out|apply bN|apply bD)⟩

/-! ### impl_CoefOf: function 21 -/
def impl_CoefOf.l0 : Nat → ByteArray → List (S70) → Int → Int → Option (Int)
 |0,_,_,_,_ => none
 |k + 1,x1,x8,x9,x10 => if x10 < x9 then (if 0 ≤ x10 then (if x10 < (x8.length : Int) then (if ((rd_T70 x8 x10).f0).toList = x1.toList then (some ((rd_T70 x8 x10).f1)) else (impl_CoefOf.l0 k x1 x8 x9 (wrap64 (x10 + 1)))) else (none)) else (none)) else (some 0)
def impl_CoefOf.f (k : Nat) (a0_0 : Int) (l0_1 : List (S70)) (a1 : ByteArray) : Option (Int) := impl_CoefOf.l0 k a1 l0_1 (l0_1.length : Int) 0
theorem impl_CoefOf.mono_l : ∀ k, (∀ y0 y1 y2 y3, LeO (impl_CoefOf.l0 k y0 y1 y2 y3) (impl_CoefOf.l0 (k + 1) y0 y1 y2 y3))
 | 0 => fun _ _ _ _ r h => by simp [impl_CoefOf.l0] at h
 | k + 1 => by
  have ih0 := impl_CoefOf.mono_l k
  ·intro y0 y1 y2 y3
   unfold impl_CoefOf.l0
   repeat' first
   | (with_reducible exact ih0 _ _ _ _)
   | (with_reducible exact LeO.refl _)
   | (with_reducible exact LeO.none _)
   | (with_reducible refine LeO.ite ?_ ?_)
   | (with_reducible refine LeO.bind ?_ (fun _ => ?_))
   | exact ih0 _ _ _ _
   | exact LeO.none _
   | refine LeO.ite ?_ ?_
   | refine LeO.bind ?_ (fun _ => ?_)
theorem impl_CoefOf.mono : ∀ a0 a1 a2 k, LeO (impl_CoefOf.f k a0 a1 a2) (impl_CoefOf.f (k + 1) a0 a1 a2) := by
 intro a0 a1 a2 k
 have ih0 := impl_CoefOf.mono_l k
 unfold impl_CoefOf.f
 repeat' first
   | (with_reducible exact ih0 _ _ _ _)
   | (with_reducible exact LeO.refl _)
   | (with_reducible exact LeO.none _)
   | (with_reducible refine LeO.ite ?_ ?_)
   | (with_reducible refine LeO.bind ?_ (fun _ => ?_))
   | exact ih0 _ _ _ _
   | exact LeO.none _
   | refine LeO.ite ?_ ?_
   | refine LeO.bind ?_ (fun _ => ?_)
set_option maxHeartbeats 8000000 in
set_option maxRecDepth 100000 in
theorem impl_CoefOf.calls (k : Nat) (a0_0 : Int) (A0_1 : Option Addr) (c0_1 : Nat) (l0_1 : List (S70)) (a1 : ByteArray) (r : Int) (w : World) (hr0_1 : Kd.C k70 w A0_1 l0_1.length l0_1) (hc0_1 : l0_1.length ≤ c0_1) (h : impl_CoefOf.f k a0_0 l0_1 a1 = some r) :
  Calls Try.prog 21 #[.agg #[.int .i64 a0_0, .slice A0_1 l0_1.length c0_1], .string a1] w fun e w' => e = .returned (.int .i64 r) ∧ Below w.heap.size w w' := by
 have hu28 := Try.underlying28
 have hu70 := Try.underlying70
 have HR0_1 := mk0 hr0_1
 have HC0_1 := mk0 hc0_1
 clear hr0_1 hc0_1
 have HB := mk0 (Below.refl w.heap.size w)
 have H : (impl_CoefOf.l0 k a1 l0_1 (l0_1.length : Int) 0) = some r := h
 clear h
 have H' := mk0 H
 clear H
 go_enter Try.func21,Try.ntmps21
 go_wp2_with (first|((with_reducible refine gate_dst (N := 2) rfl ?_);refine box_event ?hg (N := 2) ?hd (cs := #[.int .i64 a0_0,.slice A0_1 l0_1.length c0_1]) (t := 28) ?hr ?_;(case hd => rfl);(case hg => rfl);(case hr => first|(go_simp;done)|(go_simp;rfl));intro gb220 hg w3 hbox hb;have q_ := qB (by repeat (first|(with_reducible first|exact HB.out|apply bA|apply bN|apply bD)|exact HB.out)) hb;have n0_ := mk0 (below_step q_ hb);have n1_ := mk0 (hbox);have n2_ := mk0 (below_size2 q_ hg);have n3_ := n2_;clear HB;have HB := n0_;have BK220 := n1_;have GW220 := n2_;have GE220 := n3_;clear q_ n0_ n1_ n2_ n3_;clear hb hbox hg;have z4 := bc2 BK220.out))
 go_loopg [10] k (fun kq v10 w' => ∃ (x10_1 : Int),v10 = .int .i64 x10_1 ∧ Aside0 (impl_CoefOf.l0 kq a1 l0_1 (l0_1.length : Int) x10_1 = some r) ∧ Aside0 (kq ≤ k) ∧ Aside0 (w'.heap[gb220]? = some (.cells #[.int .i64 a0_0,(.slice A0_1 l0_1.length c0_1)] 28 (0,0))) ∧ Aside0 (Below w.heap.size w w'))
 case atStart => exact ⟨(0),(by first|rfl|(simp;done)|(simp [*];done)),H',⟨Nat.le_refl _⟩,⟨by refine kX ?_;exact BK220.out⟩,⟨by repeat (first|(with_reducible first|exact HB.out|apply bA|apply bN|apply bD|refine bS ?_ GE220.out)|exact HB.out)⟩⟩
 case round =>
  clear H'
  try clear c2
  try clear p2
  try clear z4
  obtain ⟨x10_1,rfl,HA,HK1,BK220,HB⟩ := hrel
  cases gk with
   |zero => exact absurd HA.out (by simp [impl_CoefOf.l0])
   |succ k1 =>
   have H := HA.out
   clear HA
   simp only [impl_CoefOf.l0] at H
   by_cases c5 : x10_1 < (l0_1.length : Int)
   ·rw [if_pos c5] at H
    have c5b0 : decide (x10_1 < (l0_1.length : Int)) = true := decide_eq_true c5
    clear c5
    by_cases c6 : 0 ≤ x10_1
    ·rw [if_pos c6] at H
     have c6b0 : decide (0 ≤ x10_1) = true := decide_eq_true c6
     clear c6
     by_cases c7 : x10_1 < (l0_1.length : Int)
     ·rw [if_pos c7] at H
      have c7b0 : decide (x10_1 < (l0_1.length : Int)) = true := decide_eq_true c7
      clear c7
      by_cases c8 : ((rd_T70 l0_1 x10_1).f0).toList = a1.toList
      ·rw [if_pos c8] at H
       have c8b0 : (((rd_T70 l0_1 x10_1).f0).toList == a1.toList) = true := beq_iff_eq.mpr c8
       have c8b1 : (((rd_T70 l0_1 x10_1).f0).toList != a1.toList) = false := bne_eq_false_iff_eq.mpr c8
       clear c8
       obtain rfl := Option.some.inj H
       have p221 : 0 ≤ (x10_1 : Int) := of_decide_eq_true (by first|(with_reducible assumption)|assumption)
       have q221 : x10_1 < (l0_1.length : Int) := of_decide_eq_true (by first|(with_reducible assumption)|assumption)
       obtain ⟨ad221,e221,hx221_0,hx221_1⟩ := at_T70 HR0_1.out x10_1 p221 q221
       cases e221
       replace hx221_0 := hbc HB.out hx221_0
       replace hx221_1 := hbc HB.out hx221_1
       replace p221 := eq_true p221
       replace q221 := eq_true q221
       go_wp2_with (first|((with_reducible refine gate_dst (N := 6) rfl ?_);refine box_event ?hg (N := 6) ?hd (cs := #[.string (⟨#[]⟩ : ByteArray),.int .i64 0]) (t := 70) ?hr ?_;(case hd => rfl);(case hg => rfl);(case hr => first|(go_simp;done)|(go_simp;rfl));intro gb222 hg w9 hbox hb;have q_ := qB (by repeat (first|(with_reducible first|exact HB.out|apply bA|apply bN|apply bD|refine bS ?_ GE220.out)|exact HB.out)) hb;have n0_ := mk0 (blk_below (by exact kX BK220.out) hb);have n1_ := mk0 (below_step q_ hb);have n2_ := mk0 (hbox);have n3_ := mk0 (below_size2 q_ hg);have n4_ := n3_;have n5_ := mk0 ((by rw [hg];exact Nat.ne_of_lt (blk_lt (by exact kX BK220.out)) : gb220 ≠ gb222));have n6_ := mk0 ((by rw [hg];exact Nat.ne_of_gt (blk_lt (by exact kX BK220.out)) : gb222 ≠ gb220));clear BK220;clear HB;have BK220 := n0_;have HB := n1_;have BK222 := n2_;have GW222 := n3_;have GE222 := n4_;have NB220_222 := n5_;have NB222_220 := n6_;clear q_ n0_ n1_ n2_ n3_ n4_ n5_ n6_;clear hb hbox hg;have hnb10 := NB222_220.out;have hnc10 := NB220_222.out;have z11 := bc2 BK222.out))
       go_ret
       exact ⟨by first|rfl|(simp [errW_none,errW_some] <;> rfl)|(simp [*,errW_none,errW_some] <;> rfl),by repeat (first|(with_reducible first|exact HB.out|apply bA|apply bN|apply bD|refine bS ?_ GE220.out|refine bS ?_ GE222.out)|exact HB.out)⟩
      ·rw [if_neg c8] at H
       have c8b0 : (((rd_T70 l0_1 x10_1).f0).toList == a1.toList) = false := beq_eq_false_iff_ne.mpr c8
       have c8b1 : (((rd_T70 l0_1 x10_1).f0).toList != a1.toList) = true := bne_iff_ne.mpr c8
       have H' := mk0 H
       clear H
       have p221 : 0 ≤ (x10_1 : Int) := of_decide_eq_true (by first|(with_reducible assumption)|assumption)
       have q221 : x10_1 < (l0_1.length : Int) := of_decide_eq_true (by first|(with_reducible assumption)|assumption)
       obtain ⟨ad221,e221,hx221_0,hx221_1⟩ := at_T70 HR0_1.out x10_1 p221 q221
       cases e221
       replace hx221_0 := hbc HB.out hx221_0
       replace hx221_1 := hbc HB.out hx221_1
       replace p221 := eq_true p221
       replace q221 := eq_true q221
       go_wp2_with (first|((with_reducible refine gate_dst (N := 6) rfl ?_);refine box_event ?hg (N := 6) ?hd (cs := #[.string (⟨#[]⟩ : ByteArray),.int .i64 0]) (t := 70) ?hr ?_;(case hd => rfl);(case hg => rfl);(case hr => first|(go_simp;done)|(go_simp;rfl));intro gb222 hg w12 hbox hb;have q_ := qB (by repeat (first|(with_reducible first|exact HB.out|apply bA|apply bN|apply bD|refine bS ?_ GE220.out)|exact HB.out)) hb;have n0_ := mk0 (blk_below (by exact kX BK220.out) hb);have n1_ := mk0 (below_step q_ hb);have n2_ := mk0 (hbox);have n3_ := mk0 (below_size2 q_ hg);have n4_ := n3_;have n5_ := mk0 ((by rw [hg];exact Nat.ne_of_lt (blk_lt (by exact kX BK220.out)) : gb220 ≠ gb222));have n6_ := mk0 ((by rw [hg];exact Nat.ne_of_gt (blk_lt (by exact kX BK220.out)) : gb222 ≠ gb220));clear BK220;clear HB;have BK220 := n0_;have HB := n1_;have BK222 := n2_;have GW222 := n3_;have GE222 := n4_;have NB220_222 := n5_;have NB222_220 := n6_;clear q_ n0_ n1_ n2_ n3_ n4_ n5_ n6_;clear hb hbox hg;have hnb13 := NB222_220.out;have hnc13 := NB220_222.out;have z14 := bc2 BK222.out))
       go_roundg k1
       case measure => have := HK1.out;omega
       case rel => exact ⟨(wrap64 (x10_1 + 1)),(by first|rfl|(simp;done)|(simp [*];done)),H',⟨by have := HK1.out;omega⟩,⟨by refine kX ?_;refine blk_far ?_ NB220_222.out _;refine kX ?_;refine blk_far ?_ NB220_222.out _;refine kX ?_;exact BK220.out⟩,⟨by repeat (first|(with_reducible first|exact HB.out|apply bA|apply bN|apply bD|refine bS ?_ GE220.out|refine bS ?_ GE222.out)|exact HB.out)⟩⟩
     ·rw [if_neg c7] at H
      exact absurd H (by simp)
    ·rw [if_neg c6] at H
     exact absurd H (by simp)
   ·rw [if_neg c5] at H
    have c5b0 : decide (x10_1 < (l0_1.length : Int)) = false := decide_eq_false c5
    clear c5
    obtain rfl := Option.some.inj H
    go_wp2
    go_ret
    exact ⟨by first|rfl|(simp [errW_none,errW_some] <;> rfl)|(simp [*,errW_none,errW_some] <;> rfl),by repeat (first|(with_reducible first|exact HB.out|apply bA|apply bN|apply bD|refine bS ?_ GE220.out)|exact HB.out)⟩

def impl_Term_75.cf (x y : S70) : Int := if Op.bytesLess x.f0.toList y.f0.toList = true then -1 else if (x.f0.toList == y.f0.toList) = true then 0 else 1
instance impl_Term_75.inh : Inhabited S70 := ⟨z70⟩
def impl_Term_75.sorted (l : List S70) : List S70 := (Go.Sort.pdq (ltOf impl_Term_75.cf) l.toArray 0 l.toArray.size (Go.Lib.bitLen l.toArray.size) true true).toList
def impl_Term_75.f (l0 : List S70) : Option (List S70) := if l0.length < 4611686018427387904 then some (impl_Term_75.sorted l0) else none
def impl_Term_75.enc (x : S70) : List Value := [.string x.f0,.int .i64 x.f1]
theorem impl_Term_75.less_eq : ∀ (x y : List UInt8), Op.bytesLess x y = decide (x < y)
 | [], [] => by simp [Op.bytesLess]
 | _ :: _, [] => by simp [Op.bytesLess]
 | [], _ :: _ => by simp [Op.bytesLess]
 | a :: x, b :: y => by
  rw [Op.bytesLess, impl_Term_75.less_eq x y]
  simp only [List.cons_lt_cons_iff]
  by_cases h1 : a < b <;> by_cases h2 : a = b <;> by_cases h3 : x < y <;> simp [h1, h2, h3]
theorem impl_Term_75.lt_eq (x y : S70) : ltOf impl_Term_75.cf x y = decide (x.f0.toList < y.f0.toList) := by
 unfold ltOf impl_Term_75.cf
 rw [impl_Term_75.less_eq]
 by_cases h : x.f0.toList < y.f0.toList
 ·simp [h]
 ·by_cases h2 : x.f0.toList = y.f0.toList
  ·simp [h2, List.lt_irrefl]
  ·simp [h, h2]
theorem impl_Term_75.swo : Go.Sort.SWO (ltOf impl_Term_75.cf) where
 irrefl x := by simp [impl_Term_75.lt_eq, List.lt_irrefl]
 trans x y z h1 h2 := by
  simp only [impl_Term_75.lt_eq, decide_eq_true_eq] at *
  exact List.lt_trans h1 h2
 ntrans x y z h1 h2 := by
  simp only [impl_Term_75.lt_eq, decide_eq_false_iff_not, List.not_lt] at *
  exact List.le_trans h2 h1
theorem impl_Term_75.nan (x : ByteArray) (w : World) : Calls Try.prog 97 #[.string x] w fun e w' => e = .returned (.bool false) ∧ w' = w := by
 go_enter Try.func97, Try.ntmps97
 go_wp2
 go_ret
 exact ⟨by simp, rfl⟩
set_option maxRecDepth 100000 in
set_option maxHeartbeats 2000000 in
theorem impl_Term_75.compare (x y : S70) (w : World) : Calls Try.prog 77 #[.string x.f0, .string y.f0] w fun e w' => e = .returned (.int .i64 (impl_Term_75.cf x y)) ∧ w' = w := by
 unfold impl_Term_75.cf
 cases c : Op.bytesLess x.f0.toList y.f0.toList with
 | true =>
  go_enter Try.func77, Try.ntmps77
  go_wp2_with (go_at_call 97; refine (impl_Term_75.nan _ _).mono ?_; rintro e w' ⟨rfl, rfl⟩)
  go_ret
  exact ⟨rfl, rfl⟩
 | false =>
  cases d : (x.f0.toList == y.f0.toList) with
  | true =>
   go_enter Try.func77, Try.ntmps77
   go_wp2_with (go_at_call 97; refine (impl_Term_75.nan _ _).mono ?_; rintro e w' ⟨rfl, rfl⟩)
   go_ret
   exact ⟨rfl, rfl⟩
  | false =>
   go_enter Try.func77, Try.ntmps77
   go_wp2_with (go_at_call 97; refine (impl_Term_75.nan _ _).mono ?_; rintro e w' ⟨rfl, rfl⟩)
   go_ret
   exact ⟨rfl, rfl⟩
set_option maxHeartbeats 2000000 in
theorem impl_Term_75.closure (x y : S70) (W : World) : Calls Try.prog 76 #[.agg #[.string x.f0, .int .i64 x.f1], .agg #[.string y.f0, .int .i64 y.f1]] W fun e w' => e = .returned (.int .i64 (impl_Term_75.cf x y)) ∧ ∃ q os', w' = Go.Sort.grow (W.drewN q) os' := by
 have hcon := fun W' => impl_Term_75.compare x y W'
 generalize impl_Term_75.cf x y = r at hcon ⊢
 go_enter Try.func76, Try.ntmps76
 go_wp2_with (go_at_call 77; refine (hcon _).mono ?_; rintro e w' ⟨rfl, rfl⟩)
 go_ret
 exact ⟨rfl, 0, _, by rw [Go.Sort.alloc_eq_grow, Go.Sort.alloc_eq_grow, Go.Sort.grow_grow]; rfl⟩
theorem impl_Term_75.flat_get (l : List S70) (j : Nat) (hj : j < l.length) : ((Go.Sort.flatK impl_Term_75.enc 2 l.toArray).toList.drop (j * 2)).take 2 = impl_Term_75.enc l[j] := by
 have hs : (Go.Sort.flatK impl_Term_75.enc 2 l.toArray).toList.length = l.length * 2 := by simp
 apply List.ext_getElem?
 intro i
 by_cases hi : i < 2
 ·rw [List.getElem?_take_of_lt hi, List.getElem?_drop]
  have h1 : j * 2 + i < (Go.Sort.flatK impl_Term_75.enc 2 l.toArray).toList.length := by rw [hs]; omega
  rw [List.getElem?_eq_getElem h1]
  have h2 := Go.Sort.get_flatK impl_Term_75.enc 2 l.toArray (j * 2 + i) (by simp; omega)
  have h3 : (j * 2 + i) / 2 = j := by omega
  have h4 : (j * 2 + i) % 2 = i := by omega
  rw [h3, h4] at h2
  have h5 : (Go.Sort.flatK impl_Term_75.enc 2 l.toArray)[j * 2 + i]! = (Go.Sort.flatK impl_Term_75.enc 2 l.toArray).toList[j * 2 + i] := by
   rw [getElem!_pos _ _ (by simpa using h1)]
   simp
  have h6 : l.toArray[j]! = l[j] := by
   rw [getElem!_pos _ _ (by simpa using hj)]
   simp
  rw [← h5, h2, h6]
  have : i = 0 ∨ i = 1 := by omega
  rcases this with rfl | rfl <;> rfl
 ·rw [List.getElem?_eq_none (by rw [List.length_take]; omega), List.getElem?_eq_none (by simp [impl_Term_75.enc]; omega)]
theorem impl_Term_75.inner_eq {w : World} {base : Nat} {ok : Nat → Prop} {l : List S70} {inner : List Value} (h : Reps (k70.M w base ok) 2 l inner) : inner = (Go.Sort.flatK impl_Term_75.enc 2 l.toArray).toList := by
 have hs : (Go.Sort.flatK impl_Term_75.enc 2 l.toArray).toList.length = l.length * 2 := by simp
 apply List.ext_getElem?
 intro t
 by_cases ht : t < l.length * 2
 ·have hj : t / 2 < l.length := by omega
  have h1 := k70_openM (h.2 (t / 2) _ (List.getElem?_eq_getElem hj))
  have h2 := impl_Term_75.flat_get l (t / 2) hj
  have e : t = t / 2 * 2 + t % 2 := by omega
  have f : ∀ L : List Value, L[t]? = ((L.drop (t / 2 * 2)).take 2)[t % 2]? := fun L => by
   rw [List.getElem?_take_of_lt (by omega), List.getElem?_drop, ← e]
  rw [f inner, f (Go.Sort.flatK impl_Term_75.enc 2 l.toArray).toList, h1, h2]
  rfl
 ·rw [List.getElem?_eq_none (by rw [h.1]; omega), List.getElem?_eq_none (by omega)]
theorem impl_Term_75.reps (w : World) (base : Nat) (ok : Nat → Prop) (l : List S70) : Reps (k70.M w base ok) 2 l (Go.Sort.flatK impl_Term_75.enc 2 l.toArray).toList := by
 refine ⟨by simp, fun j p hj => ?_⟩
 obtain ⟨hl, rfl⟩ := List.getElem?_eq_some_iff.1 hj
 rw [impl_Term_75.flat_get l j hl]
 exact k70_mkM w base ok _
set_option maxHeartbeats 2000000 in
theorem impl_Term_75.calls (P0_ : Nat → Prop) (u9000_ : Value) (l0 : List S70) (r : List S70) (w0 w : World) (hB : Below w0.heap.size w0 w) (ho0 : Kd.R k70 70 w w0.heap.size P0_ u9000_ l0) (h : impl_Term_75.f l0 = some r) :
  Calls Try.prog 75 #[u9000_, .func (.func 76) #[] #[]] w fun e w' => e = .returned (.tuple #[]) ∧ Kd.R k70 70 w' w0.heap.size (fun k_ => (P0_ k_ ∨ w.heap.size ≤ k_)) u9000_ r ∧ Below w0.heap.size w0 w' ∧ Kept w w' (fun k_ => P0_ k_) := by
 unfold impl_Term_75.f at h
 by_cases hlen : l0.length < 4611686018427387904
 ·rw [if_pos hlen] at h
  obtain rfl := Option.some.inj h
  have hsorts := Go.Sort.pdq_sorts (ltOf impl_Term_75.cf) impl_Term_75.swo l0.toArray 0 l0.toArray.size (Go.Lib.bitLen l0.toArray.size) true true (Nat.zero_le _) (Nat.le_refl _) (Or.inl rfl)
  have hsz : (impl_Term_75.sorted l0).length = l0.length := by
   have := hsorts.1.1
   unfold impl_Term_75.sorted
   simpa using this
  obtain ⟨hP,inner,ho,hr⟩ := ho0
  obtain ⟨hl,ho⟩ := ho
  replace hl : inner.length = l0.length * 2 := hl
  rcases ho with ⟨rfl,hn⟩|⟨g,cap,cur,rfl,hg,hh,hc1,hc2,hc3,hc4⟩
  ·have e0 : l0 = [] := List.length_eq_zero_iff.1 hn
   subst e0
   have e1 : impl_Term_75.sorted [] = [] := List.length_eq_zero_iff.1 hsz
   rw [e1]
   refine (AnyF.slices_SortFunc_none Try.sortT none 0 _ w).mono ?_
   rintro e w' ⟨he,rfl⟩
   exact ⟨he,Kd.R_nil _ _ _ _ _,hB,Kept.refl _ _⟩
  ·replace hc3 : cur.size = cap * 2 := hc3
   replace hc4 : cur.toList.take (l0.length * 2) = inner := hc4
   have hin := impl_Term_75.inner_eq hr
   have hgl : g < w.heap.size := (Array.getElem?_eq_some_iff.1 hh).1
   have hH : Go.Sort.HoldsK impl_Term_75.enc 2 w g 0 l0.toArray := by
    intro j hj
    have hj' : j < l0.length * 2 := by simpa using hj
    refine ⟨?_,by rw [Nat.zero_add];exact blk_frozen hh j⟩
    rw [Nat.zero_add,blk_cell hh j]
    have e1 : inner[j]? = cur[j]? := by
     rw [← hc4,List.getElem?_take_of_lt hj',Array.getElem?_toList]
    rw [← e1,hin,Array.getElem?_toList,Array.getElem?_eq_getElem hj,getElem!_pos (Go.Sort.flatK impl_Term_75.enc 2 l0.toArray) j hj]
    rfl
   refine (AnyQ.slices_SortFunc_eq Try.sortT 2 (fun _ => by kernel_rfl) (fun _ => by kernel_rfl) impl_Term_75.enc (fun _ => rfl) (fun x v hv => by simp [impl_Term_75.enc] at hv;rcases hv with rfl|rfl <;> rfl) impl_Term_75.cf impl_Term_75.swo 76 #[] g 0 cap l0.toArray w (enters_of Try.func76 (by kernel_rfl) rfl) (fun _ _ _ _ x y => impl_Term_75.closure x y _) hH hgl (by simpa using hlen)).mono ?_
   rintro e w' ⟨he,m,os,rfl⟩
   have hS : impl_Term_75.sorted l0 = (Go.Sort.pdq (ltOf impl_Term_75.cf) l0.toArray 0 l0.toArray.size (Go.Lib.bitLen l0.toArray.size) true true).toList := rfl
   generalize hd : Go.Sort.pdq (ltOf impl_Term_75.cf) l0.toArray 0 l0.toArray.size (Go.Lib.bitLen l0.toArray.size) true true = d at hS hsorts
   have hds : d.size = l0.length := by
    have := hsorts.1.1
    simpa using this
   have hblk : ∀ k,k < w.heap.size → (sortWorldK impl_Term_75.enc 2 w g 0 m d os).heap[k]? = (w.heap.modify g (Go.Sort.onCells (Go.Sort.putCells id 0 (Go.Sort.flatK impl_Term_75.enc 2 d))))[k]? := fun k hk => by
    show ((w.heap.modify g _) ++ os)[k]? = _
    rw [Array.getElem?_append_left (by simpa using hk)]
   have hother : ∀ k,k < w.heap.size → k ≠ g → (sortWorldK impl_Term_75.enc 2 w g 0 m d os).heap[k]? = w.heap[k]? := fun k hk hne => by
    rw [hblk k hk,Array.getElem?_modify,if_neg (fun h => hne h.symm)]
   have hsize : w.heap.size ≤ (sortWorldK impl_Term_75.enc 2 w g 0 m d os).heap.size := by
    show _ ≤ ((w.heap.modify g _) ++ os).size
    simp
   have hown : (sortWorldK impl_Term_75.enc 2 w g 0 m d os).heap[g]? = some (.cells (Go.Sort.putCells id 0 (Go.Sort.flatK impl_Term_75.enc 2 d) cur) 70 (0,0)) := by
    rw [hblk g hgl,Array.getElem?_modify,if_pos rfl,hh]
    rfl
   have htake : (Go.Sort.putCells id 0 (Go.Sort.flatK impl_Term_75.enc 2 d) cur).toList.take (l0.length * 2) = (Go.Sort.flatK impl_Term_75.enc 2 d).toList := by
    have hF : (Go.Sort.flatK impl_Term_75.enc 2 d).size = l0.length * 2 := by simp [hds]
    apply List.ext_getElem?
    intro t
    by_cases ht : t < l0.length * 2
    ·have htc : t < cur.size := by rw [hc3];omega
     rw [List.getElem?_take_of_lt ht,Array.getElem?_toList,Array.getElem?_toList]
     unfold Go.Sort.putCells
     rw [Array.getElem?_mapIdx,Array.getElem?_eq_getElem htc,Option.map_some,if_pos ⟨by omega,by omega⟩,Nat.sub_zero,Array.getElem?_eq_getElem (by omega),getElem!_pos _ _ (by omega)]
     rfl
    ·rw [List.getElem?_eq_none (by rw [List.length_take];omega),List.getElem?_eq_none (by simp;omega)]
   have hBn : Below w0.heap.size w0 (sortWorldK impl_Term_75.enc 2 w g 0 m d os) := ⟨hB.os,hB.tape,hB.output,Nat.le_trans hB.size hsize,fun k hk => (hother k (Nat.lt_of_lt_of_le hk hB.size) (by omega)).trans (hB.block k hk)⟩
   refine ⟨he,?_,hBn,hsize,fun k hk hn => hother k hk (fun e => hn (by rw [e];exact hP g rfl))⟩
   refine ⟨fun k hk => .inl (hP k hk),(Go.Sort.flatK impl_Term_75.enc 2 d).toList,⟨?_,.inr ⟨g,cap,_,by rw [hsz],hg,hown,by omega,hc2,?_,?_⟩⟩,?_⟩
   ·show (Go.Sort.flatK impl_Term_75.enc 2 d).toList.length = (impl_Term_75.sorted l0).length * 2
    rw [hsz]
    simp [hds]
   ·show (Go.Sort.putCells id 0 (Go.Sort.flatK impl_Term_75.enc 2 d) cur).size = cap * 2
    simpa [Go.Sort.putCells] using hc3
   ·show (Go.Sort.putCells id 0 (Go.Sort.flatK impl_Term_75.enc 2 d) cur).toList.take ((impl_Term_75.sorted l0).length * 2) = _
    rw [hsz]
    exact htake
   ·have := impl_Term_75.reps (sortWorldK impl_Term_75.enc 2 w g 0 m d os) w0.heap.size (fun k => ((P0_ k ∨ w.heap.size ≤ k) ∧ some k ≠ (Value.slice (some ⟨g,0,none⟩) l0.length cap).ownBlock)) (impl_Term_75.sorted l0)
    rw [hS,Array.toArray_toList] at this
    rw [hS]
    exact this
 ·rw [if_neg hlen] at h
  exact absurd h (by simp)
end Go.Proofs.Ytmomablfmhkppaa.PFnExactSubA
