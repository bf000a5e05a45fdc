-- The functions of a law as plain Lean functions, each with its contract: written by a program of this session.
import Derived.Test.YtmmdgciefehbcaaPFnExactStmtOkx0
import Derived.Test.YtmmdgciefehbcaaPFnExactStmtOkx6
import Derived.Test.YtmmdgciefehbcaaPFnExactStmtOkx7
namespace Go.Proofs.Ytmmdgciefehbcaa.PFnExactStmtOk
open Go.RowKit Go.Proofs.YtmmdgciefehbcaaW.PrintWords Go.Proofs.YtmmdgciefehbcaaW.PrintLast Go.Proofs.YtmmdgciefehbcaaW.PrintMore
attribute [local go_sem] max2_int min2_int max_two min_two max_three min_three max_four min_four   -- for this text's walks alone
set_option linter.unusedVariables false
set_option linter.unusedSimpArgs false

/-! ### impl_Exp_isZero: function 98 -/
def impl_Exp_isZero.f (a0_0 : Int) (a0_1 : Int) (a0_2 : ByteArray) (l0_3 : List (S29)) : Option (Bool) := if a0_0 = 0 then (if a0_1 = 0 then (if a0_2.toList = ([] : List UInt8) then (some ((l0_3.length : Int) == 0)) else (some false)) else (some false)) else (some false)
set_option maxHeartbeats 8000000 in
set_option maxRecDepth 100000 in
theorem impl_Exp_isZero.calls (a0_0 : Int) (a0_1 : Int) (a0_2 : ByteArray) (A0_3 : Option Addr) (c0_3 : Nat) (l0_3 : List (S29)) (r : Bool) (w : World) (hr0_3 : Kd.C k29 w A0_3 l0_3.length l0_3) (hc0_3 : l0_3.length ≤ c0_3) (h : impl_Exp_isZero.f a0_0 a0_1 a0_2 l0_3 = some r) :
  Calls Try.prog 98 #[.agg #[.int .i64 a0_0, .int .i64 a0_1, .string a0_2, .slice A0_3 l0_3.length c0_3]] w fun e w' => e = .returned (.bool r) ∧ Below w.heap.size w w' := by
 have hu29 := Try.underlying29
 have HR0_3 := mk0 hr0_3
 have HC0_3 := mk0 hc0_3
 clear hr0_3 hc0_3
 have HB := mk0 (Below.refl w.heap.size w)
 have H : (if a0_0 = 0 then (if a0_1 = 0 then (if a0_2.toList = ([] : List UInt8) then (some ((l0_3.length : Int) == 0)) else (some false)) else (some false)) else (some false)) = some r := h
 clear h
 by_cases c2 : a0_0 = 0
 ·rw [if_pos c2] at H
  have c2b0 : (a0_0 == 0) = true := beq_iff_eq.mpr c2
  have c2b1 : (a0_0 != 0) = false := bne_eq_false_iff_eq.mpr c2
  clear c2
  by_cases c3 : a0_1 = 0
  ·rw [if_pos c3] at H
   have c3b0 : (a0_1 == 0) = true := beq_iff_eq.mpr c3
   have c3b1 : (a0_1 != 0) = false := bne_eq_false_iff_eq.mpr c3
   clear c3
   by_cases c4 : a0_2.toList = ([] : List UInt8)
   ·rw [if_pos c4] at H
    have c4b0 : (a0_2.toList == ([] : List UInt8)) = true := beq_iff_eq.mpr c4
    have c4b1 : (a0_2.toList != ([] : List UInt8)) = false := bne_eq_false_iff_eq.mpr c4
    clear c4
    obtain rfl := Option.some.inj H
    go_enter Try.func98,Try.ntmps98
    go_wp2_with (first|((with_reducible refine gate_dst (N := 1) rfl ?_);(try (refine gate_guard (by rfl) ?_;dsimp only));refine box_event ?hg (N := 1) ?hd (cs := #[.int .i64 a0_0,.int .i64 a0_1,.string a0_2,.slice A0_3 l0_3.length c0_3]) (t := 29) ?hr ?_;(case hd => rfl);(case hg => rfl);(case hr => first|(go_simp;done)|(go_simp;rfl));intro gb267 hg w5 hbox hb;have q_ := qB (by repeat (first|(with_reducible first|exact HB.out|apply bA|apply bN|apply bD)|exact HB.out)) hb;have n0_ := mk0 (below_step q_ hb);have n1_ := mk0 (hbox);have n2_ := mk0 (below_size2 q_ hg);have n3_ := n2_;clear HB;have HB := n0_;have BK267 := n1_;have GW267 := n2_;have GE267 := n3_;clear q_ n0_ n1_ n2_ n3_;clear hb hbox hg;have z6 := bc4 BK267.out))
    go_ret
    exact ⟨by first|rfl|(simp [errW_none,errW_some] <;> rfl)|(simp [*,errW_none,errW_some] <;> rfl),by repeat (first|(with_reducible first|exact HB.out|apply bA|apply bN|apply bD|refine bS ?_ GE267.out)|exact HB.out)⟩
   ·rw [if_neg c4] at H
    have c4b0 : (a0_2.toList == ([] : List UInt8)) = false := beq_eq_false_iff_ne.mpr c4
    have c4b1 : (a0_2.toList != ([] : List UInt8)) = true := bne_iff_ne.mpr c4
    obtain rfl := Option.some.inj H
    go_enter Try.func98,Try.ntmps98
    go_wp2_with (first|((with_reducible refine gate_dst (N := 1) rfl ?_);(try (refine gate_guard (by rfl) ?_;dsimp only));refine box_event ?hg (N := 1) ?hd (cs := #[.int .i64 a0_0,.int .i64 a0_1,.string a0_2,.slice A0_3 l0_3.length c0_3]) (t := 29) ?hr ?_;(case hd => rfl);(case hg => rfl);(case hr => first|(go_simp;done)|(go_simp;rfl));intro gb267 hg w7 hbox hb;have q_ := qB (by repeat (first|(with_reducible first|exact HB.out|apply bA|apply bN|apply bD)|exact HB.out)) hb;have n0_ := mk0 (below_step q_ hb);have n1_ := mk0 (hbox);have n2_ := mk0 (below_size2 q_ hg);have n3_ := n2_;clear HB;have HB := n0_;have BK267 := n1_;have GW267 := n2_;have GE267 := n3_;clear q_ n0_ n1_ n2_ n3_;clear hb hbox hg;have z8 := bc4 BK267.out))
    go_ret
    exact ⟨by first|rfl|(simp [errW_none,errW_some] <;> rfl)|(simp [*,errW_none,errW_some] <;> rfl),by repeat (first|(with_reducible first|exact HB.out|apply bA|apply bN|apply bD|refine bS ?_ GE267.out)|exact HB.out)⟩
  ·rw [if_neg c3] at H
   have c3b0 : (a0_1 == 0) = false := beq_eq_false_iff_ne.mpr c3
   have c3b1 : (a0_1 != 0) = true := bne_iff_ne.mpr c3
   obtain rfl := Option.some.inj H
   go_enter Try.func98,Try.ntmps98
   go_wp2_with (first|((with_reducible refine gate_dst (N := 1) rfl ?_);(try (refine gate_guard (by rfl) ?_;dsimp only));refine box_event ?hg (N := 1) ?hd (cs := #[.int .i64 a0_0,.int .i64 a0_1,.string a0_2,.slice A0_3 l0_3.length c0_3]) (t := 29) ?hr ?_;(case hd => rfl);(case hg => rfl);(case hr => first|(go_simp;done)|(go_simp;rfl));intro gb267 hg w9 hbox hb;have q_ := qB (by repeat (first|(with_reducible first|exact HB.out|apply bA|apply bN|apply bD)|exact HB.out)) hb;have n0_ := mk0 (below_step q_ hb);have n1_ := mk0 (hbox);have n2_ := mk0 (below_size2 q_ hg);have n3_ := n2_;clear HB;have HB := n0_;have BK267 := n1_;have GW267 := n2_;have GE267 := n3_;clear q_ n0_ n1_ n2_ n3_;clear hb hbox hg;have z10 := bc4 BK267.out))
   go_ret
   exact ⟨by first|rfl|(simp [errW_none,errW_some] <;> rfl)|(simp [*,errW_none,errW_some] <;> rfl),by repeat (first|(with_reducible first|exact HB.out|apply bA|apply bN|apply bD|refine bS ?_ GE267.out)|exact HB.out)⟩
 ·rw [if_neg c2] at H
  have c2b0 : (a0_0 == 0) = false := beq_eq_false_iff_ne.mpr c2
  have c2b1 : (a0_0 != 0) = true := bne_iff_ne.mpr c2
  obtain rfl := Option.some.inj H
  go_enter Try.func98,Try.ntmps98
  go_wp2_with (first|((with_reducible refine gate_dst (N := 1) rfl ?_);(try (refine gate_guard (by rfl) ?_;dsimp only));refine box_event ?hg (N := 1) ?hd (cs := #[.int .i64 a0_0,.int .i64 a0_1,.string a0_2,.slice A0_3 l0_3.length c0_3]) (t := 29) ?hr ?_;(case hd => rfl);(case hg => rfl);(case hr => first|(go_simp;done)|(go_simp;rfl));intro gb267 hg w11 hbox hb;have q_ := qB (by repeat (first|(with_reducible first|exact HB.out|apply bA|apply bN|apply bD)|exact HB.out)) hb;have n0_ := mk0 (below_step q_ hb);have n1_ := mk0 (hbox);have n2_ := mk0 (below_size2 q_ hg);have n3_ := n2_;clear HB;have HB := n0_;have BK267 := n1_;have GW267 := n2_;have GE267 := n3_;clear q_ n0_ n1_ n2_ n3_;clear hb hbox hg;have z12 := bc4 BK267.out))
  go_ret
  exact ⟨by first|rfl|(simp [errW_none,errW_some] <;> rfl)|(simp [*,errW_none,errW_some] <;> rfl),by repeat (first|(with_reducible first|exact HB.out|apply bA|apply bN|apply bD|refine bS ?_ GE267.out)|exact HB.out)⟩

/-! ### impl_fieldOk: function 82 -/
def impl_fieldOk.f (k : Nat) (a0_0 : Int) (a0_1 : Int) (a0_2 : ByteArray) (l0_3 : List (S29)) (a1 : Bool) : Option (Bool) := if a1 = true then ((impl_ExpOk.f k a0_0 a0_1 a0_2 l0_3).bind fun t269 => (some t269)) else ((impl_Exp_isZero.f a0_0 a0_1 a0_2 l0_3).bind fun t270 => (some t270))
theorem impl_fieldOk.mono : ∀ a0 a1 a2 a3 a4 k, LeO (impl_fieldOk.f k a0 a1 a2 a3 a4) (impl_fieldOk.f (k + 1) a0 a1 a2 a3 a4) := by
 intro a0 a1 a2 a3 a4 k
 unfold impl_fieldOk.f
 repeat' first
   | (with_reducible exact impl_ExpOk.mono _ _ _ _ _)
   | (with_reducible exact LeO.refl _)
   | (with_reducible exact LeO.none _)
   | (with_reducible refine LeO.ite ?_ ?_)
   | (with_reducible refine LeO.bind ?_ (fun _ => ?_))
   | exact impl_ExpOk.mono _ _ _ _ _
   | exact LeO.none _
   | refine LeO.ite ?_ ?_
   | refine LeO.bind ?_ (fun _ => ?_)
set_option maxHeartbeats 8000000 in
set_option maxRecDepth 100000 in
theorem impl_fieldOk.calls (k : Nat) (a0_0 : Int) (a0_1 : Int) (a0_2 : ByteArray) (A0_3 : Option Addr) (c0_3 : Nat) (l0_3 : List (S29)) (a1 : Bool) (r : Bool) (w : World) (hr0_3 : Kd.C k29 w A0_3 l0_3.length l0_3) (hc0_3 : l0_3.length ≤ c0_3) (h : impl_fieldOk.f k a0_0 a0_1 a0_2 l0_3 a1 = some r) :
  Calls Try.prog 82 #[.agg #[.int .i64 a0_0, .int .i64 a0_1, .string a0_2, .slice A0_3 l0_3.length c0_3], .bool a1] w fun e w' => e = .returned (.bool r) ∧ Below w.heap.size w w' := by
 have hu29 := Try.underlying29
 have HR0_3 := mk0 hr0_3
 have HC0_3 := mk0 hc0_3
 clear hr0_3 hc0_3
 have HB := mk0 (Below.refl w.heap.size w)
 have H : (if a1 = true then ((impl_ExpOk.f k a0_0 a0_1 a0_2 l0_3).bind fun t269 => (some t269)) else ((impl_Exp_isZero.f a0_0 a0_1 a0_2 l0_3).bind fun t270 => (some t270))) = some r := h
 clear h
 by_cases c3 : a1 = true
 ·subst c3
  rw [if_pos rfl] at H
  obtain ⟨t269,A4,H⟩ := bindA H
  obtain rfl := Option.some.inj H
  go_enter Try.func82,Try.ntmps82
  go_wp2_with (first|((with_reducible refine gate_dst (N := 2) rfl ?_);refine box_event ?hg (N := 2) ?hd (cs := #[.int .i64 a0_0,.int .i64 a0_1,.string a0_2,.slice A0_3 l0_3.length c0_3]) (t := 29) ?hr ?_;(case hd => rfl);(case hg => rfl);(case hr => first|(go_simp;done)|(go_simp;rfl));intro gb268 hg w5 hbox hb;have q_ := qB (by repeat (first|(with_reducible first|exact HB.out|apply bA|apply bN|apply bD)|exact HB.out)) hb;have n0_ := mk0 (below_step q_ hb);have n1_ := mk0 (hbox);have n2_ := mk0 (below_size2 q_ hg);have n3_ := n2_;clear HB;have HB := n0_;have BK268 := n1_;have GW268 := n2_;have GE268 := n3_;clear q_ n0_ n1_ n2_ n3_;clear hb hbox hg;have z6 := bc4 BK268.out)|((with_reducible refine gate_callee (f := 21) rfl ?_);refine goesL_ (some 7) rfl rfl Try.func21 (by kernel_rfl) rfl #[.agg #[.int .i64 a0_0,.int .i64 a0_1,.string a0_2,.slice A0_3 l0_3.length c0_3]] rfl (by (try simp only [List.map_toArray,List.map_cons,List.map_nil]);first|done|rfl) ?_;(with_reducible refine (impl_ExpOk.calls k a0_0 a0_1 a0_2 _ _ l0_3 t269 _ ?side1 ?side2 A4.out).mono ?_);(case side1 => repeat (first|exact (Kd.C_below HR0_3.out HB.out)|(with_reducible refine cA ?_ _)|(with_reducible refine cN ?_ _)|(with_reducible refine cD ?_)));(case side2 => exact HC0_3.out);rintro e w7 ⟨rfl,hb⟩;refine ⟨_,rfl,?_⟩;have n0_ := mk0 (blk_below (by exact kX BK268.out) hb);have n1_ := mk0 (below_step (by repeat (first|(with_reducible first|exact HB.out|apply bA|apply bN|apply bD|refine bS ?_ GE268.out)|exact HB.out)) hb);clear BK268;clear HB;have BK268 := n0_;have HB := n1_;clear n0_ n1_;(try clear hb);(try clear hb2);(try clear hk);(try clear hi)))
  go_ret
  exact ⟨by first|rfl|(simp [errW_none,errW_some] <;> rfl)|(simp [*,errW_none,errW_some] <;> rfl),by repeat (first|(with_reducible first|exact HB.out|apply bA|apply bN|apply bD|refine bS ?_ GE268.out)|exact HB.out)⟩
 ·replace c3 := Bool.eq_false_iff.mpr c3
  subst c3
  rw [if_neg (show ¬ (false = true) by decide)] at H
  obtain ⟨t270,A8,H⟩ := bindA H
  obtain rfl := Option.some.inj H
  go_enter Try.func82,Try.ntmps82
  go_wp2_with (first|((with_reducible refine gate_dst (N := 2) rfl ?_);refine box_event ?hg (N := 2) ?hd (cs := #[.int .i64 a0_0,.int .i64 a0_1,.string a0_2,.slice A0_3 l0_3.length c0_3]) (t := 29) ?hr ?_;(case hd => rfl);(case hg => rfl);(case hr => first|(go_simp;done)|(go_simp;rfl));intro gb268 hg w9 hbox hb;have q_ := qB (by repeat (first|(with_reducible first|exact HB.out|apply bA|apply bN|apply bD)|exact HB.out)) hb;have n0_ := mk0 (below_step q_ hb);have n1_ := mk0 (hbox);have n2_ := mk0 (below_size2 q_ hg);have n3_ := n2_;clear HB;have HB := n0_;have BK268 := n1_;have GW268 := n2_;have GE268 := n3_;clear q_ n0_ n1_ n2_ n3_;clear hb hbox hg;have z10 := bc4 BK268.out)|((with_reducible refine gate_callee (f := 98) rfl ?_);refine goesL_ (some 9) rfl rfl Try.func98 (by kernel_rfl) rfl #[.agg #[.int .i64 a0_0,.int .i64 a0_1,.string a0_2,.slice A0_3 l0_3.length c0_3]] rfl (by (try simp only [List.map_toArray,List.map_cons,List.map_nil]);first|done|rfl) ?_;(with_reducible refine (impl_Exp_isZero.calls a0_0 a0_1 a0_2 _ _ l0_3 t270 _ ?side1 ?side2 A8.out).mono ?_);(case side1 => repeat (first|exact (Kd.C_below HR0_3.out HB.out)|(with_reducible refine cA ?_ _)|(with_reducible refine cN ?_ _)|(with_reducible refine cD ?_)));(case side2 => exact HC0_3.out);rintro e w11 ⟨rfl,hb⟩;refine ⟨_,rfl,?_⟩;have n0_ := mk0 (blk_below (by exact kX BK268.out) hb);have n1_ := mk0 (below_step (by repeat (first|(with_reducible first|exact HB.out|apply bA|apply bN|apply bD|refine bS ?_ GE268.out)|exact HB.out)) hb);clear BK268;clear HB;have BK268 := n0_;have HB := n1_;clear n0_ n1_;(try clear hb);(try clear hb2);(try clear hk);(try clear hi)))
  go_ret
  exact ⟨by first|rfl|(simp [errW_none,errW_some] <;> rfl)|(simp [*,errW_none,errW_some] <;> rfl),by repeat (first|(with_reducible first|exact HB.out|apply bA|apply bN|apply bD|refine bS ?_ GE268.out)|exact HB.out)⟩

/-! ### impl_Stmt_isRight: function 63 -/
mutual
def impl_Stmt_isRight.j0 : Nat → Int → Bool → Bool → Bool → Int → ByteArray → Int → Int → ByteArray → List (S29) → Int → Int → ByteArray → List (S29) → Int → Int → ByteArray → List (S29) → Int → Int → ByteArray → List (S29) → List (S50) → Option (Bool)
 |0,_,_,_,_,_,_,_,_,_,_,_,_,_,_,_,_,_,_,_,_,_,_,_ => none
 |k + 1,x1,x7,x8,x48,x272000,x272001,x272002,x272003,x272004,x272005,x272006,x272007,x272008,x272009,x272010,x272011,x272012,x272013,x272014,x272015,x272016,x272017,x272018 => if x48 = true then (some false) else (if x8 = true then ((impl_NameOk.f k x272001).bind fun t281 => (if t281 = true then (impl_Stmt_isRight.j1 k x1 x7 false x272000 x272001 x272002 x272003 x272004 x272005 x272006 x272007 x272008 x272009 x272010 x272011 x272012 x272013 x272014 x272015 x272016 x272017 x272018) else (impl_Stmt_isRight.j1 k x1 x7 true x272000 x272001 x272002 x272003 x272004 x272005 x272006 x272007 x272008 x272009 x272010 x272011 x272012 x272013 x272014 x272015 x272016 x272017 x272018))) else (impl_Stmt_isRight.j1 k x1 x7 (x272001.toList != ([] : List UInt8)) x272000 x272001 x272002 x272003 x272004 x272005 x272006 x272007 x272008 x272009 x272010 x272011 x272012 x272013 x272014 x272015 x272016 x272017 x272018))
def impl_Stmt_isRight.j1 : Nat → Int → Bool → Bool → Int → ByteArray → Int → Int → ByteArray → List (S29) → Int → Int → ByteArray → List (S29) → Int → Int → ByteArray → List (S29) → Int → Int → ByteArray → List (S29) → List (S50) → Option (Bool)
 |0,_,_,_,_,_,_,_,_,_,_,_,_,_,_,_,_,_,_,_,_,_,_ => none
 |k + 1,x1,x7,x64,x272000,x272001,x272002,x272003,x272004,x272005,x272006,x272007,x272008,x272009,x272010,x272011,x272012,x272013,x272014,x272015,x272016,x272017,x272018 => if x64 = true then (some false) else (if x7 = true then (if x1 = 3 then (impl_Stmt_isRight.j2 k x1 true x272000 x272001 x272002 x272003 x272004 x272005 x272006 x272007 x272008 x272009 x272010 x272011 x272012 x272013 x272014 x272015 x272016 x272017 x272018) else ((impl_inRange.f (x272018.length : Int) 1 6).bind fun t282 => (impl_Stmt_isRight.j2 k x1 (!t282) x272000 x272001 x272002 x272003 x272004 x272005 x272006 x272007 x272008 x272009 x272010 x272011 x272012 x272013 x272014 x272015 x272016 x272017 x272018))) else (some ((x272018.length : Int) == 0)))
def impl_Stmt_isRight.j2 : Nat → Int → Bool → Int → ByteArray → Int → Int → ByteArray → List (S29) → Int → Int → ByteArray → List (S29) → Int → Int → ByteArray → List (S29) → Int → Int → ByteArray → List (S29) → List (S50) → Option (Bool)
 |0,_,_,_,_,_,_,_,_,_,_,_,_,_,_,_,_,_,_,_,_,_ => none
 |k + 1,x1,x79,x272000,x272001,x272002,x272003,x272004,x272005,x272006,x272007,x272008,x272009,x272010,x272011,x272012,x272013,x272014,x272015,x272016,x272017,x272018 => if x79 = true then (some false) else (impl_Stmt_isRight.l0 k x1 x272018 (x272018.length : Int) 0)
def impl_Stmt_isRight.l0 : Nat → Int → List (S50) → Int → Int → Option (Bool)
 |0,_,_,_,_ => none
 |k + 1,x1,x81,x82,x83 => if x83 < x82 then (if 0 ≤ x83 then (if x83 < (x81.length : Int) then ((impl_Stmt_isRight.f k ((rd_T50 x81 x83).f0) ((rd_T50 x81 x83).f1) ((rd_T50 x81 x83).f2.f0) ((rd_T50 x81 x83).f2.f1) ((rd_T50 x81 x83).f2.f2) ((rd_T50 x81 x83).f2.f3) ((rd_T50 x81 x83).f3.f0) ((rd_T50 x81 x83).f3.f1) ((rd_T50 x81 x83).f3.f2) ((rd_T50 x81 x83).f3.f3) ((rd_T50 x81 x83).f4.f0) ((rd_T50 x81 x83).f4.f1) ((rd_T50 x81 x83).f4.f2) ((rd_T50 x81 x83).f4.f3) ((rd_T50 x81 x83).f5.f0) ((rd_T50 x81 x83).f5.f1) ((rd_T50 x81 x83).f5.f2) ((rd_T50 x81 x83).f5.f3) ((rd_T50 x81 x83).f6) (wrap64 (x1 + 1))).bind fun t285 => (if t285 = true then (impl_Stmt_isRight.l0 k x1 x81 x82 (wrap64 (x83 + 1))) else (some false))) else (none)) else (none)) else (some true)
def impl_Stmt_isRight.f : Nat → Int → ByteArray → Int → Int → ByteArray → List (S29) → Int → Int → ByteArray → List (S29) → Int → Int → ByteArray → List (S29) → Int → Int → ByteArray → List (S29) → List (S50) → Int → Option (Bool)
 |0,_,_,_,_,_,_,_,_,_,_,_,_,_,_,_,_,_,_,_,_ => none
 |k + 1,a0_0,a0_1,a0_2,a0_3,a0_4,l0_5,a0_6,a0_7,a0_8,l0_9,a0_10,a0_11,a0_12,l0_13,a0_14,a0_15,a0_16,l0_17,l0_18,a1 => (impl_inRange.f a0_0 1 4).bind fun t272 => (if t272 = true then ((impl_fields.f a0_0).bind fun bt273 => ((impl_fieldOk.f k a0_2 a0_3 a0_4 l0_5 bt273.1).bind fun t277 => (if t277 = true then ((impl_fieldOk.f k a0_6 a0_7 a0_8 l0_9 bt273.2.1).bind fun t278 => (if t278 = true then ((impl_fieldOk.f k a0_10 a0_11 a0_12 l0_13 bt273.2.2.1).bind fun t279 => (if t279 = true then ((impl_fieldOk.f k a0_14 a0_15 a0_16 l0_17 bt273.2.2.1).bind fun t280 => (impl_Stmt_isRight.j0 k a1 bt273.2.2.1 bt273.2.2.2 (!t280) a0_0 a0_1 a0_2 a0_3 a0_4 l0_5 a0_6 a0_7 a0_8 l0_9 a0_10 a0_11 a0_12 l0_13 a0_14 a0_15 a0_16 l0_17 l0_18)) else (impl_Stmt_isRight.j0 k a1 bt273.2.2.1 bt273.2.2.2 true a0_0 a0_1 a0_2 a0_3 a0_4 l0_5 a0_6 a0_7 a0_8 l0_9 a0_10 a0_11 a0_12 l0_13 a0_14 a0_15 a0_16 l0_17 l0_18))) else (impl_Stmt_isRight.j0 k a1 bt273.2.2.1 bt273.2.2.2 true a0_0 a0_1 a0_2 a0_3 a0_4 l0_5 a0_6 a0_7 a0_8 l0_9 a0_10 a0_11 a0_12 l0_13 a0_14 a0_15 a0_16 l0_17 l0_18))) else (impl_Stmt_isRight.j0 k a1 bt273.2.2.1 bt273.2.2.2 true a0_0 a0_1 a0_2 a0_3 a0_4 l0_5 a0_6 a0_7 a0_8 l0_9 a0_10 a0_11 a0_12 l0_13 a0_14 a0_15 a0_16 l0_17 l0_18)))) else (some false))
end
theorem impl_Stmt_isRight.mono_l : ∀ k, (∀ y0 y1 y2 y3 y4 y5 y6 y7 y8 y9 y10 y11 y12 y13 y14 y15 y16 y17 y18 y19, LeO (impl_Stmt_isRight.f k y0 y1 y2 y3 y4 y5 y6 y7 y8 y9 y10 y11 y12 y13 y14 y15 y16 y17 y18 y19) (impl_Stmt_isRight.f (k + 1) y0 y1 y2 y3 y4 y5 y6 y7 y8 y9 y10 y11 y12 y13 y14 y15 y16 y17 y18 y19)) ∧ (∀ y0 y1 y2 y3 y4 y5 y6 y7 y8 y9 y10 y11 y12 y13 y14 y15 y16 y17 y18 y19 y20 y21 y22, LeO (impl_Stmt_isRight.j0 k y0 y1 y2 y3 y4 y5 y6 y7 y8 y9 y10 y11 y12 y13 y14 y15 y16 y17 y18 y19 y20 y21 y22) (impl_Stmt_isRight.j0 (k + 1) y0 y1 y2 y3 y4 y5 y6 y7 y8 y9 y10 y11 y12 y13 y14 y15 y16 y17 y18 y19 y20 y21 y22)) ∧ (∀ y0 y1 y2 y3 y4 y5 y6 y7 y8 y9 y10 y11 y12 y13 y14 y15 y16 y17 y18 y19 y20 y21, LeO (impl_Stmt_isRight.j1 k y0 y1 y2 y3 y4 y5 y6 y7 y8 y9 y10 y11 y12 y13 y14 y15 y16 y17 y18 y19 y20 y21) (impl_Stmt_isRight.j1 (k + 1) y0 y1 y2 y3 y4 y5 y6 y7 y8 y9 y10 y11 y12 y13 y14 y15 y16 y17 y18 y19 y20 y21)) ∧ (∀ y0 y1 y2 y3 y4 y5 y6 y7 y8 y9 y10 y11 y12 y13 y14 y15 y16 y17 y18 y19 y20, LeO (impl_Stmt_isRight.j2 k y0 y1 y2 y3 y4 y5 y6 y7 y8 y9 y10 y11 y12 y13 y14 y15 y16 y17 y18 y19 y20) (impl_Stmt_isRight.j2 (k + 1) y0 y1 y2 y3 y4 y5 y6 y7 y8 y9 y10 y11 y12 y13 y14 y15 y16 y17 y18 y19 y20)) ∧ (∀ y0 y1 y2 y3, LeO (impl_Stmt_isRight.l0 k y0 y1 y2 y3) (impl_Stmt_isRight.l0 (k + 1) y0 y1 y2 y3))
 | 0 => ⟨fun _ _ _ _ _ _ _ _ _ _ _ _ _ _ _ _ _ _ _ _ r h => by simp [impl_Stmt_isRight.f] at h, fun _ _ _ _ _ _ _ _ _ _ _ _ _ _ _ _ _ _ _ _ _ _ _ r h => by simp [impl_Stmt_isRight.j0] at h, fun _ _ _ _ _ _ _ _ _ _ _ _ _ _ _ _ _ _ _ _ _ _ r h => by simp [impl_Stmt_isRight.j1] at h, fun _ _ _ _ _ _ _ _ _ _ _ _ _ _ _ _ _ _ _ _ _ r h => by simp [impl_Stmt_isRight.j2] at h, fun _ _ _ _ r h => by simp [impl_Stmt_isRight.l0] at h⟩
 | k + 1 => by
  obtain ⟨ih0, ih1, ih2, ih3, ih4⟩ := impl_Stmt_isRight.mono_l k
  refine ⟨?_, ?_, ?_, ?_, ?_⟩
  ·intro y0 y1 y2 y3 y4 y5 y6 y7 y8 y9 y10 y11 y12 y13 y14 y15 y16 y17 y18 y19
   unfold impl_Stmt_isRight.f
   repeat' first
   | (with_reducible exact ih0 _ _ _ _ _ _ _ _ _ _ _ _ _ _ _ _ _ _ _ _)
   | (with_reducible exact ih1 _ _ _ _ _ _ _ _ _ _ _ _ _ _ _ _ _ _ _ _ _ _ _)
   | (with_reducible exact ih2 _ _ _ _ _ _ _ _ _ _ _ _ _ _ _ _ _ _ _ _ _ _)
   | (with_reducible exact ih3 _ _ _ _ _ _ _ _ _ _ _ _ _ _ _ _ _ _ _ _ _)
   | (with_reducible exact ih4 _ _ _ _)
   | (with_reducible exact impl_NameOk.mono _ _)
   | (with_reducible exact impl_fieldOk.mono _ _ _ _ _ _)
   | (with_reducible exact LeO.refl _)
   | (with_reducible exact LeO.none _)
   | (with_reducible refine LeO.ite ?_ ?_)
   | (with_reducible refine LeO.bind ?_ (fun _ => ?_))
   | exact ih0 _ _ _ _ _ _ _ _ _ _ _ _ _ _ _ _ _ _ _ _
   | exact ih1 _ _ _ _ _ _ _ _ _ _ _ _ _ _ _ _ _ _ _ _ _ _ _
   | exact ih2 _ _ _ _ _ _ _ _ _ _ _ _ _ _ _ _ _ _ _ _ _ _
   | exact ih3 _ _ _ _ _ _ _ _ _ _ _ _ _ _ _ _ _ _ _ _ _
   | exact ih4 _ _ _ _
   | exact impl_NameOk.mono _ _
   | exact impl_fieldOk.mono _ _ _ _ _ _
   | exact LeO.none _
   | refine LeO.ite ?_ ?_
   | refine LeO.bind ?_ (fun _ => ?_)
  ·intro y0 y1 y2 y3 y4 y5 y6 y7 y8 y9 y10 y11 y12 y13 y14 y15 y16 y17 y18 y19 y20 y21 y22
   unfold impl_Stmt_isRight.j0
   repeat' first
   | (with_reducible exact ih0 _ _ _ _ _ _ _ _ _ _ _ _ _ _ _ _ _ _ _ _)
   | (with_reducible exact ih1 _ _ _ _ _ _ _ _ _ _ _ _ _ _ _ _ _ _ _ _ _ _ _)
   | (with_reducible exact ih2 _ _ _ _ _ _ _ _ _ _ _ _ _ _ _ _ _ _ _ _ _ _)
   | (with_reducible exact ih3 _ _ _ _ _ _ _ _ _ _ _ _ _ _ _ _ _ _ _ _ _)
   | (with_reducible exact ih4 _ _ _ _)
   | (with_reducible exact impl_NameOk.mono _ _)
   | (with_reducible exact impl_fieldOk.mono _ _ _ _ _ _)
   | (with_reducible exact LeO.refl _)
   | (with_reducible exact LeO.none _)
   | (with_reducible refine LeO.ite ?_ ?_)
   | (with_reducible refine LeO.bind ?_ (fun _ => ?_))
   | exact ih0 _ _ _ _ _ _ _ _ _ _ _ _ _ _ _ _ _ _ _ _
   | exact ih1 _ _ _ _ _ _ _ _ _ _ _ _ _ _ _ _ _ _ _ _ _ _ _
   | exact ih2 _ _ _ _ _ _ _ _ _ _ _ _ _ _ _ _ _ _ _ _ _ _
   | exact ih3 _ _ _ _ _ _ _ _ _ _ _ _ _ _ _ _ _ _ _ _ _
   | exact ih4 _ _ _ _
   | exact impl_NameOk.mono _ _
   | exact impl_fieldOk.mono _ _ _ _ _ _
   | exact LeO.none _
   | refine LeO.ite ?_ ?_
   | refine LeO.bind ?_ (fun _ => ?_)
  ·intro y0 y1 y2 y3 y4 y5 y6 y7 y8 y9 y10 y11 y12 y13 y14 y15 y16 y17 y18 y19 y20 y21
   unfold impl_Stmt_isRight.j1
   repeat' first
   | (with_reducible exact ih0 _ _ _ _ _ _ _ _ _ _ _ _ _ _ _ _ _ _ _ _)
   | (with_reducible exact ih1 _ _ _ _ _ _ _ _ _ _ _ _ _ _ _ _ _ _ _ _ _ _ _)
   | (with_reducible exact ih2 _ _ _ _ _ _ _ _ _ _ _ _ _ _ _ _ _ _ _ _ _ _)
   | (with_reducible exact ih3 _ _ _ _ _ _ _ _ _ _ _ _ _ _ _ _ _ _ _ _ _)
   | (with_reducible exact ih4 _ _ _ _)
   | (with_reducible exact impl_NameOk.mono _ _)
   | (with_reducible exact impl_fieldOk.mono _ _ _ _ _ _)
   | (with_reducible exact LeO.refl _)
   | (with_reducible exact LeO.none _)
   | (with_reducible refine LeO.ite ?_ ?_)
   | (with_reducible refine LeO.bind ?_ (fun _ => ?_))
   | exact ih0 _ _ _ _ _ _ _ _ _ _ _ _ _ _ _ _ _ _ _ _
   | exact ih1 _ _ _ _ _ _ _ _ _ _ _ _ _ _ _ _ _ _ _ _ _ _ _
   | exact ih2 _ _ _ _ _ _ _ _ _ _ _ _ _ _ _ _ _ _ _ _ _ _
   | exact ih3 _ _ _ _ _ _ _ _ _ _ _ _ _ _ _ _ _ _ _ _ _
   | exact ih4 _ _ _ _
   | exact impl_NameOk.mono _ _
   | exact impl_fieldOk.mono _ _ _ _ _ _
   | exact LeO.none _
   | refine LeO.ite ?_ ?_
   | refine LeO.bind ?_ (fun _ => ?_)
  ·intro y0 y1 y2 y3 y4 y5 y6 y7 y8 y9 y10 y11 y12 y13 y14 y15 y16 y17 y18 y19 y20
   unfold impl_Stmt_isRight.j2
   repeat' first
   | (with_reducible exact ih0 _ _ _ _ _ _ _ _ _ _ _ _ _ _ _ _ _ _ _ _)
   | (with_reducible exact ih1 _ _ _ _ _ _ _ _ _ _ _ _ _ _ _ _ _ _ _ _ _ _ _)
   | (with_reducible exact ih2 _ _ _ _ _ _ _ _ _ _ _ _ _ _ _ _ _ _ _ _ _ _)
   | (with_reducible exact ih3 _ _ _ _ _ _ _ _ _ _ _ _ _ _ _ _ _ _ _ _ _)
   | (with_reducible exact ih4 _ _ _ _)
   | (with_reducible exact impl_NameOk.mono _ _)
   | (with_reducible exact impl_fieldOk.mono _ _ _ _ _ _)
   | (with_reducible exact LeO.refl _)
   | (with_reducible exact LeO.none _)
   | (with_reducible refine LeO.ite ?_ ?_)
   | (with_reducible refine LeO.bind ?_ (fun _ => ?_))
   | exact ih0 _ _ _ _ _ _ _ _ _ _ _ _ _ _ _ _ _ _ _ _
   | exact ih1 _ _ _ _ _ _ _ _ _ _ _ _ _ _ _ _ _ _ _ _ _ _ _
   | exact ih2 _ _ _ _ _ _ _ _ _ _ _ _ _ _ _ _ _ _ _ _ _ _
   | exact ih3 _ _ _ _ _ _ _ _ _ _ _ _ _ _ _ _ _ _ _ _ _
   | exact ih4 _ _ _ _
   | exact impl_NameOk.mono _ _
   | exact impl_fieldOk.mono _ _ _ _ _ _
   | exact LeO.none _
   | refine LeO.ite ?_ ?_
   | refine LeO.bind ?_ (fun _ => ?_)
  ·intro y0 y1 y2 y3
   unfold impl_Stmt_isRight.l0
   repeat' first
   | (with_reducible exact ih0 _ _ _ _ _ _ _ _ _ _ _ _ _ _ _ _ _ _ _ _)
   | (with_reducible exact ih1 _ _ _ _ _ _ _ _ _ _ _ _ _ _ _ _ _ _ _ _ _ _ _)
   | (with_reducible exact ih2 _ _ _ _ _ _ _ _ _ _ _ _ _ _ _ _ _ _ _ _ _ _)
   | (with_reducible exact ih3 _ _ _ _ _ _ _ _ _ _ _ _ _ _ _ _ _ _ _ _ _)
   | (with_reducible exact ih4 _ _ _ _)
   | (with_reducible exact impl_NameOk.mono _ _)
   | (with_reducible exact impl_fieldOk.mono _ _ _ _ _ _)
   | (with_reducible exact LeO.refl _)
   | (with_reducible exact LeO.none _)
   | (with_reducible refine LeO.ite ?_ ?_)
   | (with_reducible refine LeO.bind ?_ (fun _ => ?_))
   | exact ih0 _ _ _ _ _ _ _ _ _ _ _ _ _ _ _ _ _ _ _ _
   | exact ih1 _ _ _ _ _ _ _ _ _ _ _ _ _ _ _ _ _ _ _ _ _ _ _
   | exact ih2 _ _ _ _ _ _ _ _ _ _ _ _ _ _ _ _ _ _ _ _ _ _
   | exact ih3 _ _ _ _ _ _ _ _ _ _ _ _ _ _ _ _ _ _ _ _ _
   | exact ih4 _ _ _ _
   | exact impl_NameOk.mono _ _
   | exact impl_fieldOk.mono _ _ _ _ _ _
   | exact LeO.none _
   | refine LeO.ite ?_ ?_
   | refine LeO.bind ?_ (fun _ => ?_)
theorem impl_Stmt_isRight.mono : ∀ a0 a1 a2 a3 a4 a5 a6 a7 a8 a9 a10 a11 a12 a13 a14 a15 a16 a17 a18 a19 k, LeO (impl_Stmt_isRight.f k a0 a1 a2 a3 a4 a5 a6 a7 a8 a9 a10 a11 a12 a13 a14 a15 a16 a17 a18 a19) (impl_Stmt_isRight.f (k + 1) a0 a1 a2 a3 a4 a5 a6 a7 a8 a9 a10 a11 a12 a13 a14 a15 a16 a17 a18 a19) := by
 intro a0 a1 a2 a3 a4 a5 a6 a7 a8 a9 a10 a11 a12 a13 a14 a15 a16 a17 a18 a19 k
 obtain ⟨ih0, ih1, ih2, ih3, ih4⟩ := impl_Stmt_isRight.mono_l k
 exact ih0 a0 a1 a2 a3 a4 a5 a6 a7 a8 a9 a10 a11 a12 a13 a14 a15 a16 a17 a18 a19
set_option maxHeartbeats 8000000 in
set_option maxRecDepth 100000 in
theorem impl_Stmt_isRight.calls (k : Nat) : ∀ (a0_0 : Int) (a0_1 : ByteArray) (a0_2 : Int) (a0_3 : Int) (a0_4 : ByteArray) (A0_5 : Option Addr) (c0_5 : Nat) (l0_5 : List (S29)) (a0_6 : Int) (a0_7 : Int) (a0_8 : ByteArray) (A0_9 : Option Addr) (c0_9 : Nat) (l0_9 : List (S29)) (a0_10 : Int) (a0_11 : Int) (a0_12 : ByteArray) (A0_13 : Option Addr) (c0_13 : Nat) (l0_13 : List (S29)) (a0_14 : Int) (a0_15 : Int) (a0_16 : ByteArray) (A0_17 : Option Addr) (c0_17 : Nat) (l0_17 : List (S29)) (A0_18 : Option Addr) (c0_18 : Nat) (l0_18 : List (S50)) (a1 : Int) (r : Bool) (w : World) (hr0_5 : Kd.C k29 w A0_5 l0_5.length l0_5) (hc0_5 : l0_5.length ≤ c0_5) (hr0_9 : Kd.C k29 w A0_9 l0_9.length l0_9) (hc0_9 : l0_9.length ≤ c0_9) (hr0_13 : Kd.C k29 w A0_13 l0_13.length l0_13) (hc0_13 : l0_13.length ≤ c0_13) (hr0_17 : Kd.C k29 w A0_17 l0_17.length l0_17) (hc0_17 : l0_17.length ≤ c0_17) (hr0_18 : Kd.C k50 w A0_18 l0_18.length l0_18) (hc0_18 : l0_18.length ≤ c0_18) (h : impl_Stmt_isRight.f k a0_0 a0_1 a0_2 a0_3 a0_4 l0_5 a0_6 a0_7 a0_8 l0_9 a0_10 a0_11 a0_12 l0_13 a0_14 a0_15 a0_16 l0_17 l0_18 a1 = some r),
  Calls Try.prog 63 #[.agg #[.int .i64 a0_0, .string a0_1, .int .i64 a0_2, .int .i64 a0_3, .string a0_4, .slice A0_5 l0_5.length c0_5, .int .i64 a0_6, .int .i64 a0_7, .string a0_8, .slice A0_9 l0_9.length c0_9, .int .i64 a0_10, .int .i64 a0_11, .string a0_12, .slice A0_13 l0_13.length c0_13, .int .i64 a0_14, .int .i64 a0_15, .string a0_16, .slice A0_17 l0_17.length c0_17, .slice A0_18 l0_18.length c0_18], .int .i64 a1] w fun e w' => e = .returned (.bool r) ∧ Below w.heap.size w w' := by
 induction k using Nat.strongRecOn with
 |_ k ih =>
 intro a0_0 a0_1 a0_2 a0_3 a0_4 A0_5 c0_5 l0_5 a0_6 a0_7 a0_8 A0_9 c0_9 l0_9 a0_10 a0_11 a0_12 A0_13 c0_13 l0_13 a0_14 a0_15 a0_16 A0_17 c0_17 l0_17 A0_18 c0_18 l0_18 a1 r w hr0_5 hc0_5 hr0_9 hc0_9 hr0_13 hc0_13 hr0_17 hc0_17 hr0_18 hc0_18 h
 cases k with
 |zero => exact absurd h (by simp [impl_Stmt_isRight.f])
 |succ k =>
 simp only [impl_Stmt_isRight.f] at h
 have hu50 := Try.underlying50
 have hu29 := Try.underlying29
 have HR0_5 := mk0 hr0_5
 have HC0_5 := mk0 hc0_5
 clear hr0_5 hc0_5
 have HR0_9 := mk0 hr0_9
 have HC0_9 := mk0 hc0_9
 clear hr0_9 hc0_9
 have HR0_13 := mk0 hr0_13
 have HC0_13 := mk0 hc0_13
 clear hr0_13 hc0_13
 have HR0_17 := mk0 hr0_17
 have HC0_17 := mk0 hc0_17
 clear hr0_17 hc0_17
 have HR0_18 := mk0 hr0_18
 have HC0_18 := mk0 hc0_18
 clear hr0_18 hc0_18
 have HB := mk0 (Below.refl w.heap.size w)
 have H : ((impl_inRange.f a0_0 1 4).bind fun t272 => (if t272 = true then ((impl_fields.f a0_0).bind fun bt273 => ((impl_fieldOk.f k a0_2 a0_3 a0_4 l0_5 bt273.1).bind fun t277 => (if t277 = true then ((impl_fieldOk.f k a0_6 a0_7 a0_8 l0_9 bt273.2.1).bind fun t278 => (if t278 = true then ((impl_fieldOk.f k a0_10 a0_11 a0_12 l0_13 bt273.2.2.1).bind fun t279 => (if t279 = true then ((impl_fieldOk.f k a0_14 a0_15 a0_16 l0_17 bt273.2.2.1).bind fun t280 => (impl_Stmt_isRight.j0 k a1 bt273.2.2.1 bt273.2.2.2 (!t280) a0_0 a0_1 a0_2 a0_3 a0_4 l0_5 a0_6 a0_7 a0_8 l0_9 a0_10 a0_11 a0_12 l0_13 a0_14 a0_15 a0_16 l0_17 l0_18)) else (impl_Stmt_isRight.j0 k a1 bt273.2.2.1 bt273.2.2.2 true a0_0 a0_1 a0_2 a0_3 a0_4 l0_5 a0_6 a0_7 a0_8 l0_9 a0_10 a0_11 a0_12 l0_13 a0_14 a0_15 a0_16 l0_17 l0_18))) else (impl_Stmt_isRight.j0 k a1 bt273.2.2.1 bt273.2.2.2 true a0_0 a0_1 a0_2 a0_3 a0_4 l0_5 a0_6 a0_7 a0_8 l0_9 a0_10 a0_11 a0_12 l0_13 a0_14 a0_15 a0_16 l0_17 l0_18))) else (impl_Stmt_isRight.j0 k a1 bt273.2.2.1 bt273.2.2.2 true a0_0 a0_1 a0_2 a0_3 a0_4 l0_5 a0_6 a0_7 a0_8 l0_9 a0_10 a0_11 a0_12 l0_13 a0_14 a0_15 a0_16 l0_17 l0_18)))) else (some false))) = some r := h
 clear h
 obtain ⟨t272,A3,H⟩ := bindA H
 by_cases c4 : t272 = true
 ·subst c4
  rw [if_pos rfl] at H
  replace H := Option.bind_eq_some_iff.mp H
  obtain ⟨⟨t273,t274,t275,t276⟩,A50,H⟩ := H
  replace H : ((impl_fieldOk.f k a0_2 a0_3 a0_4 l0_5 t273).bind fun t277 => (if t277 = true then ((impl_fieldOk.f k a0_6 a0_7 a0_8 l0_9 t274).bind fun t278 => (if t278 = true then ((impl_fieldOk.f k a0_10 a0_11 a0_12 l0_13 t275).bind fun t279 => (if t279 = true then ((impl_fieldOk.f k a0_14 a0_15 a0_16 l0_17 t275).bind fun t280 => (impl_Stmt_isRight.j0 k a1 t275 t276 (!t280) a0_0 a0_1 a0_2 a0_3 a0_4 l0_5 a0_6 a0_7 a0_8 l0_9 a0_10 a0_11 a0_12 l0_13 a0_14 a0_15 a0_16 l0_17 l0_18)) else (impl_Stmt_isRight.j0 k a1 t275 t276 true a0_0 a0_1 a0_2 a0_3 a0_4 l0_5 a0_6 a0_7 a0_8 l0_9 a0_10 a0_11 a0_12 l0_13 a0_14 a0_15 a0_16 l0_17 l0_18))) else (impl_Stmt_isRight.j0 k a1 t275 t276 true a0_0 a0_1 a0_2 a0_3 a0_4 l0_5 a0_6 a0_7 a0_8 l0_9 a0_10 a0_11 a0_12 l0_13 a0_14 a0_15 a0_16 l0_17 l0_18))) else (impl_Stmt_isRight.j0 k a1 t275 t276 true a0_0 a0_1 a0_2 a0_3 a0_4 l0_5 a0_6 a0_7 a0_8 l0_9 a0_10 a0_11 a0_12 l0_13 a0_14 a0_15 a0_16 l0_17 l0_18))) = some r := H
  have A5 := mk0 A50
  clear A50
  have HC6 := mk0 H
  clear H
  go_enter Try.func63,Try.ntmps63
  go_upto_region 4 with (first|((with_reducible refine gate_dst (N := 2) rfl ?_);(try (refine gate_guard (by rfl) ?_;dsimp only));refine box_event ?hg (N := 2) ?hd (cs := #[.int .i64 a0_0,.string a0_1,.int .i64 a0_2,.int .i64 a0_3,.string a0_4,.slice A0_5 l0_5.length c0_5,.int .i64 a0_6,.int .i64 a0_7,.string a0_8,.slice A0_9 l0_9.length c0_9,.int .i64 a0_10,.int .i64 a0_11,.string a0_12,.slice A0_13 l0_13.length c0_13,.int .i64 a0_14,.int .i64 a0_15,.string a0_16,.slice A0_17 l0_17.length c0_17,.slice A0_18 l0_18.length c0_18]) (t := 50) ?hr ?_;(case hd => rfl);(case hg => rfl);(case hr => first|(go_simp;done)|(go_simp;rfl));intro gb271 hg w7 hbox hb;have q_ := qB (by repeat (first|(with_reducible first|exact HB.out|apply bA|apply bN|apply bD)|exact HB.out)) hb;have n0_ := mk0 (below_step q_ hb);have n1_ := mk0 (hbox);have n2_ := mk0 (below_size2 q_ hg);have n3_ := n2_;clear HB;have HB := n0_;have BK271 := n1_;have GW271 := n2_;have GE271 := n3_;clear q_ n0_ n1_ n2_ n3_;clear hb hbox hg)|((with_reducible refine gate_dst (N := 12) rfl ?_);(try (refine gate_guard (by rfl) ?_;dsimp only));refine ldOne rfl 3 _ rfl gb271 0 rfl (l := [.int .i64 a0_0,.string a0_1,.int .i64 a0_2,.int .i64 a0_3,.string a0_4,.slice A0_5 l0_5.length c0_5,.int .i64 a0_6,.int .i64 a0_7,.string a0_8,.slice A0_9 l0_9.length c0_9,.int .i64 a0_10,.int .i64 a0_11,.string a0_12,.slice A0_13 l0_13.length c0_13,.int .i64 a0_14,.int .i64 a0_15,.string a0_16,.slice A0_17 l0_17.length c0_17,.slice A0_18 l0_18.length c0_18]) (tb := 50) (by exact kX BK271.out) (.int .i64 a0_0) rfl (fun _ => by kernel_rfl) ?_)|((with_reducible refine gate_callee (f := 56) rfl ?_);refine goesL_ (some 13) rfl rfl Try.func56 (by kernel_rfl) rfl #[.int .i64 a0_0,.int .i64 1,.int .i64 4] rfl (by (try simp only [List.map_toArray,List.map_cons,List.map_nil]);first|done|rfl) ?_;(with_reducible refine (impl_inRange.calls a0_0 1 4 true _ A3.out).mono ?_);rintro e w' ⟨rfl,⟨nd,rfl⟩⟩;refine ⟨_,rfl,?_⟩;(try (rw [drewN_self w7];generalize hq_ : World.drewN w7 _ = w7;have n0_ : Aside0 (w7.heap[gb271]? = some (.cells #[.int .i64 a0_0,.string a0_1,.int .i64 a0_2,.int .i64 a0_3,.string a0_4,.slice A0_5 l0_5.length c0_5,.int .i64 a0_6,.int .i64 a0_7,.string a0_8,.slice A0_9 l0_9.length c0_9,.int .i64 a0_10,.int .i64 a0_11,.string a0_12,.slice A0_13 l0_13.length c0_13,.int .i64 a0_14,.int .i64 a0_15,.string a0_16,.slice A0_17 l0_17.length c0_17,.slice A0_18 l0_18.length c0_18] 50 (0,0))) := ⟨by rw [← hq_];exact (by exact kX BK271.out)⟩;have n1_ : Aside0 (Below w.heap.size w w7) := ⟨by rw [← hq_];exact (by repeat (first|(with_reducible first|exact HB.out|apply bA|apply bN|apply bD|refine bS ?_ GE271.out)|exact HB.out))⟩;clear BK271 HB hq_;have BK271 := n0_;have HB := n1_;clear n0_ n1_)))|((with_reducible refine gate_dst (N := 17) rfl ?_);(try (refine gate_guard (by rfl) ?_;dsimp only));refine ldOne rfl 3 _ rfl gb271 0 rfl (l := [.int .i64 a0_0,.string a0_1,.int .i64 a0_2,.int .i64 a0_3,.string a0_4,.slice A0_5 l0_5.length c0_5,.int .i64 a0_6,.int .i64 a0_7,.string a0_8,.slice A0_9 l0_9.length c0_9,.int .i64 a0_10,.int .i64 a0_11,.string a0_12,.slice A0_13 l0_13.length c0_13,.int .i64 a0_14,.int .i64 a0_15,.string a0_16,.slice A0_17 l0_17.length c0_17,.slice A0_18 l0_18.length c0_18]) (tb := 50) (by exact kX BK271.out) (.int .i64 a0_0) rfl (fun _ => by kernel_rfl) ?_)|((with_reducible refine gate_callee (f := 81) rfl ?_);refine goesL_ (some 18) rfl rfl Try.func81 (by kernel_rfl) rfl #[.int .i64 a0_0] rfl (by (try simp only [List.map_toArray,List.map_cons,List.map_nil]);first|done|rfl) ?_;(with_reducible refine (impl_fields.calls a0_0 t273 t274 t275 t276 _ A5.out).mono ?_);rintro e w' ⟨rfl,⟨nd,rfl⟩⟩;refine ⟨_,rfl,?_⟩))
  (try simp only [Act.put,List.setIfInBounds_toArray,List.set_cons_zero,List.set_cons_succ])
  go_cut [48] (fun v48 wc => ∃ (kq : Nat) (x48_5 : Bool),v48 = .bool x48_5 ∧ Aside0 (impl_Stmt_isRight.j0 kq a1 t275 t276 x48_5 a0_0 a0_1 a0_2 a0_3 a0_4 l0_5 a0_6 a0_7 a0_8 l0_9 a0_10 a0_11 a0_12 l0_13 a0_14 a0_15 a0_16 l0_17 l0_18 = some r) ∧ Aside0 (kq ≤ k) ∧ Aside0 (wc.heap[gb271]? = some (.cells #[.int .i64 a0_0,.string a0_1,.int .i64 a0_2,.int .i64 a0_3,.string a0_4,(.slice A0_5 l0_5.length c0_5),.int .i64 a0_6,.int .i64 a0_7,.string a0_8,(.slice A0_9 l0_9.length c0_9),.int .i64 a0_10,.int .i64 a0_11,.string a0_12,(.slice A0_13 l0_13.length c0_13),.int .i64 a0_14,.int .i64 a0_15,.string a0_16,(.slice A0_17 l0_17.length c0_17),(.slice A0_18 l0_18.length c0_18)] 50 (0,0))) ∧ Aside0 (Below w.heap.size w wc))
  case first =>
   have H := HC6.out
   clear HC6
   obtain ⟨t277,A8,H⟩ := bindA H
   by_cases c9 : t277 = true
   ·subst c9
    rw [if_pos rfl] at H
    obtain ⟨t278,A10,H⟩ := bindA H
    by_cases c11 : t278 = true
    ·subst c11
     rw [if_pos rfl] at H
     obtain ⟨t279,A12,H⟩ := bindA H
     by_cases c13 : t279 = true
     ·subst c13
      rw [if_pos rfl] at H
      obtain ⟨t280,A14,H⟩ := bindA H
      have H' := mk0 H
      clear H
      go_wp2_with (first|((with_reducible refine gate_dst (N := 24) rfl ?_);(try (refine gate_guard (by rfl) ?_;dsimp only));refine ldBox rfl 29 _ rfl gb271 2 rfl (l := [.int .i64 a0_0,.string a0_1,.int .i64 a0_2,.int .i64 a0_3,.string a0_4,.slice A0_5 l0_5.length c0_5,.int .i64 a0_6,.int .i64 a0_7,.string a0_8,.slice A0_9 l0_9.length c0_9,.int .i64 a0_10,.int .i64 a0_11,.string a0_12,.slice A0_13 l0_13.length c0_13,.int .i64 a0_14,.int .i64 a0_15,.string a0_16,.slice A0_17 l0_17.length c0_17,.slice A0_18 l0_18.length c0_18]) (tb := 50) (by exact kX BK271.out) [.int .i64 a0_2,.int .i64 a0_3,.string a0_4,.slice A0_5 l0_5.length c0_5] rfl _ hu29 (by kernel_rfl) ?_)|((with_reducible refine gate_callee (f := 82) rfl ?_);refine goesL_ (some 26) rfl rfl Try.func82 (by kernel_rfl) rfl #[.agg #[.int .i64 a0_2,.int .i64 a0_3,.string a0_4,.slice A0_5 l0_5.length c0_5],.bool t273] rfl (by (try simp only [List.map_toArray,List.map_cons,List.map_nil]);first|done|rfl) ?_;(with_reducible refine (impl_fieldOk.calls k a0_2 a0_3 a0_4 _ _ l0_5 t273 true _ ?side1 ?side2 A8.out).mono ?_);(case side1 => repeat (first|exact (Kd.C_below HR0_5.out HB.out)|(with_reducible refine cA ?_ _)|(with_reducible refine cN ?_ _)|(with_reducible refine cD ?_)));(case side2 => exact HC0_5.out);rintro e w15 ⟨rfl,hb⟩;refine ⟨_,rfl,?_⟩;have n0_ := mk0 (blk_below (by exact kX BK271.out) hb);have n1_ := mk0 (below_step (by repeat (first|(with_reducible first|exact HB.out|apply bA|apply bN|apply bD|refine bS ?_ GE271.out)|exact HB.out)) hb);clear BK271;clear HB;have BK271 := n0_;have HB := n1_;clear n0_ n1_;(try clear hb);(try clear hb2);(try clear hk);(try clear hi))|((with_reducible refine gate_dst (N := 30) rfl ?_);(try (refine gate_guard (by rfl) ?_;dsimp only));refine ldBox rfl 29 _ rfl gb271 6 rfl (l := [.int .i64 a0_0,.string a0_1,.int .i64 a0_2,.int .i64 a0_3,.string a0_4,.slice A0_5 l0_5.length c0_5,.int .i64 a0_6,.int .i64 a0_7,.string a0_8,.slice A0_9 l0_9.length c0_9,.int .i64 a0_10,.int .i64 a0_11,.string a0_12,.slice A0_13 l0_13.length c0_13,.int .i64 a0_14,.int .i64 a0_15,.string a0_16,.slice A0_17 l0_17.length c0_17,.slice A0_18 l0_18.length c0_18]) (tb := 50) (by exact kX BK271.out) [.int .i64 a0_6,.int .i64 a0_7,.string a0_8,.slice A0_9 l0_9.length c0_9] rfl _ hu29 (by kernel_rfl) ?_)|(go_at_call 82;(with_reducible refine (impl_fieldOk.calls k a0_6 a0_7 a0_8 _ _ l0_9 t274 true _ ?side1 ?side2 A10.out).mono ?_);(case side1 => repeat (first|exact (Kd.C_below HR0_9.out HB.out)|(with_reducible refine cA ?_ _)|(with_reducible refine cN ?_ _)|(with_reducible refine cD ?_)));(case side2 => exact HC0_9.out);rintro e w16 ⟨rfl,hb⟩;have n0_ := mk0 (blk_below (by exact kX BK271.out) hb);have n1_ := mk0 (below_step (by repeat (first|(with_reducible first|exact HB.out|apply bA|apply bN|apply bD|refine bS ?_ GE271.out)|exact HB.out)) hb);clear BK271;clear HB;have BK271 := n0_;have HB := n1_;clear n0_ n1_;(try clear hb);(try clear hb2);(try clear hk);(try clear hi))|((with_reducible refine gate_dst (N := 37) rfl ?_);(try (refine gate_guard (by rfl) ?_;dsimp only));refine ldBox rfl 29 _ rfl gb271 10 rfl (l := [.int .i64 a0_0,.string a0_1,.int .i64 a0_2,.int .i64 a0_3,.string a0_4,.slice A0_5 l0_5.length c0_5,.int .i64 a0_6,.int .i64 a0_7,.string a0_8,.slice A0_9 l0_9.length c0_9,.int .i64 a0_10,.int .i64 a0_11,.string a0_12,.slice A0_13 l0_13.length c0_13,.int .i64 a0_14,.int .i64 a0_15,.string a0_16,.slice A0_17 l0_17.length c0_17,.slice A0_18 l0_18.length c0_18]) (tb := 50) (by exact kX BK271.out) [.int .i64 a0_10,.int .i64 a0_11,.string a0_12,.slice A0_13 l0_13.length c0_13] rfl _ hu29 (by kernel_rfl) ?_)|(go_at_call 82;(with_reducible refine (impl_fieldOk.calls k a0_10 a0_11 a0_12 _ _ l0_13 t275 true _ ?side1 ?side2 A12.out).mono ?_);(case side1 => repeat (first|exact (Kd.C_below HR0_13.out HB.out)|(with_reducible refine cA ?_ _)|(with_reducible refine cN ?_ _)|(with_reducible refine cD ?_)));(case side2 => exact HC0_13.out);rintro e w17 ⟨rfl,hb⟩;have n0_ := mk0 (blk_below (by exact kX BK271.out) hb);have n1_ := mk0 (below_step (by repeat (first|(with_reducible first|exact HB.out|apply bA|apply bN|apply bD|refine bS ?_ GE271.out)|exact HB.out)) hb);clear BK271;clear HB;have BK271 := n0_;have HB := n1_;clear n0_ n1_;(try clear hb);(try clear hb2);(try clear hk);(try clear hi))|((with_reducible refine gate_dst (N := 44) rfl ?_);(try (refine gate_guard (by rfl) ?_;dsimp only));refine ldBox rfl 29 _ rfl gb271 14 rfl (l := [.int .i64 a0_0,.string a0_1,.int .i64 a0_2,.int .i64 a0_3,.string a0_4,.slice A0_5 l0_5.length c0_5,.int .i64 a0_6,.int .i64 a0_7,.string a0_8,.slice A0_9 l0_9.length c0_9,.int .i64 a0_10,.int .i64 a0_11,.string a0_12,.slice A0_13 l0_13.length c0_13,.int .i64 a0_14,.int .i64 a0_15,.string a0_16,.slice A0_17 l0_17.length c0_17,.slice A0_18 l0_18.length c0_18]) (tb := 50) (by exact kX BK271.out) [.int .i64 a0_14,.int .i64 a0_15,.string a0_16,.slice A0_17 l0_17.length c0_17] rfl _ hu29 (by kernel_rfl) ?_)|(go_at_call 82;(with_reducible refine (impl_fieldOk.calls k a0_14 a0_15 a0_16 _ _ l0_17 t275 t280 _ ?side1 ?side2 A14.out).mono ?_);(case side1 => repeat (first|exact (Kd.C_below HR0_17.out HB.out)|(with_reducible refine cA ?_ _)|(with_reducible refine cN ?_ _)|(with_reducible refine cD ?_)));(case side2 => exact HC0_17.out);rintro e w18 ⟨rfl,hb⟩;have n0_ := mk0 (blk_below (by exact kX BK271.out) hb);have n1_ := mk0 (below_step (by repeat (first|(with_reducible first|exact HB.out|apply bA|apply bN|apply bD|refine bS ?_ GE271.out)|exact HB.out)) hb);clear BK271;clear HB;have BK271 := n0_;have HB := n1_;clear n0_ n1_;(try clear hb);(try clear hb2);(try clear hk);(try clear hi)))
      go_meet
      case rel => exact ⟨_,(!t280),(by first|rfl|(simp;done)|(simp [*];done)),H',⟨by first|omega|exact Nat.le_refl _⟩,⟨by refine kX ?_;exact BK271.out⟩,⟨by repeat (first|(with_reducible first|exact HB.out|apply bA|apply bN|apply bD|refine bS ?_ GE271.out)|exact HB.out)⟩⟩
     ·replace c13 := Bool.eq_false_iff.mpr c13
      subst c13
      rw [if_neg (show ¬ (false = true) by decide)] at H
      have H' := mk0 H
      clear H
      go_wp2_with (first|((with_reducible refine gate_dst (N := 24) rfl ?_);(try (refine gate_guard (by rfl) ?_;dsimp only));refine ldBox rfl 29 _ rfl gb271 2 rfl (l := [.int .i64 a0_0,.string a0_1,.int .i64 a0_2,.int .i64 a0_3,.string a0_4,.slice A0_5 l0_5.length c0_5,.int .i64 a0_6,.int .i64 a0_7,.string a0_8,.slice A0_9 l0_9.length c0_9,.int .i64 a0_10,.int .i64 a0_11,.string a0_12,.slice A0_13 l0_13.length c0_13,.int .i64 a0_14,.int .i64 a0_15,.string a0_16,.slice A0_17 l0_17.length c0_17,.slice A0_18 l0_18.length c0_18]) (tb := 50) (by exact kX BK271.out) [.int .i64 a0_2,.int .i64 a0_3,.string a0_4,.slice A0_5 l0_5.length c0_5] rfl _ hu29 (by kernel_rfl) ?_)|((with_reducible refine gate_callee (f := 82) rfl ?_);refine goesL_ (some 26) rfl rfl Try.func82 (by kernel_rfl) rfl #[.agg #[.int .i64 a0_2,.int .i64 a0_3,.string a0_4,.slice A0_5 l0_5.length c0_5],.bool t273] rfl (by (try simp only [List.map_toArray,List.map_cons,List.map_nil]);first|done|rfl) ?_;(with_reducible refine (impl_fieldOk.calls k a0_2 a0_3 a0_4 _ _ l0_5 t273 true _ ?side1 ?side2 A8.out).mono ?_);(case side1 => repeat (first|exact (Kd.C_below HR0_5.out HB.out)|(with_reducible refine cA ?_ _)|(with_reducible refine cN ?_ _)|(with_reducible refine cD ?_)));(case side2 => exact HC0_5.out);rintro e w19 ⟨rfl,hb⟩;refine ⟨_,rfl,?_⟩;have n0_ := mk0 (blk_below (by exact kX BK271.out) hb);have n1_ := mk0 (below_step (by repeat (first|(with_reducible first|exact HB.out|apply bA|apply bN|apply bD|refine bS ?_ GE271.out)|exact HB.out)) hb);clear BK271;clear HB;have BK271 := n0_;have HB := n1_;clear n0_ n1_;(try clear hb);(try clear hb2);(try clear hk);(try clear hi))|((with_reducible refine gate_dst (N := 30) rfl ?_);(try (refine gate_guard (by rfl) ?_;dsimp only));refine ldBox rfl 29 _ rfl gb271 6 rfl (l := [.int .i64 a0_0,.string a0_1,.int .i64 a0_2,.int .i64 a0_3,.string a0_4,.slice A0_5 l0_5.length c0_5,.int .i64 a0_6,.int .i64 a0_7,.string a0_8,.slice A0_9 l0_9.length c0_9,.int .i64 a0_10,.int .i64 a0_11,.string a0_12,.slice A0_13 l0_13.length c0_13,.int .i64 a0_14,.int .i64 a0_15,.string a0_16,.slice A0_17 l0_17.length c0_17,.slice A0_18 l0_18.length c0_18]) (tb := 50) (by exact kX BK271.out) [.int .i64 a0_6,.int .i64 a0_7,.string a0_8,.slice A0_9 l0_9.length c0_9] rfl _ hu29 (by kernel_rfl) ?_)|(go_at_call 82;(with_reducible refine (impl_fieldOk.calls k a0_6 a0_7 a0_8 _ _ l0_9 t274 true _ ?side1 ?side2 A10.out).mono ?_);(case side1 => repeat (first|exact (Kd.C_below HR0_9.out HB.out)|(with_reducible refine cA ?_ _)|(with_reducible refine cN ?_ _)|(with_reducible refine cD ?_)));(case side2 => exact HC0_9.out);rintro e w20 ⟨rfl,hb⟩;have n0_ := mk0 (blk_below (by exact kX BK271.out) hb);have n1_ := mk0 (below_step (by repeat (first|(with_reducible first|exact HB.out|apply bA|apply bN|apply bD|refine bS ?_ GE271.out)|exact HB.out)) hb);clear BK271;clear HB;have BK271 := n0_;have HB := n1_;clear n0_ n1_;(try clear hb);(try clear hb2);(try clear hk);(try clear hi))|((with_reducible refine gate_dst (N := 37) rfl ?_);(try (refine gate_guard (by rfl) ?_;dsimp only));refine ldBox rfl 29 _ rfl gb271 10 rfl (l := [.int .i64 a0_0,.string a0_1,.int .i64 a0_2,.int .i64 a0_3,.string a0_4,.slice A0_5 l0_5.length c0_5,.int .i64 a0_6,.int .i64 a0_7,.string a0_8,.slice A0_9 l0_9.length c0_9,.int .i64 a0_10,.int .i64 a0_11,.string a0_12,.slice A0_13 l0_13.length c0_13,.int .i64 a0_14,.int .i64 a0_15,.string a0_16,.slice A0_17 l0_17.length c0_17,.slice A0_18 l0_18.length c0_18]) (tb := 50) (by exact kX BK271.out) [.int .i64 a0_10,.int .i64 a0_11,.string a0_12,.slice A0_13 l0_13.length c0_13] rfl _ hu29 (by kernel_rfl) ?_)|(go_at_call 82;(with_reducible refine (impl_fieldOk.calls k a0_10 a0_11 a0_12 _ _ l0_13 t275 false _ ?side1 ?side2 A12.out).mono ?_);(case side1 => repeat (first|exact (Kd.C_below HR0_13.out HB.out)|(with_reducible refine cA ?_ _)|(with_reducible refine cN ?_ _)|(with_reducible refine cD ?_)));(case side2 => exact HC0_13.out);rintro e w21 ⟨rfl,hb⟩;have n0_ := mk0 (blk_below (by exact kX BK271.out) hb);have n1_ := mk0 (below_step (by repeat (first|(with_reducible first|exact HB.out|apply bA|apply bN|apply bD|refine bS ?_ GE271.out)|exact HB.out)) hb);clear BK271;clear HB;have BK271 := n0_;have HB := n1_;clear n0_ n1_;(try clear hb);(try clear hb2);(try clear hk);(try clear hi)))
      go_meet
      case rel => exact ⟨_,(true),(by first|rfl|(simp;done)|(simp [*];done)),H',⟨by first|omega|exact Nat.le_refl _⟩,⟨by refine kX ?_;exact BK271.out⟩,⟨by repeat (first|(with_reducible first|exact HB.out|apply bA|apply bN|apply bD|refine bS ?_ GE271.out)|exact HB.out)⟩⟩
    ·replace c11 := Bool.eq_false_iff.mpr c11
     subst c11
     rw [if_neg (show ¬ (false = true) by decide)] at H
     have H' := mk0 H
     clear H
     go_wp2_with (first|((with_reducible refine gate_dst (N := 24) rfl ?_);(try (refine gate_guard (by rfl) ?_;dsimp only));refine ldBox rfl 29 _ rfl gb271 2 rfl (l := [.int .i64 a0_0,.string a0_1,.int .i64 a0_2,.int .i64 a0_3,.string a0_4,.slice A0_5 l0_5.length c0_5,.int .i64 a0_6,.int .i64 a0_7,.string a0_8,.slice A0_9 l0_9.length c0_9,.int .i64 a0_10,.int .i64 a0_11,.string a0_12,.slice A0_13 l0_13.length c0_13,.int .i64 a0_14,.int .i64 a0_15,.string a0_16,.slice A0_17 l0_17.length c0_17,.slice A0_18 l0_18.length c0_18]) (tb := 50) (by exact kX BK271.out) [.int .i64 a0_2,.int .i64 a0_3,.string a0_4,.slice A0_5 l0_5.length c0_5] rfl _ hu29 (by kernel_rfl) ?_)|((with_reducible refine gate_callee (f := 82) rfl ?_);refine goesL_ (some 26) rfl rfl Try.func82 (by kernel_rfl) rfl #[.agg #[.int .i64 a0_2,.int .i64 a0_3,.string a0_4,.slice A0_5 l0_5.length c0_5],.bool t273] rfl (by (try simp only [List.map_toArray,List.map_cons,List.map_nil]);first|done|rfl) ?_;(with_reducible refine (impl_fieldOk.calls k a0_2 a0_3 a0_4 _ _ l0_5 t273 true _ ?side1 ?side2 A8.out).mono ?_);(case side1 => repeat (first|exact (Kd.C_below HR0_5.out HB.out)|(with_reducible refine cA ?_ _)|(with_reducible refine cN ?_ _)|(with_reducible refine cD ?_)));(case side2 => exact HC0_5.out);rintro e w22 ⟨rfl,hb⟩;refine ⟨_,rfl,?_⟩;have n0_ := mk0 (blk_below (by exact kX BK271.out) hb);have n1_ := mk0 (below_step (by repeat (first|(with_reducible first|exact HB.out|apply bA|apply bN|apply bD|refine bS ?_ GE271.out)|exact HB.out)) hb);clear BK271;clear HB;have BK271 := n0_;have HB := n1_;clear n0_ n1_;(try clear hb);(try clear hb2);(try clear hk);(try clear hi))|((with_reducible refine gate_dst (N := 30) rfl ?_);(try (refine gate_guard (by rfl) ?_;dsimp only));refine ldBox rfl 29 _ rfl gb271 6 rfl (l := [.int .i64 a0_0,.string a0_1,.int .i64 a0_2,.int .i64 a0_3,.string a0_4,.slice A0_5 l0_5.length c0_5,.int .i64 a0_6,.int .i64 a0_7,.string a0_8,.slice A0_9 l0_9.length c0_9,.int .i64 a0_10,.int .i64 a0_11,.string a0_12,.slice A0_13 l0_13.length c0_13,.int .i64 a0_14,.int .i64 a0_15,.string a0_16,.slice A0_17 l0_17.length c0_17,.slice A0_18 l0_18.length c0_18]) (tb := 50) (by exact kX BK271.out) [.int .i64 a0_6,.int .i64 a0_7,.string a0_8,.slice A0_9 l0_9.length c0_9] rfl _ hu29 (by kernel_rfl) ?_)|(go_at_call 82;(with_reducible refine (impl_fieldOk.calls k a0_6 a0_7 a0_8 _ _ l0_9 t274 false _ ?side1 ?side2 A10.out).mono ?_);(case side1 => repeat (first|exact (Kd.C_below HR0_9.out HB.out)|(with_reducible refine cA ?_ _)|(with_reducible refine cN ?_ _)|(with_reducible refine cD ?_)));(case side2 => exact HC0_9.out);rintro e w23 ⟨rfl,hb⟩;have n0_ := mk0 (blk_below (by exact kX BK271.out) hb);have n1_ := mk0 (below_step (by repeat (first|(with_reducible first|exact HB.out|apply bA|apply bN|apply bD|refine bS ?_ GE271.out)|exact HB.out)) hb);clear BK271;clear HB;have BK271 := n0_;have HB := n1_;clear n0_ n1_;(try clear hb);(try clear hb2);(try clear hk);(try clear hi)))
     go_meet
     case rel => exact ⟨_,(true),(by first|rfl|(simp;done)|(simp [*];done)),H',⟨by first|omega|exact Nat.le_refl _⟩,⟨by refine kX ?_;exact BK271.out⟩,⟨by repeat (first|(with_reducible first|exact HB.out|apply bA|apply bN|apply bD|refine bS ?_ GE271.out)|exact HB.out)⟩⟩
   ·replace c9 := Bool.eq_false_iff.mpr c9
    subst c9
    rw [if_neg (show ¬ (false = true) by decide)] at H
    have H' := mk0 H
    clear H
    go_wp2_with (first|((with_reducible refine gate_dst (N := 24) rfl ?_);(try (refine gate_guard (by rfl) ?_;dsimp only));refine ldBox rfl 29 _ rfl gb271 2 rfl (l := [.int .i64 a0_0,.string a0_1,.int .i64 a0_2,.int .i64 a0_3,.string a0_4,.slice A0_5 l0_5.length c0_5,.int .i64 a0_6,.int .i64 a0_7,.string a0_8,.slice A0_9 l0_9.length c0_9,.int .i64 a0_10,.int .i64 a0_11,.string a0_12,.slice A0_13 l0_13.length c0_13,.int .i64 a0_14,.int .i64 a0_15,.string a0_16,.slice A0_17 l0_17.length c0_17,.slice A0_18 l0_18.length c0_18]) (tb := 50) (by exact kX BK271.out) [.int .i64 a0_2,.int .i64 a0_3,.string a0_4,.slice A0_5 l0_5.length c0_5] rfl _ hu29 (by kernel_rfl) ?_)|((with_reducible refine gate_callee (f := 82) rfl ?_);refine goesL_ (some 26) rfl rfl Try.func82 (by kernel_rfl) rfl #[.agg #[.int .i64 a0_2,.int .i64 a0_3,.string a0_4,.slice A0_5 l0_5.length c0_5],.bool t273] rfl (by (try simp only [List.map_toArray,List.map_cons,List.map_nil]);first|done|rfl) ?_;(with_reducible refine (impl_fieldOk.calls k a0_2 a0_3 a0_4 _ _ l0_5 t273 false _ ?side1 ?side2 A8.out).mono ?_);(case side1 => repeat (first|exact (Kd.C_below HR0_5.out HB.out)|(with_reducible refine cA ?_ _)|(with_reducible refine cN ?_ _)|(with_reducible refine cD ?_)));(case side2 => exact HC0_5.out);rintro e w24 ⟨rfl,hb⟩;refine ⟨_,rfl,?_⟩;have n0_ := mk0 (blk_below (by exact kX BK271.out) hb);have n1_ := mk0 (below_step (by repeat (first|(with_reducible first|exact HB.out|apply bA|apply bN|apply bD|refine bS ?_ GE271.out)|exact HB.out)) hb);clear BK271;clear HB;have BK271 := n0_;have HB := n1_;clear n0_ n1_;(try clear hb);(try clear hb2);(try clear hk);(try clear hi)))
    go_meet
    case rel => exact ⟨_,(true),(by first|rfl|(simp;done)|(simp [*];done)),H',⟨by first|omega|exact Nat.le_refl _⟩,⟨by refine kX ?_;exact BK271.out⟩,⟨by repeat (first|(with_reducible first|exact HB.out|apply bA|apply bN|apply bD|refine bS ?_ GE271.out)|exact HB.out)⟩⟩
  case rest =>
   clear HC6
   try clear c1
   try clear p2
   try clear c4
   try clear c5
   try clear c6
   try clear c8
   try clear c9
   try clear c11
   try clear c13
   obtain ⟨kq,x48_5,rfl,HA,HJ5,BK271,HB⟩ := hcut
   cases kq with
     |zero => exact absurd HA.out (by simp [impl_Stmt_isRight.j0])
     |succ kj5 =>
    have H := HA.out
    clear HA
    simp only [impl_Stmt_isRight.j0] at H
    by_cases c25 : x48_5 = true
    ·subst c25
     rw [if_pos rfl] at H
     obtain rfl := Option.some.inj H
     go_wp2
     go_ret
     exact ⟨by first|rfl|(simp [errW_none,errW_some] <;> rfl)|(simp [*,errW_none,errW_some] <;> rfl),by repeat (first|(with_reducible first|exact HB.out|apply bA|apply bN|apply bD|refine bS ?_ GE271.out)|exact HB.out)⟩
    ·replace c25 := Bool.eq_false_iff.mpr c25
     subst c25
     rw [if_neg (show ¬ (false = true) by decide)] at H
     have HC26 := mk0 H
     clear H
     go_upto_region 6 with (fail)
     go_cut [64] (fun v64 wc => ∃ (kq : Nat) (x64_25 : Bool),v64 = .bool x64_25 ∧ Aside0 (impl_Stmt_isRight.j1 kq a1 t275 x64_25 a0_0 a0_1 a0_2 a0_3 a0_4 l0_5 a0_6 a0_7 a0_8 l0_9 a0_10 a0_11 a0_12 l0_13 a0_14 a0_15 a0_16 l0_17 l0_18 = some r) ∧ Aside0 (kq ≤ kj5) ∧ Aside0 (wc.heap[gb271]? = some (.cells #[.int .i64 a0_0,.string a0_1,.int .i64 a0_2,.int .i64 a0_3,.string a0_4,(.slice A0_5 l0_5.length c0_5),.int .i64 a0_6,.int .i64 a0_7,.string a0_8,(.slice A0_9 l0_9.length c0_9),.int .i64 a0_10,.int .i64 a0_11,.string a0_12,(.slice A0_13 l0_13.length c0_13),.int .i64 a0_14,.int .i64 a0_15,.string a0_16,(.slice A0_17 l0_17.length c0_17),(.slice A0_18 l0_18.length c0_18)] 50 (0,0))) ∧ Aside0 (Below w.heap.size w wc))
     case first =>
      have H := HC26.out
      clear HC26
      by_cases c27 : t276 = true
      ·subst c27
       rw [if_pos rfl] at H
       obtain ⟨t281,A28,H⟩ := bindA H
       by_cases c29 : t281 = true
       ·subst c29
        rw [if_pos rfl] at H
        have H' := mk0 H
        clear H
        go_wp2_with (first|((with_reducible refine gate_dst (N := 52) rfl ?_);(try (refine gate_guard (by rfl) ?_;dsimp only));refine ldOne rfl 9 _ rfl gb271 1 rfl (l := [.int .i64 a0_0,.string a0_1,.int .i64 a0_2,.int .i64 a0_3,.string a0_4,.slice A0_5 l0_5.length c0_5,.int .i64 a0_6,.int .i64 a0_7,.string a0_8,.slice A0_9 l0_9.length c0_9,.int .i64 a0_10,.int .i64 a0_11,.string a0_12,.slice A0_13 l0_13.length c0_13,.int .i64 a0_14,.int .i64 a0_15,.string a0_16,.slice A0_17 l0_17.length c0_17,.slice A0_18 l0_18.length c0_18]) (tb := 50) (by exact kX BK271.out) (.string a0_1) rfl (fun _ => by kernel_rfl) ?_)|(go_at_call 83;(with_reducible refine (impl_NameOk.calls kj5 a0_1 true _ A28.out).mono ?_);rintro e w' ⟨rfl,⟨nd,rfl⟩⟩))
        go_meet
        case rel => exact ⟨_,(false),(by first|rfl|(simp;done)|(simp [*];done)),H',⟨by have := HJ5.out;first|omega|exact Nat.le_refl _⟩,⟨by refine kX ?_;exact BK271.out⟩,⟨by repeat (first|(with_reducible first|exact HB.out|apply bA|apply bN|apply bD|refine bS ?_ GE271.out)|exact HB.out)⟩⟩
       ·replace c29 := Bool.eq_false_iff.mpr c29
        subst c29
        rw [if_neg (show ¬ (false = true) by decide)] at H
        have H' := mk0 H
        clear H
        go_wp2_with (first|((with_reducible refine gate_dst (N := 52) rfl ?_);(try (refine gate_guard (by rfl) ?_;dsimp only));refine ldOne rfl 9 _ rfl gb271 1 rfl (l := [.int .i64 a0_0,.string a0_1,.int .i64 a0_2,.int .i64 a0_3,.string a0_4,.slice A0_5 l0_5.length c0_5,.int .i64 a0_6,.int .i64 a0_7,.string a0_8,.slice A0_9 l0_9.length c0_9,.int .i64 a0_10,.int .i64 a0_11,.string a0_12,.slice A0_13 l0_13.length c0_13,.int .i64 a0_14,.int .i64 a0_15,.string a0_16,.slice A0_17 l0_17.length c0_17,.slice A0_18 l0_18.length c0_18]) (tb := 50) (by exact kX BK271.out) (.string a0_1) rfl (fun _ => by kernel_rfl) ?_)|(go_at_call 83;(with_reducible refine (impl_NameOk.calls kj5 a0_1 false _ A28.out).mono ?_);rintro e w' ⟨rfl,⟨nd,rfl⟩⟩))
        go_meet
        case rel => exact ⟨_,(true),(by first|rfl|(simp;done)|(simp [*];done)),H',⟨by have := HJ5.out;first|omega|exact Nat.le_refl _⟩,⟨by refine kX ?_;exact BK271.out⟩,⟨by repeat (first|(with_reducible first|exact HB.out|apply bA|apply bN|apply bD|refine bS ?_ GE271.out)|exact HB.out)⟩⟩
      ·replace c27 := Bool.eq_false_iff.mpr c27
       subst c27
       rw [if_neg (show ¬ (false = true) by decide)] at H
       have H' := mk0 H
       clear H
       go_wp2_with (first|((with_reducible refine gate_dst (N := 61) rfl ?_);(try (refine gate_guard (by rfl) ?_;dsimp only));refine ldOne rfl 9 _ rfl gb271 1 rfl (l := [.int .i64 a0_0,.string a0_1,.int .i64 a0_2,.int .i64 a0_3,.string a0_4,.slice A0_5 l0_5.length c0_5,.int .i64 a0_6,.int .i64 a0_7,.string a0_8,.slice A0_9 l0_9.length c0_9,.int .i64 a0_10,.int .i64 a0_11,.string a0_12,.slice A0_13 l0_13.length c0_13,.int .i64 a0_14,.int .i64 a0_15,.string a0_16,.slice A0_17 l0_17.length c0_17,.slice A0_18 l0_18.length c0_18]) (tb := 50) (by exact kX BK271.out) (.string a0_1) rfl (fun _ => by kernel_rfl) ?_))
       go_meet
       case rel => exact ⟨_,((a0_1.toList != ([] : List UInt8))),(by first|rfl|(simp;done)|(simp [*];done)|(cases hq_ : a0_1.toList <;> simp [*])),H',⟨by have := HJ5.out;first|omega|exact Nat.le_refl _⟩,⟨by refine kX ?_;exact BK271.out⟩,⟨by repeat (first|(with_reducible first|exact HB.out|apply bA|apply bN|apply bD|refine bS ?_ GE271.out)|exact HB.out)⟩⟩
     case rest =>
      clear HC26
      try clear c1
      try clear c2
      try clear p2
      try clear c4
      try clear c5
      try clear c6
      try clear c8
      try clear c9
      try clear c11
      try clear c13
      try clear c25
      try clear c27
      try clear c29
      try clear p2
      obtain ⟨kq,x64_25,rfl,HA,HJ25,BK271,HB⟩ := hcut
      cases kq with
           |zero => exact absurd HA.out (by simp [impl_Stmt_isRight.j1])
           |succ kj25 =>
       have H := HA.out
       clear HA
       simp only [impl_Stmt_isRight.j1] at H
       by_cases c30 : x64_25 = true
       ·subst c30
        rw [if_pos rfl] at H
        obtain rfl := Option.some.inj H
        go_wp2
        go_ret
        exact ⟨by first|rfl|(simp [errW_none,errW_some] <;> rfl)|(simp [*,errW_none,errW_some] <;> rfl),by repeat (first|(with_reducible first|exact HB.out|apply bA|apply bN|apply bD|refine bS ?_ GE271.out)|exact HB.out)⟩
       ·replace c30 := Bool.eq_false_iff.mpr c30
        subst c30
        rw [if_neg (show ¬ (false = true) by decide)] at H
        by_cases c31 : t275 = true
        ·subst c31
         rw [if_pos rfl] at H
         have HC32 := mk0 H
         clear H
         go_upto_region 10 with (fail)
         go_cut [79] (fun v79 wc => ∃ (kq : Nat) (x79_31 : Bool),v79 = .bool x79_31 ∧ Aside0 (impl_Stmt_isRight.j2 kq a1 x79_31 a0_0 a0_1 a0_2 a0_3 a0_4 l0_5 a0_6 a0_7 a0_8 l0_9 a0_10 a0_11 a0_12 l0_13 a0_14 a0_15 a0_16 l0_17 l0_18 = some r) ∧ Aside0 (kq ≤ kj25) ∧ Aside0 (wc.heap[gb271]? = some (.cells #[.int .i64 a0_0,.string a0_1,.int .i64 a0_2,.int .i64 a0_3,.string a0_4,(.slice A0_5 l0_5.length c0_5),.int .i64 a0_6,.int .i64 a0_7,.string a0_8,(.slice A0_9 l0_9.length c0_9),.int .i64 a0_10,.int .i64 a0_11,.string a0_12,(.slice A0_13 l0_13.length c0_13),.int .i64 a0_14,.int .i64 a0_15,.string a0_16,(.slice A0_17 l0_17.length c0_17),(.slice A0_18 l0_18.length c0_18)] 50 (0,0))) ∧ Aside0 (Below w.heap.size w wc))
         case first =>
          have H := HC32.out
          clear HC32
          by_cases c33 : a1 = 3
          ·rw [if_pos c33] at H
           have c33b0 : (a1 == 3) = true := beq_iff_eq.mpr c33
           have c33b1 : (a1 != 3) = false := bne_eq_false_iff_eq.mpr c33
           clear c33
           (first|rw [c33b0]|(simp only [i64_w,i32_w];rw [c33b0])|skip)
           have H' := mk0 H
           clear H
           go_wp2
           go_meet
           case rel => exact ⟨_,(true),(by first|rfl|(simp;done)|(simp [*];done)),H',⟨by have := HJ5.out;have := HJ25.out;first|omega|exact Nat.le_refl _⟩,⟨by refine kX ?_;exact BK271.out⟩,⟨by repeat (first|(with_reducible first|exact HB.out|apply bA|apply bN|apply bD|refine bS ?_ GE271.out)|exact HB.out)⟩⟩
          ·rw [if_neg c33] at H
           have c33b0 : (a1 == 3) = false := beq_eq_false_iff_ne.mpr c33
           have c33b1 : (a1 != 3) = true := bne_iff_ne.mpr c33
           (first|rw [c33b0]|(simp only [i64_w,i32_w];rw [c33b0])|skip)
           obtain ⟨t282,A34,H⟩ := bindA H
           have H' := mk0 H
           clear H
           go_wp2_with (first|((with_reducible refine gate_dst (N := 75) rfl ?_);(try (refine gate_guard (by rfl) ?_;dsimp only));refine ldOne rfl 48 _ rfl gb271 18 rfl (l := [.int .i64 a0_0,.string a0_1,.int .i64 a0_2,.int .i64 a0_3,.string a0_4,.slice A0_5 l0_5.length c0_5,.int .i64 a0_6,.int .i64 a0_7,.string a0_8,.slice A0_9 l0_9.length c0_9,.int .i64 a0_10,.int .i64 a0_11,.string a0_12,.slice A0_13 l0_13.length c0_13,.int .i64 a0_14,.int .i64 a0_15,.string a0_16,.slice A0_17 l0_17.length c0_17,.slice A0_18 l0_18.length c0_18]) (tb := 50) (by exact kX BK271.out) (.slice A0_18 l0_18.length c0_18) rfl (fun _ => by kernel_rfl) ?_)|(go_at_call 56;(with_reducible refine (impl_inRange.calls (l0_18.length : Int) 1 6 t282 _ A34.out).mono ?_);rintro e w' ⟨rfl,⟨nd,rfl⟩⟩))
           go_meet
           case rel => exact ⟨_,(!t282),(by first|rfl|(simp;done)|(simp [*];done)),H',⟨by have := HJ5.out;have := HJ25.out;first|omega|exact Nat.le_refl _⟩,⟨by refine kX ?_;exact BK271.out⟩,⟨by repeat (first|(with_reducible first|exact HB.out|apply bA|apply bN|apply bD|refine bS ?_ GE271.out)|exact HB.out)⟩⟩
         case rest =>
          clear HC32
          try clear c1
          try clear c2
          try clear p2
          try clear c3
          try clear c4
          try clear c5
          try clear c6
          try clear c8
          try clear c9
          try clear c11
          try clear c13
          try clear c25
          try clear c27
          try clear c29
          try clear c30
          try clear c31
          try clear c33
          try clear c33b0
          try clear c33b1
          try clear p2
          obtain ⟨kq,x79_31,rfl,HA,HJ31,BK271,HB⟩ := hcut
          cases kq with
                   |zero => exact absurd HA.out (by simp [impl_Stmt_isRight.j2])
                   |succ kj31 =>
           have H := HA.out
           clear HA
           simp only [impl_Stmt_isRight.j2] at H
           by_cases c35 : x79_31 = true
           ·subst c35
            rw [if_pos rfl] at H
            obtain rfl := Option.some.inj H
            go_wp2
            go_ret
            exact ⟨by first|rfl|(simp [errW_none,errW_some] <;> rfl)|(simp [*,errW_none,errW_some] <;> rfl),by repeat (first|(with_reducible first|exact HB.out|apply bA|apply bN|apply bD|refine bS ?_ GE271.out)|exact HB.out)⟩
           ·replace c35 := Bool.eq_false_iff.mpr c35
            subst c35
            rw [if_neg (show ¬ (false = true) by decide)] at H
            have H' := mk0 H
            clear H
            go_wp2_with (first|((with_reducible refine gate_dst (N := 81) rfl ?_);(try (refine gate_guard (by rfl) ?_;dsimp only));refine ldOne rfl 48 _ rfl gb271 18 rfl (l := [.int .i64 a0_0,.string a0_1,.int .i64 a0_2,.int .i64 a0_3,.string a0_4,.slice A0_5 l0_5.length c0_5,.int .i64 a0_6,.int .i64 a0_7,.string a0_8,.slice A0_9 l0_9.length c0_9,.int .i64 a0_10,.int .i64 a0_11,.string a0_12,.slice A0_13 l0_13.length c0_13,.int .i64 a0_14,.int .i64 a0_15,.string a0_16,.slice A0_17 l0_17.length c0_17,.slice A0_18 l0_18.length c0_18]) (tb := 50) (by exact kX BK271.out) (.slice A0_18 l0_18.length c0_18) rfl (fun _ => by kernel_rfl) ?_))
            go_loopg [83] kj31 (fun kq v83 w' => ∃ (x83_4 : Int),v83 = .int .i64 x83_4 ∧ Aside0 (impl_Stmt_isRight.l0 kq a1 l0_18 (l0_18.length : Int) x83_4 = some r) ∧ Aside0 (kq ≤ kj31) ∧ Aside0 (w'.heap[gb271]? = some (.cells #[.int .i64 a0_0,.string a0_1,.int .i64 a0_2,.int .i64 a0_3,.string a0_4,(.slice A0_5 l0_5.length c0_5),.int .i64 a0_6,.int .i64 a0_7,.string a0_8,(.slice A0_9 l0_9.length c0_9),.int .i64 a0_10,.int .i64 a0_11,.string a0_12,(.slice A0_13 l0_13.length c0_13),.int .i64 a0_14,.int .i64 a0_15,.string a0_16,(.slice A0_17 l0_17.length c0_17),(.slice A0_18 l0_18.length c0_18)] 50 (0,0))) ∧ Aside0 (Below w.heap.size w w'))
            case atStart => exact ⟨(0),(by first|rfl|(simp;done)|(simp [*];done)),H',⟨Nat.le_refl _⟩,⟨by refine kX ?_;exact BK271.out⟩,⟨by repeat (first|(with_reducible first|exact HB.out|apply bA|apply bN|apply bD|refine bS ?_ GE271.out)|exact HB.out)⟩⟩
            case round =>
             clear H'
             try clear c1
             try clear c2
             try clear p2
             try clear c3
             try clear c4
             try clear c5
             try clear c6
             try clear c8
             try clear c9
             try clear c11
             try clear c13
             try clear c25
             try clear c27
             try clear c29
             try clear c30
             try clear c31
             try clear c33
             try clear c33b0
             try clear c33b1
             try clear c35
             try clear p2
             obtain ⟨x83_4,rfl,HA,HK4,BK271,HB⟩ := hrel
             cases gk with
                         |zero => exact absurd HA.out (by simp [impl_Stmt_isRight.l0])
                         |succ k4 =>
              have H := HA.out
              clear HA
              simp only [impl_Stmt_isRight.l0] at H
              by_cases c36 : x83_4 < (l0_18.length : Int)
              ·rw [if_pos c36] at H
               have c36b0 : decide (x83_4 < (l0_18.length : Int)) = true := decide_eq_true c36
               clear c36
               by_cases c37 : 0 ≤ x83_4
               ·rw [if_pos c37] at H
                have c37b0 : decide (0 ≤ x83_4) = true := decide_eq_true c37
                clear c37
                by_cases c38 : x83_4 < (l0_18.length : Int)
                ·rw [if_pos c38] at H
                 have c38b0 : decide (x83_4 < (l0_18.length : Int)) = true := decide_eq_true c38
                 clear c38
                 obtain ⟨t285,A39,H⟩ := bindA H
                 by_cases c40 : t285 = true
                 ·subst c40
                  rw [if_pos rfl] at H
                  have H' := mk0 H
                  clear H
                  have p283 : 0 ≤ (x83_4 : Int) := of_decide_eq_true (by first|(with_reducible assumption)|assumption)
                  have q283 : x83_4 < (l0_18.length : Int) := of_decide_eq_true (by first|(with_reducible assumption)|assumption)
                  obtain ⟨ad283,A283_5,c283_5,A283_9,c283_9,A283_13,c283_13,A283_17,c283_17,A283_18,c283_18,e283,hx283_0,hx283_1,hx283_2,hx283_3,hx283_4,hx283_5,hx283_6,hx283_7,hx283_8,hx283_9,hx283_10,hx283_11,hx283_12,hx283_13,hx283_14,hx283_15,hx283_16,hx283_17,hx283_18,hl283_5,hi283_5,hl283_9,hi283_9,hl283_13,hi283_13,hl283_17,hi283_17,hl283_18,hi283_18⟩ := at_T50 HR0_18.out x83_4 p283 q283
                  cases e283
                  replace hx283_0 := hbc HB.out hx283_0
                  replace hx283_1 := hbc HB.out hx283_1
                  replace hx283_2 := hbc HB.out hx283_2
                  replace hx283_3 := hbc HB.out hx283_3
                  replace hx283_4 := hbc HB.out hx283_4
                  replace hx283_5 := hbc HB.out hx283_5
                  replace hx283_6 := hbc HB.out hx283_6
                  replace hx283_7 := hbc HB.out hx283_7
                  replace hx283_8 := hbc HB.out hx283_8
                  replace hx283_9 := hbc HB.out hx283_9
                  replace hx283_10 := hbc HB.out hx283_10
                  replace hx283_11 := hbc HB.out hx283_11
                  replace hx283_12 := hbc HB.out hx283_12
                  replace hx283_13 := hbc HB.out hx283_13
                  replace hx283_14 := hbc HB.out hx283_14
                  replace hx283_15 := hbc HB.out hx283_15
                  replace hx283_16 := hbc HB.out hx283_16
                  replace hx283_17 := hbc HB.out hx283_17
                  replace hx283_18 := hbc HB.out hx283_18
                  have HR283_5 := mk0 hi283_5
                  have HC283_5 := mk0 hl283_5
                  clear hi283_5 hl283_5
                  have HR283_9 := mk0 hi283_9
                  have HC283_9 := mk0 hl283_9
                  clear hi283_9 hl283_9
                  have HR283_13 := mk0 hi283_13
                  have HC283_13 := mk0 hl283_13
                  clear hi283_13 hl283_13
                  have HR283_17 := mk0 hi283_17
                  have HC283_17 := mk0 hl283_17
                  clear hi283_17 hl283_17
                  have HR283_18 := mk0 hi283_18
                  have HC283_18 := mk0 hl283_18
                  clear hi283_18 hl283_18
                  replace p283 := eq_true p283
                  replace q283 := eq_true q283
                  go_wp2_with (first|((with_reducible refine gate_dst (N := 86) rfl ?_);first|(refine ldRow rfl 50 _ rfl _ rfl _ (row19 hx283_0 hx283_1 hx283_2 hx283_3 hx283_4 hx283_5 hx283_6 hx283_7 hx283_8 hx283_9 hx283_10 hx283_11 hx283_12 hx283_13 hx283_14 hx283_15 hx283_16 hx283_17 hx283_18) _ Try.underlying50 (by kernel_rfl) ?_))|((with_reducible refine gate_dst (N := 87) rfl ?_);first|(refine ldRow rfl 50 _ rfl _ rfl _ (row19 hx283_0 hx283_1 hx283_2 hx283_3 hx283_4 hx283_5 hx283_6 hx283_7 hx283_8 hx283_9 hx283_10 hx283_11 hx283_12 hx283_13 hx283_14 hx283_15 hx283_16 hx283_17 hx283_18) _ Try.underlying50 (by kernel_rfl) ?_))|((with_reducible refine gate_dst (N := 10) rfl ?_);(try (refine gate_guard (by rfl) ?_;dsimp only));refine box_event ?hg (N := 10) ?hd (cs := #[.int .i64 0,.string (⟨#[]⟩ : ByteArray),.int .i64 0,.int .i64 0,.string (⟨#[]⟩ : ByteArray),.slice none 0 0,.int .i64 0,.int .i64 0,.string (⟨#[]⟩ : ByteArray),.slice none 0 0,.int .i64 0,.int .i64 0,.string (⟨#[]⟩ : ByteArray),.slice none 0 0,.int .i64 0,.int .i64 0,.string (⟨#[]⟩ : ByteArray),.slice none 0 0,.slice none 0 0]) (t := 50) ?hr ?_;(case hd => rfl);(case hg => rfl);(case hr => first|(go_simp;done)|(go_simp;rfl));intro gb284 hg w41 hbox hb;have q_ := qB (by repeat (first|(with_reducible first|exact HB.out|apply bA|apply bN|apply bD|refine bS ?_ GE271.out)|exact HB.out)) hb;have n0_ := mk0 (blk_below (by exact kX BK271.out) hb);have n1_ := mk0 (below_step q_ hb);have n2_ := mk0 (hbox);have n3_ := mk0 (below_size2 q_ hg);have n4_ := n3_;have n5_ := mk0 ((by rw [hg];exact Nat.ne_of_lt (blk_lt (by exact kX BK271.out)) : gb271 ≠ gb284));have n6_ := mk0 ((by rw [hg];exact Nat.ne_of_gt (blk_lt (by exact kX BK271.out)) : gb284 ≠ gb271));clear BK271;clear HB;have BK271 := n0_;have HB := n1_;have BK284 := n2_;have GW284 := n3_;have GE284 := n4_;have NB271_284 := n5_;have NB284_271 := n6_;clear q_ n0_ n1_ n2_ n3_ n4_ n5_ n6_;clear hb hbox hg;have hnb42 := NB284_271.out;have hnc42 := NB271_284.out)|((with_reducible refine gate_store (t := 50) (p := 10) rfl ?_);refine store_event (t := 50) (p := 10) (v := ?vo_w43) (w1 := (((((((((((((((((((w41.setCell ⟨gb284,0,none⟩ (.int .i64 ((rd_T50 l0_18 x83_4).f0))).setCell ⟨gb284,1,none⟩ (.string ((rd_T50 l0_18 x83_4).f1))).setCell ⟨gb284,2,none⟩ (.int .i64 ((rd_T50 l0_18 x83_4).f2.f0))).setCell ⟨gb284,3,none⟩ (.int .i64 ((rd_T50 l0_18 x83_4).f2.f1))).setCell ⟨gb284,4,none⟩ (.string ((rd_T50 l0_18 x83_4).f2.f2))).setCell ⟨gb284,5,none⟩ (.slice A283_5 ((rd_T50 l0_18 x83_4).f2.f3).length c283_5)).setCell ⟨gb284,6,none⟩ (.int .i64 ((rd_T50 l0_18 x83_4).f3.f0))).setCell ⟨gb284,7,none⟩ (.int .i64 ((rd_T50 l0_18 x83_4).f3.f1))).setCell ⟨gb284,8,none⟩ (.string ((rd_T50 l0_18 x83_4).f3.f2))).setCell ⟨gb284,9,none⟩ (.slice A283_9 ((rd_T50 l0_18 x83_4).f3.f3).length c283_9)).setCell ⟨gb284,10,none⟩ (.int .i64 ((rd_T50 l0_18 x83_4).f4.f0))).setCell ⟨gb284,11,none⟩ (.int .i64 ((rd_T50 l0_18 x83_4).f4.f1))).setCell ⟨gb284,12,none⟩ (.string ((rd_T50 l0_18 x83_4).f4.f2))).setCell ⟨gb284,13,none⟩ (.slice A283_13 ((rd_T50 l0_18 x83_4).f4.f3).length c283_13)).setCell ⟨gb284,14,none⟩ (.int .i64 ((rd_T50 l0_18 x83_4).f5.f0))).setCell ⟨gb284,15,none⟩ (.int .i64 ((rd_T50 l0_18 x83_4).f5.f1))).setCell ⟨gb284,16,none⟩ (.string ((rd_T50 l0_18 x83_4).f5.f2))).setCell ⟨gb284,17,none⟩ (.slice A283_17 ((rd_T50 l0_18 x83_4).f5.f3).length c283_17)).setCell ⟨gb284,18,none⟩ (.slice A283_18 ((rd_T50 l0_18 x83_4).f6).length c283_18))) ?hg ?ho ?hn ?hr ?_;(case ho => rfl);(case hg => rfl);(case hn => rfl);(case hr => exact hrBox 50 (.tmp 10) _ rfl gb284 0 rfl [.int .i64 ((rd_T50 l0_18 x83_4).f0),.string ((rd_T50 l0_18 x83_4).f1),.int .i64 ((rd_T50 l0_18 x83_4).f2.f0),.int .i64 ((rd_T50 l0_18 x83_4).f2.f1),.string ((rd_T50 l0_18 x83_4).f2.f2),.slice A283_5 ((rd_T50 l0_18 x83_4).f2.f3).length c283_5,.int .i64 ((rd_T50 l0_18 x83_4).f3.f0),.int .i64 ((rd_T50 l0_18 x83_4).f3.f1),.string ((rd_T50 l0_18 x83_4).f3.f2),.slice A283_9 ((rd_T50 l0_18 x83_4).f3.f3).length c283_9,.int .i64 ((rd_T50 l0_18 x83_4).f4.f0),.int .i64 ((rd_T50 l0_18 x83_4).f4.f1),.string ((rd_T50 l0_18 x83_4).f4.f2),.slice A283_13 ((rd_T50 l0_18 x83_4).f4.f3).length c283_13,.int .i64 ((rd_T50 l0_18 x83_4).f5.f0),.int .i64 ((rd_T50 l0_18 x83_4).f5.f1),.string ((rd_T50 l0_18 x83_4).f5.f2),.slice A283_17 ((rd_T50 l0_18 x83_4).f5.f3).length c283_17,.slice A283_18 ((rd_T50 l0_18 x83_4).f6).length c283_18] rfl (by kernel_rfl) rfl (l := [.int .i64 0,.string (⟨#[]⟩ : ByteArray),.int .i64 0,.int .i64 0,.string (⟨#[]⟩ : ByteArray),.slice none 0 0,.int .i64 0,.int .i64 0,.string (⟨#[]⟩ : ByteArray),.slice none 0 0,.int .i64 0,.int .i64 0,.string (⟨#[]⟩ : ByteArray),.slice none 0 0,.int .i64 0,.int .i64 0,.string (⟨#[]⟩ : ByteArray),.slice none 0 0,.slice none 0 0]) BK284.out (show 0 + 19 ≤ 19 from by decide) rfl);intro w43 hw;have n0_ : Aside0 (w43.heap[gb271]? = some (.cells #[.int .i64 a0_0,.string a0_1,.int .i64 a0_2,.int .i64 a0_3,.string a0_4,.slice A0_5 l0_5.length c0_5,.int .i64 a0_6,.int .i64 a0_7,.string a0_8,.slice A0_9 l0_9.length c0_9,.int .i64 a0_10,.int .i64 a0_11,.string a0_12,.slice A0_13 l0_13.length c0_13,.int .i64 a0_14,.int .i64 a0_15,.string a0_16,.slice A0_17 l0_17.length c0_17,.slice (some ad283) l0_18.length c0_18] 50 (0,0))) := ⟨(by rw [hw];exact (by refine kX ?_;refine blk_far ?_ NB271_284.out _;refine kX ?_;refine blk_far ?_ NB271_284.out _;refine kX ?_;refine blk_far ?_ NB271_284.out _;refine kX ?_;refine blk_far ?_ NB271_284.out _;refine kX ?_;refine blk_far ?_ NB271_284.out _;refine kX ?_;refine blk_far ?_ NB271_284.out _;refine kX ?_;refine blk_far ?_ NB271_284.out _;refine kX ?_;refine blk_far ?_ NB271_284.out _;refine kX ?_;refine blk_far ?_ NB271_284.out _;refine kX ?_;refine blk_far ?_ NB271_284.out _;refine kX ?_;refine blk_far ?_ NB271_284.out _;refine kX ?_;refine blk_far ?_ NB271_284.out _;refine kX ?_;refine blk_far ?_ NB271_284.out _;refine kX ?_;refine blk_far ?_ NB271_284.out _;refine kX ?_;refine blk_far ?_ NB271_284.out _;refine kX ?_;refine blk_far ?_ NB271_284.out _;refine kX ?_;refine blk_far ?_ NB271_284.out _;refine kX ?_;refine blk_far ?_ NB271_284.out _;refine kX ?_;refine blk_far ?_ NB271_284.out _;exact kX BK271.out))⟩;have n1_ : Aside0 (w43.heap[gb284]? = some (.cells #[.int .i64 ((rd_T50 l0_18 x83_4).f0),.string ((rd_T50 l0_18 x83_4).f1),.int .i64 ((rd_T50 l0_18 x83_4).f2.f0),.int .i64 ((rd_T50 l0_18 x83_4).f2.f1),.string ((rd_T50 l0_18 x83_4).f2.f2),.slice A283_5 ((rd_T50 l0_18 x83_4).f2.f3).length c283_5,.int .i64 ((rd_T50 l0_18 x83_4).f3.f0),.int .i64 ((rd_T50 l0_18 x83_4).f3.f1),.string ((rd_T50 l0_18 x83_4).f3.f2),.slice A283_9 ((rd_T50 l0_18 x83_4).f3.f3).length c283_9,.int .i64 ((rd_T50 l0_18 x83_4).f4.f0),.int .i64 ((rd_T50 l0_18 x83_4).f4.f1),.string ((rd_T50 l0_18 x83_4).f4.f2),.slice A283_13 ((rd_T50 l0_18 x83_4).f4.f3).length c283_13,.int .i64 ((rd_T50 l0_18 x83_4).f5.f0),.int .i64 ((rd_T50 l0_18 x83_4).f5.f1),.string ((rd_T50 l0_18 x83_4).f5.f2),.slice A283_17 ((rd_T50 l0_18 x83_4).f5.f3).length c283_17,.slice A283_18 ((rd_T50 l0_18 x83_4).f6).length c283_18] 50 (0,0))) := ⟨(by rw [hw];exact (by refine kX ?_;refine blk_put (cs := #[.int .i64 ((rd_T50 l0_18 x83_4).f0),.string ((rd_T50 l0_18 x83_4).f1),.int .i64 ((rd_T50 l0_18 x83_4).f2.f0),.int .i64 ((rd_T50 l0_18 x83_4).f2.f1),.string ((rd_T50 l0_18 x83_4).f2.f2),.slice A283_5 ((rd_T50 l0_18 x83_4).f2.f3).length c283_5,.int .i64 ((rd_T50 l0_18 x83_4).f3.f0),.int .i64 ((rd_T50 l0_18 x83_4).f3.f1),.string ((rd_T50 l0_18 x83_4).f3.f2),.slice A283_9 ((rd_T50 l0_18 x83_4).f3.f3).length c283_9,.int .i64 ((rd_T50 l0_18 x83_4).f4.f0),.int .i64 ((rd_T50 l0_18 x83_4).f4.f1),.string ((rd_T50 l0_18 x83_4).f4.f2),.slice A283_13 ((rd_T50 l0_18 x83_4).f4.f3).length c283_13,.int .i64 ((rd_T50 l0_18 x83_4).f5.f0),.int .i64 ((rd_T50 l0_18 x83_4).f5.f1),.string ((rd_T50 l0_18 x83_4).f5.f2),.slice A283_17 ((rd_T50 l0_18 x83_4).f5.f3).length c283_17,.slice none 0 0]) ?_ 18 _ rfl;refine kX ?_;refine blk_put (cs := #[.int .i64 ((rd_T50 l0_18 x83_4).f0),.string ((rd_T50 l0_18 x83_4).f1),.int .i64 ((rd_T50 l0_18 x83_4).f2.f0),.int .i64 ((rd_T50 l0_18 x83_4).f2.f1),.string ((rd_T50 l0_18 x83_4).f2.f2),.slice A283_5 ((rd_T50 l0_18 x83_4).f2.f3).length c283_5,.int .i64 ((rd_T50 l0_18 x83_4).f3.f0),.int .i64 ((rd_T50 l0_18 x83_4).f3.f1),.string ((rd_T50 l0_18 x83_4).f3.f2),.slice A283_9 ((rd_T50 l0_18 x83_4).f3.f3).length c283_9,.int .i64 ((rd_T50 l0_18 x83_4).f4.f0),.int .i64 ((rd_T50 l0_18 x83_4).f4.f1),.string ((rd_T50 l0_18 x83_4).f4.f2),.slice A283_13 ((rd_T50 l0_18 x83_4).f4.f3).length c283_13,.int .i64 ((rd_T50 l0_18 x83_4).f5.f0),.int .i64 ((rd_T50 l0_18 x83_4).f5.f1),.string ((rd_T50 l0_18 x83_4).f5.f2),.slice none 0 0,.slice none 0 0]) ?_ 17 _ rfl;refine kX ?_;refine blk_put (cs := #[.int .i64 ((rd_T50 l0_18 x83_4).f0),.string ((rd_T50 l0_18 x83_4).f1),.int .i64 ((rd_T50 l0_18 x83_4).f2.f0),.int .i64 ((rd_T50 l0_18 x83_4).f2.f1),.string ((rd_T50 l0_18 x83_4).f2.f2),.slice A283_5 ((rd_T50 l0_18 x83_4).f2.f3).length c283_5,.int .i64 ((rd_T50 l0_18 x83_4).f3.f0),.int .i64 ((rd_T50 l0_18 x83_4).f3.f1),.string ((rd_T50 l0_18 x83_4).f3.f2),.slice A283_9 ((rd_T50 l0_18 x83_4).f3.f3).length c283_9,.int .i64 ((rd_T50 l0_18 x83_4).f4.f0),.int .i64 ((rd_T50 l0_18 x83_4).f4.f1),.string ((rd_T50 l0_18 x83_4).f4.f2),.slice A283_13 ((rd_T50 l0_18 x83_4).f4.f3).length c283_13,.int .i64 ((rd_T50 l0_18 x83_4).f5.f0),.int .i64 ((rd_T50 l0_18 x83_4).f5.f1),.string (⟨#[]⟩ : ByteArray),.slice none 0 0,.slice none 0 0]) ?_ 16 _ rfl;refine kX ?_;refine blk_put (cs := #[.int .i64 ((rd_T50 l0_18 x83_4).f0),.string ((rd_T50 l0_18 x83_4).f1),.int .i64 ((rd_T50 l0_18 x83_4).f2.f0),.int .i64 ((rd_T50 l0_18 x83_4).f2.f1),.string ((rd_T50 l0_18 x83_4).f2.f2),.slice A283_5 ((rd_T50 l0_18 x83_4).f2.f3).length c283_5,.int .i64 ((rd_T50 l0_18 x83_4).f3.f0),.int .i64 ((rd_T50 l0_18 x83_4).f3.f1),.string ((rd_T50 l0_18 x83_4).f3.f2),.slice A283_9 ((rd_T50 l0_18 x83_4).f3.f3).length c283_9,.int .i64 ((rd_T50 l0_18 x83_4).f4.f0),.int .i64 ((rd_T50 l0_18 x83_4).f4.f1),.string ((rd_T50 l0_18 x83_4).f4.f2),.slice A283_13 ((rd_T50 l0_18 x83_4).f4.f3).length c283_13,.int .i64 ((rd_T50 l0_18 x83_4).f5.f0),.int .i64 0,.string (⟨#[]⟩ : ByteArray),.slice none 0 0,.slice none 0 0]) ?_ 15 _ rfl;refine kX ?_;refine blk_put (cs := #[.int .i64 ((rd_T50 l0_18 x83_4).f0),.string ((rd_T50 l0_18 x83_4).f1),.int .i64 ((rd_T50 l0_18 x83_4).f2.f0),.int .i64 ((rd_T50 l0_18 x83_4).f2.f1),.string ((rd_T50 l0_18 x83_4).f2.f2),.slice A283_5 ((rd_T50 l0_18 x83_4).f2.f3).length c283_5,.int .i64 ((rd_T50 l0_18 x83_4).f3.f0),.int .i64 ((rd_T50 l0_18 x83_4).f3.f1),.string ((rd_T50 l0_18 x83_4).f3.f2),.slice A283_9 ((rd_T50 l0_18 x83_4).f3.f3).length c283_9,.int .i64 ((rd_T50 l0_18 x83_4).f4.f0),.int .i64 ((rd_T50 l0_18 x83_4).f4.f1),.string ((rd_T50 l0_18 x83_4).f4.f2),.slice A283_13 ((rd_T50 l0_18 x83_4).f4.f3).length c283_13,.int .i64 0,.int .i64 0,.string (⟨#[]⟩ : ByteArray),.slice none 0 0,.slice none 0 0]) ?_ 14 _ rfl;refine kX ?_;refine blk_put (cs := #[.int .i64 ((rd_T50 l0_18 x83_4).f0),.string ((rd_T50 l0_18 x83_4).f1),.int .i64 ((rd_T50 l0_18 x83_4).f2.f0),.int .i64 ((rd_T50 l0_18 x83_4).f2.f1),.string ((rd_T50 l0_18 x83_4).f2.f2),.slice A283_5 ((rd_T50 l0_18 x83_4).f2.f3).length c283_5,.int .i64 ((rd_T50 l0_18 x83_4).f3.f0),.int .i64 ((rd_T50 l0_18 x83_4).f3.f1),.string ((rd_T50 l0_18 x83_4).f3.f2),.slice A283_9 ((rd_T50 l0_18 x83_4).f3.f3).length c283_9,.int .i64 ((rd_T50 l0_18 x83_4).f4.f0),.int .i64 ((rd_T50 l0_18 x83_4).f4.f1),.string ((rd_T50 l0_18 x83_4).f4.f2),.slice none 0 0,.int .i64 0,.int .i64 0,.string (⟨#[]⟩ : ByteArray),.slice none 0 0,.slice none 0 0]) ?_ 13 _ rfl;refine kX ?_;refine blk_put (cs := #[.int .i64 ((rd_T50 l0_18 x83_4).f0),.string ((rd_T50 l0_18 x83_4).f1),.int .i64 ((rd_T50 l0_18 x83_4).f2.f0),.int .i64 ((rd_T50 l0_18 x83_4).f2.f1),.string ((rd_T50 l0_18 x83_4).f2.f2),.slice A283_5 ((rd_T50 l0_18 x83_4).f2.f3).length c283_5,.int .i64 ((rd_T50 l0_18 x83_4).f3.f0),.int .i64 ((rd_T50 l0_18 x83_4).f3.f1),.string ((rd_T50 l0_18 x83_4).f3.f2),.slice A283_9 ((rd_T50 l0_18 x83_4).f3.f3).length c283_9,.int .i64 ((rd_T50 l0_18 x83_4).f4.f0),.int .i64 ((rd_T50 l0_18 x83_4).f4.f1),.string (⟨#[]⟩ : ByteArray),.slice none 0 0,.int .i64 0,.int .i64 0,.string (⟨#[]⟩ : ByteArray),.slice none 0 0,.slice none 0 0]) ?_ 12 _ rfl;refine kX ?_;refine blk_put (cs := #[.int .i64 ((rd_T50 l0_18 x83_4).f0),.string ((rd_T50 l0_18 x83_4).f1),.int .i64 ((rd_T50 l0_18 x83_4).f2.f0),.int .i64 ((rd_T50 l0_18 x83_4).f2.f1),.string ((rd_T50 l0_18 x83_4).f2.f2),.slice A283_5 ((rd_T50 l0_18 x83_4).f2.f3).length c283_5,.int .i64 ((rd_T50 l0_18 x83_4).f3.f0),.int .i64 ((rd_T50 l0_18 x83_4).f3.f1),.string ((rd_T50 l0_18 x83_4).f3.f2),.slice A283_9 ((rd_T50 l0_18 x83_4).f3.f3).length c283_9,.int .i64 ((rd_T50 l0_18 x83_4).f4.f0),.int .i64 0,.string (⟨#[]⟩ : ByteArray),.slice none 0 0,.int .i64 0,.int .i64 0,.string (⟨#[]⟩ : ByteArray),.slice none 0 0,.slice none 0 0]) ?_ 11 _ rfl;refine kX ?_;refine blk_put (cs := #[.int .i64 ((rd_T50 l0_18 x83_4).f0),.string ((rd_T50 l0_18 x83_4).f1),.int .i64 ((rd_T50 l0_18 x83_4).f2.f0),.int .i64 ((rd_T50 l0_18 x83_4).f2.f1),.string ((rd_T50 l0_18 x83_4).f2.f2),.slice A283_5 ((rd_T50 l0_18 x83_4).f2.f3).length c283_5,.int .i64 ((rd_T50 l0_18 x83_4).f3.f0),.int .i64 ((rd_T50 l0_18 x83_4).f3.f1),.string ((rd_T50 l0_18 x83_4).f3.f2),.slice A283_9 ((rd_T50 l0_18 x83_4).f3.f3).length c283_9,.int .i64 0,.int .i64 0,.string (⟨#[]⟩ : ByteArray),.slice none 0 0,.int .i64 0,.int .i64 0,.string (⟨#[]⟩ : ByteArray),.slice none 0 0,.slice none 0 0]) ?_ 10 _ rfl;refine kX ?_;refine blk_put (cs := #[.int .i64 ((rd_T50 l0_18 x83_4).f0),.string ((rd_T50 l0_18 x83_4).f1),.int .i64 ((rd_T50 l0_18 x83_4).f2.f0),.int .i64 ((rd_T50 l0_18 x83_4).f2.f1),.string ((rd_T50 l0_18 x83_4).f2.f2),.slice A283_5 ((rd_T50 l0_18 x83_4).f2.f3).length c283_5,.int .i64 ((rd_T50 l0_18 x83_4).f3.f0),.int .i64 ((rd_T50 l0_18 x83_4).f3.f1),.string ((rd_T50 l0_18 x83_4).f3.f2),.slice none 0 0,.int .i64 0,.int .i64 0,.string (⟨#[]⟩ : ByteArray),.slice none 0 0,.int .i64 0,.int .i64 0,.string (⟨#[]⟩ : ByteArray),.slice none 0 0,.slice none 0 0]) ?_ 9 _ rfl;refine kX ?_;refine blk_put (cs := #[.int .i64 ((rd_T50 l0_18 x83_4).f0),.string ((rd_T50 l0_18 x83_4).f1),.int .i64 ((rd_T50 l0_18 x83_4).f2.f0),.int .i64 ((rd_T50 l0_18 x83_4).f2.f1),.string ((rd_T50 l0_18 x83_4).f2.f2),.slice A283_5 ((rd_T50 l0_18 x83_4).f2.f3).length c283_5,.int .i64 ((rd_T50 l0_18 x83_4).f3.f0),.int .i64 ((rd_T50 l0_18 x83_4).f3.f1),.string (⟨#[]⟩ : ByteArray),.slice none 0 0,.int .i64 0,.int .i64 0,.string (⟨#[]⟩ : ByteArray),.slice none 0 0,.int .i64 0,.int .i64 0,.string (⟨#[]⟩ : ByteArray),.slice none 0 0,.slice none 0 0]) ?_ 8 _ rfl;refine kX ?_;refine blk_put (cs := #[.int .i64 ((rd_T50 l0_18 x83_4).f0),.string ((rd_T50 l0_18 x83_4).f1),.int .i64 ((rd_T50 l0_18 x83_4).f2.f0),.int .i64 ((rd_T50 l0_18 x83_4).f2.f1),.string ((rd_T50 l0_18 x83_4).f2.f2),.slice A283_5 ((rd_T50 l0_18 x83_4).f2.f3).length c283_5,.int .i64 ((rd_T50 l0_18 x83_4).f3.f0),.int .i64 0,.string (⟨#[]⟩ : ByteArray),.slice none 0 0,.int .i64 0,.int .i64 0,.string (⟨#[]⟩ : ByteArray),.slice none 0 0,.int .i64 0,.int .i64 0,.string (⟨#[]⟩ : ByteArray),.slice none 0 0,.slice none 0 0]) ?_ 7 _ rfl;refine kX ?_;refine blk_put (cs := #[.int .i64 ((rd_T50 l0_18 x83_4).f0),.string ((rd_T50 l0_18 x83_4).f1),.int .i64 ((rd_T50 l0_18 x83_4).f2.f0),.int .i64 ((rd_T50 l0_18 x83_4).f2.f1),.string ((rd_T50 l0_18 x83_4).f2.f2),.slice A283_5 ((rd_T50 l0_18 x83_4).f2.f3).length c283_5,.int .i64 0,.int .i64 0,.string (⟨#[]⟩ : ByteArray),.slice none 0 0,.int .i64 0,.int .i64 0,.string (⟨#[]⟩ : ByteArray),.slice none 0 0,.int .i64 0,.int .i64 0,.string (⟨#[]⟩ : ByteArray),.slice none 0 0,.slice none 0 0]) ?_ 6 _ rfl;refine kX ?_;refine blk_put (cs := #[.int .i64 ((rd_T50 l0_18 x83_4).f0),.string ((rd_T50 l0_18 x83_4).f1),.int .i64 ((rd_T50 l0_18 x83_4).f2.f0),.int .i64 ((rd_T50 l0_18 x83_4).f2.f1),.string ((rd_T50 l0_18 x83_4).f2.f2),.slice none 0 0,.int .i64 0,.int .i64 0,.string (⟨#[]⟩ : ByteArray),.slice none 0 0,.int .i64 0,.int .i64 0,.string (⟨#[]⟩ : ByteArray),.slice none 0 0,.int .i64 0,.int .i64 0,.string (⟨#[]⟩ : ByteArray),.slice none 0 0,.slice none 0 0]) ?_ 5 _ rfl;refine kX ?_;refine blk_put (cs := #[.int .i64 ((rd_T50 l0_18 x83_4).f0),.string ((rd_T50 l0_18 x83_4).f1),.int .i64 ((rd_T50 l0_18 x83_4).f2.f0),.int .i64 ((rd_T50 l0_18 x83_4).f2.f1),.string (⟨#[]⟩ : ByteArray),.slice none 0 0,.int .i64 0,.int .i64 0,.string (⟨#[]⟩ : ByteArray),.slice none 0 0,.int .i64 0,.int .i64 0,.string (⟨#[]⟩ : ByteArray),.slice none 0 0,.int .i64 0,.int .i64 0,.string (⟨#[]⟩ : ByteArray),.slice none 0 0,.slice none 0 0]) ?_ 4 _ rfl;refine kX ?_;refine blk_put (cs := #[.int .i64 ((rd_T50 l0_18 x83_4).f0),.string ((rd_T50 l0_18 x83_4).f1),.int .i64 ((rd_T50 l0_18 x83_4).f2.f0),.int .i64 0,.string (⟨#[]⟩ : ByteArray),.slice none 0 0,.int .i64 0,.int .i64 0,.string (⟨#[]⟩ : ByteArray),.slice none 0 0,.int .i64 0,.int .i64 0,.string (⟨#[]⟩ : ByteArray),.slice none 0 0,.int .i64 0,.int .i64 0,.string (⟨#[]⟩ : ByteArray),.slice none 0 0,.slice none 0 0]) ?_ 3 _ rfl;refine kX ?_;refine blk_put (cs := #[.int .i64 ((rd_T50 l0_18 x83_4).f0),.string ((rd_T50 l0_18 x83_4).f1),.int .i64 0,.int .i64 0,.string (⟨#[]⟩ : ByteArray),.slice none 0 0,.int .i64 0,.int .i64 0,.string (⟨#[]⟩ : ByteArray),.slice none 0 0,.int .i64 0,.int .i64 0,.string (⟨#[]⟩ : ByteArray),.slice none 0 0,.int .i64 0,.int .i64 0,.string (⟨#[]⟩ : ByteArray),.slice none 0 0,.slice none 0 0]) ?_ 2 _ rfl;refine kX ?_;refine blk_put (cs := #[.int .i64 ((rd_T50 l0_18 x83_4).f0),.string (⟨#[]⟩ : ByteArray),.int .i64 0,.int .i64 0,.string (⟨#[]⟩ : ByteArray),.slice none 0 0,.int .i64 0,.int .i64 0,.string (⟨#[]⟩ : ByteArray),.slice none 0 0,.int .i64 0,.int .i64 0,.string (⟨#[]⟩ : ByteArray),.slice none 0 0,.int .i64 0,.int .i64 0,.string (⟨#[]⟩ : ByteArray),.slice none 0 0,.slice none 0 0]) ?_ 1 _ rfl;refine kX ?_;refine blk_put (cs := #[.int .i64 0,.string (⟨#[]⟩ : ByteArray),.int .i64 0,.int .i64 0,.string (⟨#[]⟩ : ByteArray),.slice none 0 0,.int .i64 0,.int .i64 0,.string (⟨#[]⟩ : ByteArray),.slice none 0 0,.int .i64 0,.int .i64 0,.string (⟨#[]⟩ : ByteArray),.slice none 0 0,.int .i64 0,.int .i64 0,.string (⟨#[]⟩ : ByteArray),.slice none 0 0,.slice none 0 0]) ?_ 0 _ rfl;exact kX BK284.out))⟩;have n2_ : Aside0 (Below w.heap.size w w43) := ⟨(by rw [hw];exact (by repeat (first|(with_reducible first|exact HB.out|apply bA|apply bN|apply bD|refine bS ?_ GE271.out|refine bS ?_ GE284.out)|exact HB.out)))⟩;clear hw;clear BK271;clear BK284;clear HB;have BK271 := n0_;have BK284 := n1_;have HB := n2_;clear n0_ n1_ n2_)|((with_reducible refine gate_dst (N := 87) rfl ?_);(try (refine gate_guard (by rfl) ?_;dsimp only));refine ldBox rfl 50 _ rfl gb284 0 rfl (l := [.int .i64 ((rd_T50 l0_18 x83_4).f0),.string ((rd_T50 l0_18 x83_4).f1),.int .i64 ((rd_T50 l0_18 x83_4).f2.f0),.int .i64 ((rd_T50 l0_18 x83_4).f2.f1),.string ((rd_T50 l0_18 x83_4).f2.f2),.slice A283_5 ((rd_T50 l0_18 x83_4).f2.f3).length c283_5,.int .i64 ((rd_T50 l0_18 x83_4).f3.f0),.int .i64 ((rd_T50 l0_18 x83_4).f3.f1),.string ((rd_T50 l0_18 x83_4).f3.f2),.slice A283_9 ((rd_T50 l0_18 x83_4).f3.f3).length c283_9,.int .i64 ((rd_T50 l0_18 x83_4).f4.f0),.int .i64 ((rd_T50 l0_18 x83_4).f4.f1),.string ((rd_T50 l0_18 x83_4).f4.f2),.slice A283_13 ((rd_T50 l0_18 x83_4).f4.f3).length c283_13,.int .i64 ((rd_T50 l0_18 x83_4).f5.f0),.int .i64 ((rd_T50 l0_18 x83_4).f5.f1),.string ((rd_T50 l0_18 x83_4).f5.f2),.slice A283_17 ((rd_T50 l0_18 x83_4).f5.f3).length c283_17,.slice A283_18 ((rd_T50 l0_18 x83_4).f6).length c283_18]) (tb := 50) (by exact kX BK284.out) [.int .i64 ((rd_T50 l0_18 x83_4).f0),.string ((rd_T50 l0_18 x83_4).f1),.int .i64 ((rd_T50 l0_18 x83_4).f2.f0),.int .i64 ((rd_T50 l0_18 x83_4).f2.f1),.string ((rd_T50 l0_18 x83_4).f2.f2),.slice A283_5 ((rd_T50 l0_18 x83_4).f2.f3).length c283_5,.int .i64 ((rd_T50 l0_18 x83_4).f3.f0),.int .i64 ((rd_T50 l0_18 x83_4).f3.f1),.string ((rd_T50 l0_18 x83_4).f3.f2),.slice A283_9 ((rd_T50 l0_18 x83_4).f3.f3).length c283_9,.int .i64 ((rd_T50 l0_18 x83_4).f4.f0),.int .i64 ((rd_T50 l0_18 x83_4).f4.f1),.string ((rd_T50 l0_18 x83_4).f4.f2),.slice A283_13 ((rd_T50 l0_18 x83_4).f4.f3).length c283_13,.int .i64 ((rd_T50 l0_18 x83_4).f5.f0),.int .i64 ((rd_T50 l0_18 x83_4).f5.f1),.string ((rd_T50 l0_18 x83_4).f5.f2),.slice A283_17 ((rd_T50 l0_18 x83_4).f5.f3).length c283_17,.slice A283_18 ((rd_T50 l0_18 x83_4).f6).length c283_18] rfl _ hu50 (by kernel_rfl) ?_)|((with_reducible refine gate_callee (f := 63) rfl ?_);refine goesL_ (some 90) rfl rfl Try.func63 (by kernel_rfl) rfl #[.agg #[.int .i64 ((rd_T50 l0_18 x83_4).f0),.string ((rd_T50 l0_18 x83_4).f1),.int .i64 ((rd_T50 l0_18 x83_4).f2.f0),.int .i64 ((rd_T50 l0_18 x83_4).f2.f1),.string ((rd_T50 l0_18 x83_4).f2.f2),.slice A283_5 ((rd_T50 l0_18 x83_4).f2.f3).length c283_5,.int .i64 ((rd_T50 l0_18 x83_4).f3.f0),.int .i64 ((rd_T50 l0_18 x83_4).f3.f1),.string ((rd_T50 l0_18 x83_4).f3.f2),.slice A283_9 ((rd_T50 l0_18 x83_4).f3.f3).length c283_9,.int .i64 ((rd_T50 l0_18 x83_4).f4.f0),.int .i64 ((rd_T50 l0_18 x83_4).f4.f1),.string ((rd_T50 l0_18 x83_4).f4.f2),.slice A283_13 ((rd_T50 l0_18 x83_4).f4.f3).length c283_13,.int .i64 ((rd_T50 l0_18 x83_4).f5.f0),.int .i64 ((rd_T50 l0_18 x83_4).f5.f1),.string ((rd_T50 l0_18 x83_4).f5.f2),.slice A283_17 ((rd_T50 l0_18 x83_4).f5.f3).length c283_17,.slice A283_18 ((rd_T50 l0_18 x83_4).f6).length c283_18],.int .i64 (wrap64 (a1 + 1))] rfl (by (try simp only [List.map_toArray,List.map_cons,List.map_nil]);first|done|rfl) ?_;(with_reducible refine (ih k4 (by have := HJ5.out;have := HJ25.out;have := HJ31.out;have := HK4.out;omega) ((rd_T50 l0_18 x83_4).f0) ((rd_T50 l0_18 x83_4).f1) ((rd_T50 l0_18 x83_4).f2.f0) ((rd_T50 l0_18 x83_4).f2.f1) ((rd_T50 l0_18 x83_4).f2.f2) _ _ ((rd_T50 l0_18 x83_4).f2.f3) ((rd_T50 l0_18 x83_4).f3.f0) ((rd_T50 l0_18 x83_4).f3.f1) ((rd_T50 l0_18 x83_4).f3.f2) _ _ ((rd_T50 l0_18 x83_4).f3.f3) ((rd_T50 l0_18 x83_4).f4.f0) ((rd_T50 l0_18 x83_4).f4.f1) ((rd_T50 l0_18 x83_4).f4.f2) _ _ ((rd_T50 l0_18 x83_4).f4.f3) ((rd_T50 l0_18 x83_4).f5.f0) ((rd_T50 l0_18 x83_4).f5.f1) ((rd_T50 l0_18 x83_4).f5.f2) _ _ ((rd_T50 l0_18 x83_4).f5.f3) _ _ ((rd_T50 l0_18 x83_4).f6) (wrap64 (a1 + 1)) true _ ?side1 ?side2 ?side3 ?side4 ?side5 ?side6 ?side7 ?side8 ?side9 ?side10 A39.out).mono ?_);(case side1 => repeat (first|exact (Kd.C_below HR283_5.out HB.out)|(with_reducible refine cA ?_ _)|(with_reducible refine cN ?_ _)|(with_reducible refine cD ?_)));(case side2 => exact HC283_5.out);(case side3 => repeat (first|exact (Kd.C_below HR283_9.out HB.out)|(with_reducible refine cA ?_ _)|(with_reducible refine cN ?_ _)|(with_reducible refine cD ?_)));(case side4 => exact HC283_9.out);(case side5 => repeat (first|exact (Kd.C_below HR283_13.out HB.out)|(with_reducible refine cA ?_ _)|(with_reducible refine cN ?_ _)|(with_reducible refine cD ?_)));(case side6 => exact HC283_13.out);(case side7 => repeat (first|exact (Kd.C_below HR283_17.out HB.out)|(with_reducible refine cA ?_ _)|(with_reducible refine cN ?_ _)|(with_reducible refine cD ?_)));(case side8 => exact HC283_17.out);(case side9 => repeat (first|exact (Kd.C_below HR283_18.out HB.out)|(with_reducible refine cA ?_ _)|(with_reducible refine cN ?_ _)|(with_reducible refine cD ?_)));(case side10 => exact HC283_18.out);rintro e w44 ⟨rfl,hb⟩;refine ⟨_,rfl,?_⟩;have n0_ := mk0 (blk_below (by exact kX BK271.out) hb);have n1_ := mk0 (blk_below (by exact kX BK284.out) hb);have n2_ := mk0 (below_step (by repeat (first|(with_reducible first|exact HB.out|apply bA|apply bN|apply bD|refine bS ?_ GE271.out|refine bS ?_ GE284.out)|exact HB.out)) hb);clear BK271;clear BK284;clear HB;have BK271 := n0_;have BK284 := n1_;have HB := n2_;clear n0_ n1_ n2_;(try clear hb);(try clear hb2);(try clear hk);(try clear hi)))
                  go_roundg k4
                  case measure => have := HJ5.out;have := HJ25.out;have := HJ31.out;have := HK4.out;omega
                  case rel => exact ⟨(wrap64 (x83_4 + 1)),(by first|rfl|(simp;done)|(simp [*];done)),H',⟨by have := HJ5.out;have := HJ25.out;have := HJ31.out;have := HK4.out;omega⟩,⟨by refine kX ?_;exact BK271.out⟩,⟨by repeat (first|(with_reducible first|exact HB.out|apply bA|apply bN|apply bD|refine bS ?_ GE271.out|refine bS ?_ GE284.out)|exact HB.out)⟩⟩
                 ·replace c40 := Bool.eq_false_iff.mpr c40
                  subst c40
                  rw [if_neg (show ¬ (false = true) by decide)] at H
                  obtain rfl := Option.some.inj H
                  have p283 : 0 ≤ (x83_4 : Int) := of_decide_eq_true (by first|(with_reducible assumption)|assumption)
                  have q283 : x83_4 < (l0_18.length : Int) := of_decide_eq_true (by first|(with_reducible assumption)|assumption)
                  obtain ⟨ad283,A283_5,c283_5,A283_9,c283_9,A283_13,c283_13,A283_17,c283_17,A283_18,c283_18,e283,hx283_0,hx283_1,hx283_2,hx283_3,hx283_4,hx283_5,hx283_6,hx283_7,hx283_8,hx283_9,hx283_10,hx283_11,hx283_12,hx283_13,hx283_14,hx283_15,hx283_16,hx283_17,hx283_18,hl283_5,hi283_5,hl283_9,hi283_9,hl283_13,hi283_13,hl283_17,hi283_17,hl283_18,hi283_18⟩ := at_T50 HR0_18.out x83_4 p283 q283
                  cases e283
                  replace hx283_0 := hbc HB.out hx283_0
                  replace hx283_1 := hbc HB.out hx283_1
                  replace hx283_2 := hbc HB.out hx283_2
                  replace hx283_3 := hbc HB.out hx283_3
                  replace hx283_4 := hbc HB.out hx283_4
                  replace hx283_5 := hbc HB.out hx283_5
                  replace hx283_6 := hbc HB.out hx283_6
                  replace hx283_7 := hbc HB.out hx283_7
                  replace hx283_8 := hbc HB.out hx283_8
                  replace hx283_9 := hbc HB.out hx283_9
                  replace hx283_10 := hbc HB.out hx283_10
                  replace hx283_11 := hbc HB.out hx283_11
                  replace hx283_12 := hbc HB.out hx283_12
                  replace hx283_13 := hbc HB.out hx283_13
                  replace hx283_14 := hbc HB.out hx283_14
                  replace hx283_15 := hbc HB.out hx283_15
                  replace hx283_16 := hbc HB.out hx283_16
                  replace hx283_17 := hbc HB.out hx283_17
                  replace hx283_18 := hbc HB.out hx283_18
                  have HR283_5 := mk0 hi283_5
                  have HC283_5 := mk0 hl283_5
                  clear hi283_5 hl283_5
                  have HR283_9 := mk0 hi283_9
                  have HC283_9 := mk0 hl283_9
                  clear hi283_9 hl283_9
                  have HR283_13 := mk0 hi283_13
                  have HC283_13 := mk0 hl283_13
                  clear hi283_13 hl283_13
                  have HR283_17 := mk0 hi283_17
                  have HC283_17 := mk0 hl283_17
                  clear hi283_17 hl283_17
                  have HR283_18 := mk0 hi283_18
                  have HC283_18 := mk0 hl283_18
                  clear hi283_18 hl283_18
                  replace p283 := eq_true p283
                  replace q283 := eq_true q283
                  go_wp2_with (first|((with_reducible refine gate_dst (N := 86) rfl ?_);first|(refine ldRow rfl 50 _ rfl _ rfl _ (row19 hx283_0 hx283_1 hx283_2 hx283_3 hx283_4 hx283_5 hx283_6 hx283_7 hx283_8 hx283_9 hx283_10 hx283_11 hx283_12 hx283_13 hx283_14 hx283_15 hx283_16 hx283_17 hx283_18) _ Try.underlying50 (by kernel_rfl) ?_))|((with_reducible refine gate_dst (N := 87) rfl ?_);first|(refine ldRow rfl 50 _ rfl _ rfl _ (row19 hx283_0 hx283_1 hx283_2 hx283_3 hx283_4 hx283_5 hx283_6 hx283_7 hx283_8 hx283_9 hx283_10 hx283_11 hx283_12 hx283_13 hx283_14 hx283_15 hx283_16 hx283_17 hx283_18) _ Try.underlying50 (by kernel_rfl) ?_))|((with_reducible refine gate_dst (N := 10) rfl ?_);(try (refine gate_guard (by rfl) ?_;dsimp only));refine box_event ?hg (N := 10) ?hd (cs := #[.int .i64 0,.string (⟨#[]⟩ : ByteArray),.int .i64 0,.int .i64 0,.string (⟨#[]⟩ : ByteArray),.slice none 0 0,.int .i64 0,.int .i64 0,.string (⟨#[]⟩ : ByteArray),.slice none 0 0,.int .i64 0,.int .i64 0,.string (⟨#[]⟩ : ByteArray),.slice none 0 0,.int .i64 0,.int .i64 0,.string (⟨#[]⟩ : ByteArray),.slice none 0 0,.slice none 0 0]) (t := 50) ?hr ?_;(case hd => rfl);(case hg => rfl);(case hr => first|(go_simp;done)|(go_simp;rfl));intro gb284 hg w45 hbox hb;have q_ := qB (by repeat (first|(with_reducible first|exact HB.out|apply bA|apply bN|apply bD|refine bS ?_ GE271.out)|exact HB.out)) hb;have n0_ := mk0 (blk_below (by exact kX BK271.out) hb);have n1_ := mk0 (below_step q_ hb);have n2_ := mk0 (hbox);have n3_ := mk0 (below_size2 q_ hg);have n4_ := n3_;have n5_ := mk0 ((by rw [hg];exact Nat.ne_of_lt (blk_lt (by exact kX BK271.out)) : gb271 ≠ gb284));have n6_ := mk0 ((by rw [hg];exact Nat.ne_of_gt (blk_lt (by exact kX BK271.out)) : gb284 ≠ gb271));clear BK271;clear HB;have BK271 := n0_;have HB := n1_;have BK284 := n2_;have GW284 := n3_;have GE284 := n4_;have NB271_284 := n5_;have NB284_271 := n6_;clear q_ n0_ n1_ n2_ n3_ n4_ n5_ n6_;clear hb hbox hg;have hnb46 := NB284_271.out;have hnc46 := NB271_284.out)|((with_reducible refine gate_store (t := 50) (p := 10) rfl ?_);refine store_event (t := 50) (p := 10) (v := ?vo_w47) (w1 := (((((((((((((((((((w45.setCell ⟨gb284,0,none⟩ (.int .i64 ((rd_T50 l0_18 x83_4).f0))).setCell ⟨gb284,1,none⟩ (.string ((rd_T50 l0_18 x83_4).f1))).setCell ⟨gb284,2,none⟩ (.int .i64 ((rd_T50 l0_18 x83_4).f2.f0))).setCell ⟨gb284,3,none⟩ (.int .i64 ((rd_T50 l0_18 x83_4).f2.f1))).setCell ⟨gb284,4,none⟩ (.string ((rd_T50 l0_18 x83_4).f2.f2))).setCell ⟨gb284,5,none⟩ (.slice A283_5 ((rd_T50 l0_18 x83_4).f2.f3).length c283_5)).setCell ⟨gb284,6,none⟩ (.int .i64 ((rd_T50 l0_18 x83_4).f3.f0))).setCell ⟨gb284,7,none⟩ (.int .i64 ((rd_T50 l0_18 x83_4).f3.f1))).setCell ⟨gb284,8,none⟩ (.string ((rd_T50 l0_18 x83_4).f3.f2))).setCell ⟨gb284,9,none⟩ (.slice A283_9 ((rd_T50 l0_18 x83_4).f3.f3).length c283_9)).setCell ⟨gb284,10,none⟩ (.int .i64 ((rd_T50 l0_18 x83_4).f4.f0))).setCell ⟨gb284,11,none⟩ (.int .i64 ((rd_T50 l0_18 x83_4).f4.f1))).setCell ⟨gb284,12,none⟩ (.string ((rd_T50 l0_18 x83_4).f4.f2))).setCell ⟨gb284,13,none⟩ (.slice A283_13 ((rd_T50 l0_18 x83_4).f4.f3).length c283_13)).setCell ⟨gb284,14,none⟩ (.int .i64 ((rd_T50 l0_18 x83_4).f5.f0))).setCell ⟨gb284,15,none⟩ (.int .i64 ((rd_T50 l0_18 x83_4).f5.f1))).setCell ⟨gb284,16,none⟩ (.string ((rd_T50 l0_18 x83_4).f5.f2))).setCell ⟨gb284,17,none⟩ (.slice A283_17 ((rd_T50 l0_18 x83_4).f5.f3).length c283_17)).setCell ⟨gb284,18,none⟩ (.slice A283_18 ((rd_T50 l0_18 x83_4).f6).length c283_18))) ?hg ?ho ?hn ?hr ?_;(case ho => rfl);(case hg => rfl);(case hn => rfl);(case hr => exact hrBox 50 (.tmp 10) _ rfl gb284 0 rfl [.int .i64 ((rd_T50 l0_18 x83_4).f0),.string ((rd_T50 l0_18 x83_4).f1),.int .i64 ((rd_T50 l0_18 x83_4).f2.f0),.int .i64 ((rd_T50 l0_18 x83_4).f2.f1),.string ((rd_T50 l0_18 x83_4).f2.f2),.slice A283_5 ((rd_T50 l0_18 x83_4).f2.f3).length c283_5,.int .i64 ((rd_T50 l0_18 x83_4).f3.f0),.int .i64 ((rd_T50 l0_18 x83_4).f3.f1),.string ((rd_T50 l0_18 x83_4).f3.f2),.slice A283_9 ((rd_T50 l0_18 x83_4).f3.f3).length c283_9,.int .i64 ((rd_T50 l0_18 x83_4).f4.f0),.int .i64 ((rd_T50 l0_18 x83_4).f4.f1),.string ((rd_T50 l0_18 x83_4).f4.f2),.slice A283_13 ((rd_T50 l0_18 x83_4).f4.f3).length c283_13,.int .i64 ((rd_T50 l0_18 x83_4).f5.f0),.int .i64 ((rd_T50 l0_18 x83_4).f5.f1),.string ((rd_T50 l0_18 x83_4).f5.f2),.slice A283_17 ((rd_T50 l0_18 x83_4).f5.f3).length c283_17,.slice A283_18 ((rd_T50 l0_18 x83_4).f6).length c283_18] rfl (by kernel_rfl) rfl (l := [.int .i64 0,.string (⟨#[]⟩ : ByteArray),.int .i64 0,.int .i64 0,.string (⟨#[]⟩ : ByteArray),.slice none 0 0,.int .i64 0,.int .i64 0,.string (⟨#[]⟩ : ByteArray),.slice none 0 0,.int .i64 0,.int .i64 0,.string (⟨#[]⟩ : ByteArray),.slice none 0 0,.int .i64 0,.int .i64 0,.string (⟨#[]⟩ : ByteArray),.slice none 0 0,.slice none 0 0]) BK284.out (show 0 + 19 ≤ 19 from by decide) rfl);intro w47 hw;have n0_ : Aside0 (w47.heap[gb271]? = some (.cells #[.int .i64 a0_0,.string a0_1,.int .i64 a0_2,.int .i64 a0_3,.string a0_4,.slice A0_5 l0_5.length c0_5,.int .i64 a0_6,.int .i64 a0_7,.string a0_8,.slice A0_9 l0_9.length c0_9,.int .i64 a0_10,.int .i64 a0_11,.string a0_12,.slice A0_13 l0_13.length c0_13,.int .i64 a0_14,.int .i64 a0_15,.string a0_16,.slice A0_17 l0_17.length c0_17,.slice (some ad283) l0_18.length c0_18] 50 (0,0))) := ⟨(by rw [hw];exact (by refine kX ?_;refine blk_far ?_ NB271_284.out _;refine kX ?_;refine blk_far ?_ NB271_284.out _;refine kX ?_;refine blk_far ?_ NB271_284.out _;refine kX ?_;refine blk_far ?_ NB271_284.out _;refine kX ?_;refine blk_far ?_ NB271_284.out _;refine kX ?_;refine blk_far ?_ NB271_284.out _;refine kX ?_;refine blk_far ?_ NB271_284.out _;refine kX ?_;refine blk_far ?_ NB271_284.out _;refine kX ?_;refine blk_far ?_ NB271_284.out _;refine kX ?_;refine blk_far ?_ NB271_284.out _;refine kX ?_;refine blk_far ?_ NB271_284.out _;refine kX ?_;refine blk_far ?_ NB271_284.out _;refine kX ?_;refine blk_far ?_ NB271_284.out _;refine kX ?_;refine blk_far ?_ NB271_284.out _;refine kX ?_;refine blk_far ?_ NB271_284.out _;refine kX ?_;refine blk_far ?_ NB271_284.out _;refine kX ?_;refine blk_far ?_ NB271_284.out _;refine kX ?_;refine blk_far ?_ NB271_284.out _;refine kX ?_;refine blk_far ?_ NB271_284.out _;exact kX BK271.out))⟩;have n1_ : Aside0 (w47.heap[gb284]? = some (.cells #[.int .i64 ((rd_T50 l0_18 x83_4).f0),.string ((rd_T50 l0_18 x83_4).f1),.int .i64 ((rd_T50 l0_18 x83_4).f2.f0),.int .i64 ((rd_T50 l0_18 x83_4).f2.f1),.string ((rd_T50 l0_18 x83_4).f2.f2),.slice A283_5 ((rd_T50 l0_18 x83_4).f2.f3).length c283_5,.int .i64 ((rd_T50 l0_18 x83_4).f3.f0),.int .i64 ((rd_T50 l0_18 x83_4).f3.f1),.string ((rd_T50 l0_18 x83_4).f3.f2),.slice A283_9 ((rd_T50 l0_18 x83_4).f3.f3).length c283_9,.int .i64 ((rd_T50 l0_18 x83_4).f4.f0),.int .i64 ((rd_T50 l0_18 x83_4).f4.f1),.string ((rd_T50 l0_18 x83_4).f4.f2),.slice A283_13 ((rd_T50 l0_18 x83_4).f4.f3).length c283_13,.int .i64 ((rd_T50 l0_18 x83_4).f5.f0),.int .i64 ((rd_T50 l0_18 x83_4).f5.f1),.string ((rd_T50 l0_18 x83_4).f5.f2),.slice A283_17 ((rd_T50 l0_18 x83_4).f5.f3).length c283_17,.slice A283_18 ((rd_T50 l0_18 x83_4).f6).length c283_18] 50 (0,0))) := ⟨(by rw [hw];exact (by refine kX ?_;refine blk_put (cs := #[.int .i64 ((rd_T50 l0_18 x83_4).f0),.string ((rd_T50 l0_18 x83_4).f1),.int .i64 ((rd_T50 l0_18 x83_4).f2.f0),.int .i64 ((rd_T50 l0_18 x83_4).f2.f1),.string ((rd_T50 l0_18 x83_4).f2.f2),.slice A283_5 ((rd_T50 l0_18 x83_4).f2.f3).length c283_5,.int .i64 ((rd_T50 l0_18 x83_4).f3.f0),.int .i64 ((rd_T50 l0_18 x83_4).f3.f1),.string ((rd_T50 l0_18 x83_4).f3.f2),.slice A283_9 ((rd_T50 l0_18 x83_4).f3.f3).length c283_9,.int .i64 ((rd_T50 l0_18 x83_4).f4.f0),.int .i64 ((rd_T50 l0_18 x83_4).f4.f1),.string ((rd_T50 l0_18 x83_4).f4.f2),.slice A283_13 ((rd_T50 l0_18 x83_4).f4.f3).length c283_13,.int .i64 ((rd_T50 l0_18 x83_4).f5.f0),.int .i64 ((rd_T50 l0_18 x83_4).f5.f1),.string ((rd_T50 l0_18 x83_4).f5.f2),.slice A283_17 ((rd_T50 l0_18 x83_4).f5.f3).length c283_17,.slice none 0 0]) ?_ 18 _ rfl;refine kX ?_;refine blk_put (cs := #[.int .i64 ((rd_T50 l0_18 x83_4).f0),.string ((rd_T50 l0_18 x83_4).f1),.int .i64 ((rd_T50 l0_18 x83_4).f2.f0),.int .i64 ((rd_T50 l0_18 x83_4).f2.f1),.string ((rd_T50 l0_18 x83_4).f2.f2),.slice A283_5 ((rd_T50 l0_18 x83_4).f2.f3).length c283_5,.int .i64 ((rd_T50 l0_18 x83_4).f3.f0),.int .i64 ((rd_T50 l0_18 x83_4).f3.f1),.string ((rd_T50 l0_18 x83_4).f3.f2),.slice A283_9 ((rd_T50 l0_18 x83_4).f3.f3).length c283_9,.int .i64 ((rd_T50 l0_18 x83_4).f4.f0),.int .i64 ((rd_T50 l0_18 x83_4).f4.f1),.string ((rd_T50 l0_18 x83_4).f4.f2),.slice A283_13 ((rd_T50 l0_18 x83_4).f4.f3).length c283_13,.int .i64 ((rd_T50 l0_18 x83_4).f5.f0),.int .i64 ((rd_T50 l0_18 x83_4).f5.f1),.string ((rd_T50 l0_18 x83_4).f5.f2),.slice none 0 0,.slice none 0 0]) ?_ 17 _ rfl;refine kX ?_;refine blk_put (cs := #[.int .i64 ((rd_T50 l0_18 x83_4).f0),.string ((rd_T50 l0_18 x83_4).f1),.int .i64 ((rd_T50 l0_18 x83_4).f2.f0),.int .i64 ((rd_T50 l0_18 x83_4).f2.f1),.string ((rd_T50 l0_18 x83_4).f2.f2),.slice A283_5 ((rd_T50 l0_18 x83_4).f2.f3).length c283_5,.int .i64 ((rd_T50 l0_18 x83_4).f3.f0),.int .i64 ((rd_T50 l0_18 x83_4).f3.f1),.string ((rd_T50 l0_18 x83_4).f3.f2),.slice A283_9 ((rd_T50 l0_18 x83_4).f3.f3).length c283_9,.int .i64 ((rd_T50 l0_18 x83_4).f4.f0),.int .i64 ((rd_T50 l0_18 x83_4).f4.f1),.string ((rd_T50 l0_18 x83_4).f4.f2),.slice A283_13 ((rd_T50 l0_18 x83_4).f4.f3).length c283_13,.int .i64 ((rd_T50 l0_18 x83_4).f5.f0),.int .i64 ((rd_T50 l0_18 x83_4).f5.f1),.string (⟨#[]⟩ : ByteArray),.slice none 0 0,.slice none 0 0]) ?_ 16 _ rfl;refine kX ?_;refine blk_put (cs := #[.int .i64 ((rd_T50 l0_18 x83_4).f0),.string ((rd_T50 l0_18 x83_4).f1),.int .i64 ((rd_T50 l0_18 x83_4).f2.f0),.int .i64 ((rd_T50 l0_18 x83_4).f2.f1),.string ((rd_T50 l0_18 x83_4).f2.f2),.slice A283_5 ((rd_T50 l0_18 x83_4).f2.f3).length c283_5,.int .i64 ((rd_T50 l0_18 x83_4).f3.f0),.int .i64 ((rd_T50 l0_18 x83_4).f3.f1),.string ((rd_T50 l0_18 x83_4).f3.f2),.slice A283_9 ((rd_T50 l0_18 x83_4).f3.f3).length c283_9,.int .i64 ((rd_T50 l0_18 x83_4).f4.f0),.int .i64 ((rd_T50 l0_18 x83_4).f4.f1),.string ((rd_T50 l0_18 x83_4).f4.f2),.slice A283_13 ((rd_T50 l0_18 x83_4).f4.f3).length c283_13,.int .i64 ((rd_T50 l0_18 x83_4).f5.f0),.int .i64 0,.string (⟨#[]⟩ : ByteArray),.slice none 0 0,.slice none 0 0]) ?_ 15 _ rfl;refine kX ?_;refine blk_put (cs := #[.int .i64 ((rd_T50 l0_18 x83_4).f0),.string ((rd_T50 l0_18 x83_4).f1),.int .i64 ((rd_T50 l0_18 x83_4).f2.f0),.int .i64 ((rd_T50 l0_18 x83_4).f2.f1),.string ((rd_T50 l0_18 x83_4).f2.f2),.slice A283_5 ((rd_T50 l0_18 x83_4).f2.f3).length c283_5,.int .i64 ((rd_T50 l0_18 x83_4).f3.f0),.int .i64 ((rd_T50 l0_18 x83_4).f3.f1),.string ((rd_T50 l0_18 x83_4).f3.f2),.slice A283_9 ((rd_T50 l0_18 x83_4).f3.f3).length c283_9,.int .i64 ((rd_T50 l0_18 x83_4).f4.f0),.int .i64 ((rd_T50 l0_18 x83_4).f4.f1),.string ((rd_T50 l0_18 x83_4).f4.f2),.slice A283_13 ((rd_T50 l0_18 x83_4).f4.f3).length c283_13,.int .i64 0,.int .i64 0,.string (⟨#[]⟩ : ByteArray),.slice none 0 0,.slice none 0 0]) ?_ 14 _ rfl;refine kX ?_;refine blk_put (cs := #[.int .i64 ((rd_T50 l0_18 x83_4).f0),.string ((rd_T50 l0_18 x83_4).f1),.int .i64 ((rd_T50 l0_18 x83_4).f2.f0),.int .i64 ((rd_T50 l0_18 x83_4).f2.f1),.string ((rd_T50 l0_18 x83_4).f2.f2),.slice A283_5 ((rd_T50 l0_18 x83_4).f2.f3).length c283_5,.int .i64 ((rd_T50 l0_18 x83_4).f3.f0),.int .i64 ((rd_T50 l0_18 x83_4).f3.f1),.string ((rd_T50 l0_18 x83_4).f3.f2),.slice A283_9 ((rd_T50 l0_18 x83_4).f3.f3).length c283_9,.int .i64 ((rd_T50 l0_18 x83_4).f4.f0),.int .i64 ((rd_T50 l0_18 x83_4).f4.f1),.string ((rd_T50 l0_18 x83_4).f4.f2),.slice none 0 0,.int .i64 0,.int .i64 0,.string (⟨#[]⟩ : ByteArray),.slice none 0 0,.slice none 0 0]) ?_ 13 _ rfl;refine kX ?_;refine blk_put (cs := #[.int .i64 ((rd_T50 l0_18 x83_4).f0),.string ((rd_T50 l0_18 x83_4).f1),.int .i64 ((rd_T50 l0_18 x83_4).f2.f0),.int .i64 ((rd_T50 l0_18 x83_4).f2.f1),.string ((rd_T50 l0_18 x83_4).f2.f2),.slice A283_5 ((rd_T50 l0_18 x83_4).f2.f3).length c283_5,.int .i64 ((rd_T50 l0_18 x83_4).f3.f0),.int .i64 ((rd_T50 l0_18 x83_4).f3.f1),.string ((rd_T50 l0_18 x83_4).f3.f2),.slice A283_9 ((rd_T50 l0_18 x83_4).f3.f3).length c283_9,.int .i64 ((rd_T50 l0_18 x83_4).f4.f0),.int .i64 ((rd_T50 l0_18 x83_4).f4.f1),.string (⟨#[]⟩ : ByteArray),.slice none 0 0,.int .i64 0,.int .i64 0,.string (⟨#[]⟩ : ByteArray),.slice none 0 0,.slice none 0 0]) ?_ 12 _ rfl;refine kX ?_;refine blk_put (cs := #[.int .i64 ((rd_T50 l0_18 x83_4).f0),.string ((rd_T50 l0_18 x83_4).f1),.int .i64 ((rd_T50 l0_18 x83_4).f2.f0),.int .i64 ((rd_T50 l0_18 x83_4).f2.f1),.string ((rd_T50 l0_18 x83_4).f2.f2),.slice A283_5 ((rd_T50 l0_18 x83_4).f2.f3).length c283_5,.int .i64 ((rd_T50 l0_18 x83_4).f3.f0),.int .i64 ((rd_T50 l0_18 x83_4).f3.f1),.string ((rd_T50 l0_18 x83_4).f3.f2),.slice A283_9 ((rd_T50 l0_18 x83_4).f3.f3).length c283_9,.int .i64 ((rd_T50 l0_18 x83_4).f4.f0),.int .i64 0,.string (⟨#[]⟩ : ByteArray),.slice none 0 0,.int .i64 0,.int .i64 0,.string (⟨#[]⟩ : ByteArray),.slice none 0 0,.slice none 0 0]) ?_ 11 _ rfl;refine kX ?_;refine blk_put (cs := #[.int .i64 ((rd_T50 l0_18 x83_4).f0),.string ((rd_T50 l0_18 x83_4).f1),.int .i64 ((rd_T50 l0_18 x83_4).f2.f0),.int .i64 ((rd_T50 l0_18 x83_4).f2.f1),.string ((rd_T50 l0_18 x83_4).f2.f2),.slice A283_5 ((rd_T50 l0_18 x83_4).f2.f3).length c283_5,.int .i64 ((rd_T50 l0_18 x83_4).f3.f0),.int .i64 ((rd_T50 l0_18 x83_4).f3.f1),.string ((rd_T50 l0_18 x83_4).f3.f2),.slice A283_9 ((rd_T50 l0_18 x83_4).f3.f3).length c283_9,.int .i64 0,.int .i64 0,.string (⟨#[]⟩ : ByteArray),.slice none 0 0,.int .i64 0,.int .i64 0,.string (⟨#[]⟩ : ByteArray),.slice none 0 0,.slice none 0 0]) ?_ 10 _ rfl;refine kX ?_;refine blk_put (cs := #[.int .i64 ((rd_T50 l0_18 x83_4).f0),.string ((rd_T50 l0_18 x83_4).f1),.int .i64 ((rd_T50 l0_18 x83_4).f2.f0),.int .i64 ((rd_T50 l0_18 x83_4).f2.f1),.string ((rd_T50 l0_18 x83_4).f2.f2),.slice A283_5 ((rd_T50 l0_18 x83_4).f2.f3).length c283_5,.int .i64 ((rd_T50 l0_18 x83_4).f3.f0),.int .i64 ((rd_T50 l0_18 x83_4).f3.f1),.string ((rd_T50 l0_18 x83_4).f3.f2),.slice none 0 0,.int .i64 0,.int .i64 0,.string (⟨#[]⟩ : ByteArray),.slice none 0 0,.int .i64 0,.int .i64 0,.string (⟨#[]⟩ : ByteArray),.slice none 0 0,.slice none 0 0]) ?_ 9 _ rfl;refine kX ?_;refine blk_put (cs := #[.int .i64 ((rd_T50 l0_18 x83_4).f0),.string ((rd_T50 l0_18 x83_4).f1),.int .i64 ((rd_T50 l0_18 x83_4).f2.f0),.int .i64 ((rd_T50 l0_18 x83_4).f2.f1),.string ((rd_T50 l0_18 x83_4).f2.f2),.slice A283_5 ((rd_T50 l0_18 x83_4).f2.f3).length c283_5,.int .i64 ((rd_T50 l0_18 x83_4).f3.f0),.int .i64 ((rd_T50 l0_18 x83_4).f3.f1),.string (⟨#[]⟩ : ByteArray),.slice none 0 0,.int .i64 0,.int .i64 0,.string (⟨#[]⟩ : ByteArray),.slice none 0 0,.int .i64 0,.int .i64 0,.string (⟨#[]⟩ : ByteArray),.slice none 0 0,.slice none 0 0]) ?_ 8 _ rfl;refine kX ?_;refine blk_put (cs := #[.int .i64 ((rd_T50 l0_18 x83_4).f0),.string ((rd_T50 l0_18 x83_4).f1),.int .i64 ((rd_T50 l0_18 x83_4).f2.f0),.int .i64 ((rd_T50 l0_18 x83_4).f2.f1),.string ((rd_T50 l0_18 x83_4).f2.f2),.slice A283_5 ((rd_T50 l0_18 x83_4).f2.f3).length c283_5,.int .i64 ((rd_T50 l0_18 x83_4).f3.f0),.int .i64 0,.string (⟨#[]⟩ : ByteArray),.slice none 0 0,.int .i64 0,.int .i64 0,.string (⟨#[]⟩ : ByteArray),.slice none 0 0,.int .i64 0,.int .i64 0,.string (⟨#[]⟩ : ByteArray),.slice none 0 0,.slice none 0 0]) ?_ 7 _ rfl;refine kX ?_;refine blk_put (cs := #[.int .i64 ((rd_T50 l0_18 x83_4).f0),.string ((rd_T50 l0_18 x83_4).f1),.int .i64 ((rd_T50 l0_18 x83_4).f2.f0),.int .i64 ((rd_T50 l0_18 x83_4).f2.f1),.string ((rd_T50 l0_18 x83_4).f2.f2),.slice A283_5 ((rd_T50 l0_18 x83_4).f2.f3).length c283_5,.int .i64 0,.int .i64 0,.string (⟨#[]⟩ : ByteArray),.slice none 0 0,.int .i64 0,.int .i64 0,.string (⟨#[]⟩ : ByteArray),.slice none 0 0,.int .i64 0,.int .i64 0,.string (⟨#[]⟩ : ByteArray),.slice none 0 0,.slice none 0 0]) ?_ 6 _ rfl;refine kX ?_;refine blk_put (cs := #[.int .i64 ((rd_T50 l0_18 x83_4).f0),.string ((rd_T50 l0_18 x83_4).f1),.int .i64 ((rd_T50 l0_18 x83_4).f2.f0),.int .i64 ((rd_T50 l0_18 x83_4).f2.f1),.string ((rd_T50 l0_18 x83_4).f2.f2),.slice none 0 0,.int .i64 0,.int .i64 0,.string (⟨#[]⟩ : ByteArray),.slice none 0 0,.int .i64 0,.int .i64 0,.string (⟨#[]⟩ : ByteArray),.slice none 0 0,.int .i64 0,.int .i64 0,.string (⟨#[]⟩ : ByteArray),.slice none 0 0,.slice none 0 0]) ?_ 5 _ rfl;refine kX ?_;refine blk_put (cs := #[.int .i64 ((rd_T50 l0_18 x83_4).f0),.string ((rd_T50 l0_18 x83_4).f1),.int .i64 ((rd_T50 l0_18 x83_4).f2.f0),.int .i64 ((rd_T50 l0_18 x83_4).f2.f1),.string (⟨#[]⟩ : ByteArray),.slice none 0 0,.int .i64 0,.int .i64 0,.string (⟨#[]⟩ : ByteArray),.slice none 0 0,.int .i64 0,.int .i64 0,.string (⟨#[]⟩ : ByteArray),.slice none 0 0,.int .i64 0,.int .i64 0,.string (⟨#[]⟩ : ByteArray),.slice none 0 0,.slice none 0 0]) ?_ 4 _ rfl;refine kX ?_;refine blk_put (cs := #[.int .i64 ((rd_T50 l0_18 x83_4).f0),.string ((rd_T50 l0_18 x83_4).f1),.int .i64 ((rd_T50 l0_18 x83_4).f2.f0),.int .i64 0,.string (⟨#[]⟩ : ByteArray),.slice none 0 0,.int .i64 0,.int .i64 0,.string (⟨#[]⟩ : ByteArray),.slice none 0 0,.int .i64 0,.int .i64 0,.string (⟨#[]⟩ : ByteArray),.slice none 0 0,.int .i64 0,.int .i64 0,.string (⟨#[]⟩ : ByteArray),.slice none 0 0,.slice none 0 0]) ?_ 3 _ rfl;refine kX ?_;refine blk_put (cs := #[.int .i64 ((rd_T50 l0_18 x83_4).f0),.string ((rd_T50 l0_18 x83_4).f1),.int .i64 0,.int .i64 0,.string (⟨#[]⟩ : ByteArray),.slice none 0 0,.int .i64 0,.int .i64 0,.string (⟨#[]⟩ : ByteArray),.slice none 0 0,.int .i64 0,.int .i64 0,.string (⟨#[]⟩ : ByteArray),.slice none 0 0,.int .i64 0,.int .i64 0,.string (⟨#[]⟩ : ByteArray),.slice none 0 0,.slice none 0 0]) ?_ 2 _ rfl;refine kX ?_;refine blk_put (cs := #[.int .i64 ((rd_T50 l0_18 x83_4).f0),.string (⟨#[]⟩ : ByteArray),.int .i64 0,.int .i64 0,.string (⟨#[]⟩ : ByteArray),.slice none 0 0,.int .i64 0,.int .i64 0,.string (⟨#[]⟩ : ByteArray),.slice none 0 0,.int .i64 0,.int .i64 0,.string (⟨#[]⟩ : ByteArray),.slice none 0 0,.int .i64 0,.int .i64 0,.string (⟨#[]⟩ : ByteArray),.slice none 0 0,.slice none 0 0]) ?_ 1 _ rfl;refine kX ?_;refine blk_put (cs := #[.int .i64 0,.string (⟨#[]⟩ : ByteArray),.int .i64 0,.int .i64 0,.string (⟨#[]⟩ : ByteArray),.slice none 0 0,.int .i64 0,.int .i64 0,.string (⟨#[]⟩ : ByteArray),.slice none 0 0,.int .i64 0,.int .i64 0,.string (⟨#[]⟩ : ByteArray),.slice none 0 0,.int .i64 0,.int .i64 0,.string (⟨#[]⟩ : ByteArray),.slice none 0 0,.slice none 0 0]) ?_ 0 _ rfl;exact kX BK284.out))⟩;have n2_ : Aside0 (Below w.heap.size w w47) := ⟨(by rw [hw];exact (by repeat (first|(with_reducible first|exact HB.out|apply bA|apply bN|apply bD|refine bS ?_ GE271.out|refine bS ?_ GE284.out)|exact HB.out)))⟩;clear hw;clear BK271;clear BK284;clear HB;have BK271 := n0_;have BK284 := n1_;have HB := n2_;clear n0_ n1_ n2_)|((with_reducible refine gate_dst (N := 87) rfl ?_);(try (refine gate_guard (by rfl) ?_;dsimp only));refine ldBox rfl 50 _ rfl gb284 0 rfl (l := [.int .i64 ((rd_T50 l0_18 x83_4).f0),.string ((rd_T50 l0_18 x83_4).f1),.int .i64 ((rd_T50 l0_18 x83_4).f2.f0),.int .i64 ((rd_T50 l0_18 x83_4).f2.f1),.string ((rd_T50 l0_18 x83_4).f2.f2),.slice A283_5 ((rd_T50 l0_18 x83_4).f2.f3).length c283_5,.int .i64 ((rd_T50 l0_18 x83_4).f3.f0),.int .i64 ((rd_T50 l0_18 x83_4).f3.f1),.string ((rd_T50 l0_18 x83_4).f3.f2),.slice A283_9 ((rd_T50 l0_18 x83_4).f3.f3).length c283_9,.int .i64 ((rd_T50 l0_18 x83_4).f4.f0),.int .i64 ((rd_T50 l0_18 x83_4).f4.f1),.string ((rd_T50 l0_18 x83_4).f4.f2),.slice A283_13 ((rd_T50 l0_18 x83_4).f4.f3).length c283_13,.int .i64 ((rd_T50 l0_18 x83_4).f5.f0),.int .i64 ((rd_T50 l0_18 x83_4).f5.f1),.string ((rd_T50 l0_18 x83_4).f5.f2),.slice A283_17 ((rd_T50 l0_18 x83_4).f5.f3).length c283_17,.slice A283_18 ((rd_T50 l0_18 x83_4).f6).length c283_18]) (tb := 50) (by exact kX BK284.out) [.int .i64 ((rd_T50 l0_18 x83_4).f0),.string ((rd_T50 l0_18 x83_4).f1),.int .i64 ((rd_T50 l0_18 x83_4).f2.f0),.int .i64 ((rd_T50 l0_18 x83_4).f2.f1),.string ((rd_T50 l0_18 x83_4).f2.f2),.slice A283_5 ((rd_T50 l0_18 x83_4).f2.f3).length c283_5,.int .i64 ((rd_T50 l0_18 x83_4).f3.f0),.int .i64 ((rd_T50 l0_18 x83_4).f3.f1),.string ((rd_T50 l0_18 x83_4).f3.f2),.slice A283_9 ((rd_T50 l0_18 x83_4).f3.f3).length c283_9,.int .i64 ((rd_T50 l0_18 x83_4).f4.f0),.int .i64 ((rd_T50 l0_18 x83_4).f4.f1),.string ((rd_T50 l0_18 x83_4).f4.f2),.slice A283_13 ((rd_T50 l0_18 x83_4).f4.f3).length c283_13,.int .i64 ((rd_T50 l0_18 x83_4).f5.f0),.int .i64 ((rd_T50 l0_18 x83_4).f5.f1),.string ((rd_T50 l0_18 x83_4).f5.f2),.slice A283_17 ((rd_T50 l0_18 x83_4).f5.f3).length c283_17,.slice A283_18 ((rd_T50 l0_18 x83_4).f6).length c283_18] rfl _ hu50 (by kernel_rfl) ?_)|((with_reducible refine gate_callee (f := 63) rfl ?_);refine goesL_ (some 90) rfl rfl Try.func63 (by kernel_rfl) rfl #[.agg #[.int .i64 ((rd_T50 l0_18 x83_4).f0),.string ((rd_T50 l0_18 x83_4).f1),.int .i64 ((rd_T50 l0_18 x83_4).f2.f0),.int .i64 ((rd_T50 l0_18 x83_4).f2.f1),.string ((rd_T50 l0_18 x83_4).f2.f2),.slice A283_5 ((rd_T50 l0_18 x83_4).f2.f3).length c283_5,.int .i64 ((rd_T50 l0_18 x83_4).f3.f0),.int .i64 ((rd_T50 l0_18 x83_4).f3.f1),.string ((rd_T50 l0_18 x83_4).f3.f2),.slice A283_9 ((rd_T50 l0_18 x83_4).f3.f3).length c283_9,.int .i64 ((rd_T50 l0_18 x83_4).f4.f0),.int .i64 ((rd_T50 l0_18 x83_4).f4.f1),.string ((rd_T50 l0_18 x83_4).f4.f2),.slice A283_13 ((rd_T50 l0_18 x83_4).f4.f3).length c283_13,.int .i64 ((rd_T50 l0_18 x83_4).f5.f0),.int .i64 ((rd_T50 l0_18 x83_4).f5.f1),.string ((rd_T50 l0_18 x83_4).f5.f2),.slice A283_17 ((rd_T50 l0_18 x83_4).f5.f3).length c283_17,.slice A283_18 ((rd_T50 l0_18 x83_4).f6).length c283_18],.int .i64 (wrap64 (a1 + 1))] rfl (by (try simp only [List.map_toArray,List.map_cons,List.map_nil]);first|done|rfl) ?_;(with_reducible refine (ih k4 (by have := HJ5.out;have := HJ25.out;have := HJ31.out;have := HK4.out;omega) ((rd_T50 l0_18 x83_4).f0) ((rd_T50 l0_18 x83_4).f1) ((rd_T50 l0_18 x83_4).f2.f0) ((rd_T50 l0_18 x83_4).f2.f1) ((rd_T50 l0_18 x83_4).f2.f2) _ _ ((rd_T50 l0_18 x83_4).f2.f3) ((rd_T50 l0_18 x83_4).f3.f0) ((rd_T50 l0_18 x83_4).f3.f1) ((rd_T50 l0_18 x83_4).f3.f2) _ _ ((rd_T50 l0_18 x83_4).f3.f3) ((rd_T50 l0_18 x83_4).f4.f0) ((rd_T50 l0_18 x83_4).f4.f1) ((rd_T50 l0_18 x83_4).f4.f2) _ _ ((rd_T50 l0_18 x83_4).f4.f3) ((rd_T50 l0_18 x83_4).f5.f0) ((rd_T50 l0_18 x83_4).f5.f1) ((rd_T50 l0_18 x83_4).f5.f2) _ _ ((rd_T50 l0_18 x83_4).f5.f3) _ _ ((rd_T50 l0_18 x83_4).f6) (wrap64 (a1 + 1)) false _ ?side1 ?side2 ?side3 ?side4 ?side5 ?side6 ?side7 ?side8 ?side9 ?side10 A39.out).mono ?_);(case side1 => repeat (first|exact (Kd.C_below HR283_5.out HB.out)|(with_reducible refine cA ?_ _)|(with_reducible refine cN ?_ _)|(with_reducible refine cD ?_)));(case side2 => exact HC283_5.out);(case side3 => repeat (first|exact (Kd.C_below HR283_9.out HB.out)|(with_reducible refine cA ?_ _)|(with_reducible refine cN ?_ _)|(with_reducible refine cD ?_)));(case side4 => exact HC283_9.out);(case side5 => repeat (first|exact (Kd.C_below HR283_13.out HB.out)|(with_reducible refine cA ?_ _)|(with_reducible refine cN ?_ _)|(with_reducible refine cD ?_)));(case side6 => exact HC283_13.out);(case side7 => repeat (first|exact (Kd.C_below HR283_17.out HB.out)|(with_reducible refine cA ?_ _)|(with_reducible refine cN ?_ _)|(with_reducible refine cD ?_)));(case side8 => exact HC283_17.out);(case side9 => repeat (first|exact (Kd.C_below HR283_18.out HB.out)|(with_reducible refine cA ?_ _)|(with_reducible refine cN ?_ _)|(with_reducible refine cD ?_)));(case side10 => exact HC283_18.out);rintro e w48 ⟨rfl,hb⟩;refine ⟨_,rfl,?_⟩;have n0_ := mk0 (blk_below (by exact kX BK271.out) hb);have n1_ := mk0 (blk_below (by exact kX BK284.out) hb);have n2_ := mk0 (below_step (by repeat (first|(with_reducible first|exact HB.out|apply bA|apply bN|apply bD|refine bS ?_ GE271.out|refine bS ?_ GE284.out)|exact HB.out)) hb);clear BK271;clear BK284;clear HB;have BK271 := n0_;have BK284 := n1_;have HB := n2_;clear n0_ n1_ n2_;(try clear hb);(try clear hb2);(try clear hk);(try clear hi)))
                  go_ret
                  exact ⟨by first|rfl|(simp [errW_none,errW_some] <;> rfl)|(simp [*,errW_none,errW_some] <;> rfl),by repeat (first|(with_reducible first|exact HB.out|apply bA|apply bN|apply bD|refine bS ?_ GE271.out|refine bS ?_ GE284.out)|exact HB.out)⟩
                ·rw [if_neg c38] at H
                 exact absurd H (by simp)
               ·rw [if_neg c37] at H
                exact absurd H (by simp)
              ·rw [if_neg c36] at H
               have c36b0 : decide (x83_4 < (l0_18.length : Int)) = false := decide_eq_false c36
               clear c36
               obtain rfl := Option.some.inj H
               go_wp2
               go_ret
               exact ⟨by first|rfl|(simp [errW_none,errW_some] <;> rfl)|(simp [*,errW_none,errW_some] <;> rfl),by repeat (first|(with_reducible first|exact HB.out|apply bA|apply bN|apply bD|refine bS ?_ GE271.out)|exact HB.out)⟩
        ·replace c31 := Bool.eq_false_iff.mpr c31
         subst c31
         rw [if_neg (show ¬ (false = true) by decide)] at H
         obtain rfl := Option.some.inj H
         go_wp2_with (first|((with_reducible refine gate_dst (N := 68) rfl ?_);(try (refine gate_guard (by rfl) ?_;dsimp only));refine ldOne rfl 48 _ rfl gb271 18 rfl (l := [.int .i64 a0_0,.string a0_1,.int .i64 a0_2,.int .i64 a0_3,.string a0_4,.slice A0_5 l0_5.length c0_5,.int .i64 a0_6,.int .i64 a0_7,.string a0_8,.slice A0_9 l0_9.length c0_9,.int .i64 a0_10,.int .i64 a0_11,.string a0_12,.slice A0_13 l0_13.length c0_13,.int .i64 a0_14,.int .i64 a0_15,.string a0_16,.slice A0_17 l0_17.length c0_17,.slice A0_18 l0_18.length c0_18]) (tb := 50) (by exact kX BK271.out) (.slice A0_18 l0_18.length c0_18) rfl (fun _ => by kernel_rfl) ?_))
         go_ret
         exact ⟨by first|rfl|(simp [errW_none,errW_some] <;> rfl)|(simp [*,errW_none,errW_some] <;> rfl),by repeat (first|(with_reducible first|exact HB.out|apply bA|apply bN|apply bD|refine bS ?_ GE271.out)|exact HB.out)⟩
 ·replace c4 := Bool.eq_false_iff.mpr c4
  subst c4
  rw [if_neg (show ¬ (false = true) by decide)] at H
  obtain rfl := Option.some.inj H
  go_enter Try.func63,Try.ntmps63
  go_wp2_with (first|((with_reducible refine gate_dst (N := 2) rfl ?_);(try (refine gate_guard (by rfl) ?_;dsimp only));refine box_event ?hg (N := 2) ?hd (cs := #[.int .i64 a0_0,.string a0_1,.int .i64 a0_2,.int .i64 a0_3,.string a0_4,.slice A0_5 l0_5.length c0_5,.int .i64 a0_6,.int .i64 a0_7,.string a0_8,.slice A0_9 l0_9.length c0_9,.int .i64 a0_10,.int .i64 a0_11,.string a0_12,.slice A0_13 l0_13.length c0_13,.int .i64 a0_14,.int .i64 a0_15,.string a0_16,.slice A0_17 l0_17.length c0_17,.slice A0_18 l0_18.length c0_18]) (t := 50) ?hr ?_;(case hd => rfl);(case hg => rfl);(case hr => first|(go_simp;done)|(go_simp;rfl));intro gb271 hg w49 hbox hb;have q_ := qB (by repeat (first|(with_reducible first|exact HB.out|apply bA|apply bN|apply bD)|exact HB.out)) hb;have n0_ := mk0 (below_step q_ hb);have n1_ := mk0 (hbox);have n2_ := mk0 (below_size2 q_ hg);have n3_ := n2_;clear HB;have HB := n0_;have BK271 := n1_;have GW271 := n2_;have GE271 := n3_;clear q_ n0_ n1_ n2_ n3_;clear hb hbox hg)|((with_reducible refine gate_dst (N := 12) rfl ?_);(try (refine gate_guard (by rfl) ?_;dsimp only));refine ldOne rfl 3 _ rfl gb271 0 rfl (l := [.int .i64 a0_0,.string a0_1,.int .i64 a0_2,.int .i64 a0_3,.string a0_4,.slice A0_5 l0_5.length c0_5,.int .i64 a0_6,.int .i64 a0_7,.string a0_8,.slice A0_9 l0_9.length c0_9,.int .i64 a0_10,.int .i64 a0_11,.string a0_12,.slice A0_13 l0_13.length c0_13,.int .i64 a0_14,.int .i64 a0_15,.string a0_16,.slice A0_17 l0_17.length c0_17,.slice A0_18 l0_18.length c0_18]) (tb := 50) (by exact kX BK271.out) (.int .i64 a0_0) rfl (fun _ => by kernel_rfl) ?_)|((with_reducible refine gate_callee (f := 56) rfl ?_);refine goesL_ (some 13) rfl rfl Try.func56 (by kernel_rfl) rfl #[.int .i64 a0_0,.int .i64 1,.int .i64 4] rfl (by (try simp only [List.map_toArray,List.map_cons,List.map_nil]);first|done|rfl) ?_;(with_reducible refine (impl_inRange.calls a0_0 1 4 false _ A3.out).mono ?_);rintro e w' ⟨rfl,⟨nd,rfl⟩⟩;refine ⟨_,rfl,?_⟩))
  go_ret
  exact ⟨by first|rfl|(simp [errW_none,errW_some] <;> rfl)|(simp [*,errW_none,errW_some] <;> rfl),by repeat (first|(with_reducible first|exact HB.out|apply bA|apply bN|apply bD|refine bS ?_ GE271.out)|exact HB.out)⟩

/-! ### impl_StmtOk: function 28 -/
def impl_StmtOk.f (k : Nat) (a0_0 : Int) (a0_1 : ByteArray) (a0_2 : Int) (a0_3 : Int) (a0_4 : ByteArray) (l0_5 : List (S29)) (a0_6 : Int) (a0_7 : Int) (a0_8 : ByteArray) (l0_9 : List (S29)) (a0_10 : Int) (a0_11 : Int) (a0_12 : ByteArray) (l0_13 : List (S29)) (a0_14 : Int) (a0_15 : Int) (a0_16 : ByteArray) (l0_17 : List (S29)) (l0_18 : List (S50)) : Option (Bool) := (impl_Stmt_isRight.f k a0_0 a0_1 a0_2 a0_3 a0_4 l0_5 a0_6 a0_7 a0_8 l0_9 a0_10 a0_11 a0_12 l0_13 a0_14 a0_15 a0_16 l0_17 l0_18 0).bind fun t287 => (if t287 = true then ((impl_Size.f k (([(⟨a0_0,a0_1,(⟨a0_2,a0_3,a0_4,l0_5⟩ : S29),(⟨a0_6,a0_7,a0_8,l0_9⟩ : S29),(⟨a0_10,a0_11,a0_12,l0_13⟩ : S29),(⟨a0_14,a0_15,a0_16,l0_17⟩ : S29),l0_18⟩ : S50)] : List (S50)))).bind fun t291 => (some (decide (t291 ≤ 40)))) else (some false))
theorem impl_StmtOk.mono : ∀ a0 a1 a2 a3 a4 a5 a6 a7 a8 a9 a10 a11 a12 a13 a14 a15 a16 a17 a18 k, LeO (impl_StmtOk.f k a0 a1 a2 a3 a4 a5 a6 a7 a8 a9 a10 a11 a12 a13 a14 a15 a16 a17 a18) (impl_StmtOk.f (k + 1) a0 a1 a2 a3 a4 a5 a6 a7 a8 a9 a10 a11 a12 a13 a14 a15 a16 a17 a18) := by
 intro a0 a1 a2 a3 a4 a5 a6 a7 a8 a9 a10 a11 a12 a13 a14 a15 a16 a17 a18 k
 unfold impl_StmtOk.f
 repeat' first
   | (with_reducible exact impl_Size.mono _ _)
   | (with_reducible exact impl_Stmt_isRight.mono _ _ _ _ _ _ _ _ _ _ _ _ _ _ _ _ _ _ _ _ _)
   | (with_reducible exact LeO.refl _)
   | (with_reducible exact LeO.none _)
   | (with_reducible refine LeO.ite ?_ ?_)
   | (with_reducible refine LeO.bind ?_ (fun _ => ?_))
   | exact impl_Size.mono _ _
   | exact impl_Stmt_isRight.mono _ _ _ _ _ _ _ _ _ _ _ _ _ _ _ _ _ _ _ _ _
   | exact LeO.none _
   | refine LeO.ite ?_ ?_
   | refine LeO.bind ?_ (fun _ => ?_)
set_option maxHeartbeats 8000000 in
set_option maxRecDepth 100000 in
theorem impl_StmtOk.calls (k : Nat) (a0_0 : Int) (a0_1 : ByteArray) (a0_2 : Int) (a0_3 : Int) (a0_4 : ByteArray) (P0_5_ : Nat → Prop) (A0_5 : Option Addr) (c0_5 : Nat) (l0_5 : List (S29)) (a0_6 : Int) (a0_7 : Int) (a0_8 : ByteArray) (P0_9_ : Nat → Prop) (A0_9 : Option Addr) (c0_9 : Nat) (l0_9 : List (S29)) (a0_10 : Int) (a0_11 : Int) (a0_12 : ByteArray) (P0_13_ : Nat → Prop) (A0_13 : Option Addr) (c0_13 : Nat) (l0_13 : List (S29)) (a0_14 : Int) (a0_15 : Int) (a0_16 : ByteArray) (P0_17_ : Nat → Prop) (A0_17 : Option Addr) (c0_17 : Nat) (l0_17 : List (S29)) (P0_18_ : Nat → Prop) (A0_18 : Option Addr) (c0_18 : Nat) (l0_18 : List (S50)) (r : Bool) (w : World) (hs0_5 : Kd.V k29 29 w w.heap.size (fun k_ => P0_5_ k_) (.slice A0_5 l0_5.length c0_5) l0_5) (hs0_9 : Kd.V k29 29 w w.heap.size (fun k_ => P0_9_ k_) (.slice A0_9 l0_9.length c0_9) l0_9) (hs0_13 : Kd.V k29 29 w w.heap.size (fun k_ => P0_13_ k_) (.slice A0_13 l0_13.length c0_13) l0_13) (hs0_17 : Kd.V k29 29 w w.heap.size (fun k_ => P0_17_ k_) (.slice A0_17 l0_17.length c0_17) l0_17) (hs0_18 : Kd.V k50 50 w w.heap.size (fun k_ => P0_18_ k_) (.slice A0_18 l0_18.length c0_18) l0_18) (h : impl_StmtOk.f k a0_0 a0_1 a0_2 a0_3 a0_4 l0_5 a0_6 a0_7 a0_8 l0_9 a0_10 a0_11 a0_12 l0_13 a0_14 a0_15 a0_16 l0_17 l0_18 = some r) :
  Calls Try.prog 28 #[.agg #[.int .i64 a0_0, .string a0_1, .int .i64 a0_2, .int .i64 a0_3, .string a0_4, .slice A0_5 l0_5.length c0_5, .int .i64 a0_6, .int .i64 a0_7, .string a0_8, .slice A0_9 l0_9.length c0_9, .int .i64 a0_10, .int .i64 a0_11, .string a0_12, .slice A0_13 l0_13.length c0_13, .int .i64 a0_14, .int .i64 a0_15, .string a0_16, .slice A0_17 l0_17.length c0_17, .slice A0_18 l0_18.length c0_18]] w fun e w' => e = .returned (.bool r) ∧ Below w.heap.size w w' := by
 have hu50 := Try.underlying50
 have HO0_5 := mk0 (show Kd.V k29 29 w w.heap.size (fun k_ => ((P0_5_ k_ ∨ P0_9_ k_ ∨ P0_13_ k_ ∨ P0_17_ k_ ∨ P0_18_ k_) ∨ w.heap.size ≤ k_)) (.slice A0_5 l0_5.length c0_5) l0_5 from Kd.V_mono hs0_5 (fun k_ hk => .inl (.inl hk)))
 have HO0_9 := mk0 (show Kd.V k29 29 w w.heap.size (fun k_ => ((P0_5_ k_ ∨ P0_9_ k_ ∨ P0_13_ k_ ∨ P0_17_ k_ ∨ P0_18_ k_) ∨ w.heap.size ≤ k_)) (.slice A0_9 l0_9.length c0_9) l0_9 from Kd.V_mono hs0_9 (fun k_ hk => .inl (.inr (.inl hk))))
 have HO0_13 := mk0 (show Kd.V k29 29 w w.heap.size (fun k_ => ((P0_5_ k_ ∨ P0_9_ k_ ∨ P0_13_ k_ ∨ P0_17_ k_ ∨ P0_18_ k_) ∨ w.heap.size ≤ k_)) (.slice A0_13 l0_13.length c0_13) l0_13 from Kd.V_mono hs0_13 (fun k_ hk => .inl (.inr (.inr (.inl hk)))))
 have HO0_17 := mk0 (show Kd.V k29 29 w w.heap.size (fun k_ => ((P0_5_ k_ ∨ P0_9_ k_ ∨ P0_13_ k_ ∨ P0_17_ k_ ∨ P0_18_ k_) ∨ w.heap.size ≤ k_)) (.slice A0_17 l0_17.length c0_17) l0_17 from Kd.V_mono hs0_17 (fun k_ hk => .inl (.inr (.inr (.inr (.inl hk))))))
 have HO0_18 := mk0 (show Kd.V k50 50 w w.heap.size (fun k_ => ((P0_5_ k_ ∨ P0_9_ k_ ∨ P0_13_ k_ ∨ P0_17_ k_ ∨ P0_18_ k_) ∨ w.heap.size ≤ k_)) (.slice A0_18 l0_18.length c0_18) l0_18 from Kd.V_mono hs0_18 (fun k_ hk => .inl (.inr (.inr (.inr (.inr hk))))))
 have HB := mk0 (Below.refl w.heap.size w)
 have H : ((impl_Stmt_isRight.f k a0_0 a0_1 a0_2 a0_3 a0_4 l0_5 a0_6 a0_7 a0_8 l0_9 a0_10 a0_11 a0_12 l0_13 a0_14 a0_15 a0_16 l0_17 l0_18 0).bind fun t287 => (if t287 = true then ((impl_Size.f k (([(⟨a0_0,a0_1,(⟨a0_2,a0_3,a0_4,l0_5⟩ : S29),(⟨a0_6,a0_7,a0_8,l0_9⟩ : S29),(⟨a0_10,a0_11,a0_12,l0_13⟩ : S29),(⟨a0_14,a0_15,a0_16,l0_17⟩ : S29),l0_18⟩ : S50)] : List (S50)))).bind fun t291 => (some (decide (t291 ≤ 40)))) else (some false))) = some r := h
 clear h
 obtain ⟨t287,A2,H⟩ := bindA H
 refine Or.elim (Classical.em (t287 = true)) (fun c3 => ?yes30) (fun c3 => ?no30)
 case' yes30 =>
  subst c3
  rw [if_pos rfl] at H
  obtain ⟨y288,hy288⟩ : ∃ y_ : List (S50),y_ = (([(⟨a0_0,a0_1,(⟨a0_2,a0_3,a0_4,l0_5⟩ : S29),(⟨a0_6,a0_7,a0_8,l0_9⟩ : S29),(⟨a0_10,a0_11,a0_12,l0_13⟩ : S29),(⟨a0_14,a0_15,a0_16,l0_17⟩ : S29),l0_18⟩ : S50)] : List (S50))) := ⟨_,rfl⟩
  replace H : ((impl_Size.f k y288).bind fun t291 => (some (decide (t291 ≤ 40)))) = some r := by first|(rw [hy288];with_reducible exact H)|(have H2_ := (Option.bind_some _ _).symm.trans H;rw [hy288];with_reducible exact H2_)|(have H2_ := (Option.bind_some _ _).symm.trans H;with_reducible exact H2_)|with_reducible exact H|(rw [hy288];exact H)|exact H
  have Ny288 := mk0 hy288
  clear hy288
  obtain ⟨t291,A4,H⟩ := bindA H
  obtain rfl := Option.some.inj H
 case' no30 =>
  replace c3 := Bool.eq_false_iff.mpr c3
  subst c3
  rw [if_neg (show ¬ (false = true) by decide)] at H
  obtain rfl := Option.some.inj H
 all_goals
  go_enter Try.func28,Try.ntmps28
  go_wp2_with (first|((with_reducible refine gate_dst (N := 1) rfl ?_);(try (refine gate_guard (by rfl) ?_;dsimp only));refine box_event ?hg (N := 1) ?hd (cs := #[.int .i64 a0_0,.string a0_1,.int .i64 a0_2,.int .i64 a0_3,.string a0_4,.slice A0_5 l0_5.length c0_5,.int .i64 a0_6,.int .i64 a0_7,.string a0_8,.slice A0_9 l0_9.length c0_9,.int .i64 a0_10,.int .i64 a0_11,.string a0_12,.slice A0_13 l0_13.length c0_13,.int .i64 a0_14,.int .i64 a0_15,.string a0_16,.slice A0_17 l0_17.length c0_17,.slice A0_18 l0_18.length c0_18]) (t := 50) ?hr ?_;(case hd => rfl);(case hg => rfl);(case hr => first|(go_simp;done)|(go_simp;rfl));intro gb286 hg w5 hbox hb;have q_ := qB (by repeat (first|(with_reducible first|exact HB.out|apply bA|apply bN|apply bD)|exact HB.out)) hb;have n0_ := mk0 (Kd.V_below (Kd.V_elderB (by (with_reducible repeat (first|apply Kd.V_alloc|apply Kd.V_drewN|apply Kd.V_drew));exact HO0_5.out) gb286 (Nat.le_of_eq hg.symm)) hb);have n1_ := mk0 (Kd.V_below (Kd.V_elderB (by (with_reducible repeat (first|apply Kd.V_alloc|apply Kd.V_drewN|apply Kd.V_drew));exact HO0_9.out) gb286 (Nat.le_of_eq hg.symm)) hb);have n2_ := mk0 (Kd.V_below (Kd.V_elderB (by (with_reducible repeat (first|apply Kd.V_alloc|apply Kd.V_drewN|apply Kd.V_drew));exact HO0_13.out) gb286 (Nat.le_of_eq hg.symm)) hb);have n3_ := mk0 (Kd.V_below (Kd.V_elderB (by (with_reducible repeat (first|apply Kd.V_alloc|apply Kd.V_drewN|apply Kd.V_drew));exact HO0_17.out) gb286 (Nat.le_of_eq hg.symm)) hb);have n4_ := mk0 (Kd.V_below (Kd.V_elderB (by (with_reducible repeat (first|apply Kd.V_alloc|apply Kd.V_drewN|apply Kd.V_drew));exact HO0_18.out) gb286 (Nat.le_of_eq hg.symm)) hb);have n5_ := mk0 (below_step q_ hb);have n6_ := mk0 (hbox);have n7_ := mk0 (below_size2 q_ hg);have n8_ := n7_;clear HO0_5;clear HO0_9;clear HO0_13;clear HO0_17;clear HO0_18;clear HB;have HO0_5 := n0_;have HO0_9 := n1_;have HO0_13 := n2_;have HO0_17 := n3_;have HO0_18 := n4_;have HB := n5_;have BK286 := n6_;have GW286 := n7_;have GE286 := n8_;clear q_ n0_ n1_ n2_ n3_ n4_ n5_ n6_ n7_ n8_;clear hb hbox hg)|((with_reducible refine gate_dst (N := 3) rfl ?_);(try (refine gate_guard (by rfl) ?_;dsimp only));refine ldBox rfl 50 _ rfl gb286 0 rfl (l := [.int .i64 a0_0,.string a0_1,.int .i64 a0_2,.int .i64 a0_3,.string a0_4,.slice A0_5 l0_5.length c0_5,.int .i64 a0_6,.int .i64 a0_7,.string a0_8,.slice A0_9 l0_9.length c0_9,.int .i64 a0_10,.int .i64 a0_11,.string a0_12,.slice A0_13 l0_13.length c0_13,.int .i64 a0_14,.int .i64 a0_15,.string a0_16,.slice A0_17 l0_17.length c0_17,.slice A0_18 l0_18.length c0_18]) (tb := 50) (by exact kX BK286.out) [.int .i64 a0_0,.string a0_1,.int .i64 a0_2,.int .i64 a0_3,.string a0_4,.slice A0_5 l0_5.length c0_5,.int .i64 a0_6,.int .i64 a0_7,.string a0_8,.slice A0_9 l0_9.length c0_9,.int .i64 a0_10,.int .i64 a0_11,.string a0_12,.slice A0_13 l0_13.length c0_13,.int .i64 a0_14,.int .i64 a0_15,.string a0_16,.slice A0_17 l0_17.length c0_17,.slice A0_18 l0_18.length c0_18] rfl _ hu50 (by kernel_rfl) ?_)|((with_reducible refine gate_callee (f := 63) rfl ?_);refine goesL_ (some 4) rfl rfl Try.func63 (by kernel_rfl) rfl #[.agg #[.int .i64 a0_0,.string a0_1,.int .i64 a0_2,.int .i64 a0_3,.string a0_4,.slice A0_5 l0_5.length c0_5,.int .i64 a0_6,.int .i64 a0_7,.string a0_8,.slice A0_9 l0_9.length c0_9,.int .i64 a0_10,.int .i64 a0_11,.string a0_12,.slice A0_13 l0_13.length c0_13,.int .i64 a0_14,.int .i64 a0_15,.string a0_16,.slice A0_17 l0_17.length c0_17,.slice A0_18 l0_18.length c0_18],.int .i64 0] rfl (by (try simp only [List.map_toArray,List.map_cons,List.map_nil]);first|done|rfl) ?_;(with_reducible refine (impl_Stmt_isRight.calls k a0_0 a0_1 a0_2 a0_3 a0_4 _ _ l0_5 a0_6 a0_7 a0_8 _ _ l0_9 a0_10 a0_11 a0_12 _ _ l0_13 a0_14 a0_15 a0_16 _ _ l0_17 _ _ l0_18 0 _ _ ?side1 ?side2 ?side3 ?side4 ?side5 ?side6 ?side7 ?side8 ?side9 ?side10 A2.out).mono ?_);(case side1 => repeat (first|exact (Kd.V_reads' HO0_5.out).2.2|(with_reducible refine cA ?_ _)|(with_reducible refine cN ?_ _)|(with_reducible refine cD ?_)));(case side2 => exact (Kd.V_reads' HO0_5.out).2.1);(case side3 => repeat (first|exact (Kd.V_reads' HO0_9.out).2.2|(with_reducible refine cA ?_ _)|(with_reducible refine cN ?_ _)|(with_reducible refine cD ?_)));(case side4 => exact (Kd.V_reads' HO0_9.out).2.1);(case side5 => repeat (first|exact (Kd.V_reads' HO0_13.out).2.2|(with_reducible refine cA ?_ _)|(with_reducible refine cN ?_ _)|(with_reducible refine cD ?_)));(case side6 => exact (Kd.V_reads' HO0_13.out).2.1);(case side7 => repeat (first|exact (Kd.V_reads' HO0_17.out).2.2|(with_reducible refine cA ?_ _)|(with_reducible refine cN ?_ _)|(with_reducible refine cD ?_)));(case side8 => exact (Kd.V_reads' HO0_17.out).2.1);(case side9 => repeat (first|exact (Kd.V_reads' HO0_18.out).2.2|(with_reducible refine cA ?_ _)|(with_reducible refine cN ?_ _)|(with_reducible refine cD ?_)));(case side10 => exact (Kd.V_reads' HO0_18.out).2.1);rintro e w6 ⟨rfl,hb⟩;refine ⟨_,rfl,?_⟩;have n0_ := mk0 (Kd.V_below (by (with_reducible repeat (first|apply Kd.V_alloc|apply Kd.V_drewN|apply Kd.V_drew));exact HO0_5.out) hb);have n1_ := mk0 (Kd.V_below (by (with_reducible repeat (first|apply Kd.V_alloc|apply Kd.V_drewN|apply Kd.V_drew));exact HO0_9.out) hb);have n2_ := mk0 (Kd.V_below (by (with_reducible repeat (first|apply Kd.V_alloc|apply Kd.V_drewN|apply Kd.V_drew));exact HO0_13.out) hb);have n3_ := mk0 (Kd.V_below (by (with_reducible repeat (first|apply Kd.V_alloc|apply Kd.V_drewN|apply Kd.V_drew));exact HO0_17.out) hb);have n4_ := mk0 (Kd.V_below (by (with_reducible repeat (first|apply Kd.V_alloc|apply Kd.V_drewN|apply Kd.V_drew));exact HO0_18.out) hb);have n5_ := mk0 (blk_below (by exact kX BK286.out) hb);have n6_ := mk0 (below_step (by repeat (first|(with_reducible first|exact HB.out|apply bA|apply bN|apply bD|refine bS ?_ GE286.out)|exact HB.out)) hb);clear HO0_5;clear HO0_9;clear HO0_13;clear HO0_17;clear HO0_18;clear BK286;clear HB;have HO0_5 := n0_;have HO0_9 := n1_;have HO0_13 := n2_;have HO0_17 := n3_;have HO0_18 := n4_;have BK286 := n5_;have HB := n6_;clear n0_ n1_ n2_ n3_ n4_ n5_ n6_;(try clear hb);(try clear hb2);(try clear hk);(try clear hi))|((with_reducible refine gate_dst (N := 6) rfl ?_);(try (refine gate_guard (by rfl) ?_;dsimp only));refine ldBox rfl 50 _ rfl gb286 0 rfl (l := [.int .i64 a0_0,.string a0_1,.int .i64 a0_2,.int .i64 a0_3,.string a0_4,.slice A0_5 l0_5.length c0_5,.int .i64 a0_6,.int .i64 a0_7,.string a0_8,.slice A0_9 l0_9.length c0_9,.int .i64 a0_10,.int .i64 a0_11,.string a0_12,.slice A0_13 l0_13.length c0_13,.int .i64 a0_14,.int .i64 a0_15,.string a0_16,.slice A0_17 l0_17.length c0_17,.slice A0_18 l0_18.length c0_18]) (tb := 50) (by exact kX BK286.out) [.int .i64 a0_0,.string a0_1,.int .i64 a0_2,.int .i64 a0_3,.string a0_4,.slice A0_5 l0_5.length c0_5,.int .i64 a0_6,.int .i64 a0_7,.string a0_8,.slice A0_9 l0_9.length c0_9,.int .i64 a0_10,.int .i64 a0_11,.string a0_12,.slice A0_13 l0_13.length c0_13,.int .i64 a0_14,.int .i64 a0_15,.string a0_16,.slice A0_17 l0_17.length c0_17,.slice A0_18 l0_18.length c0_18] rfl _ hu50 (by kernel_rfl) ?_)|((with_reducible refine gate_dst (N := 7) rfl ?_);(try (refine gate_guard (by rfl) ?_;dsimp only));refine Kd.N_lit k50 _ 50 ?hg (N' := 7) ?hd (xs := ([(⟨a0_0,a0_1,(⟨a0_2,a0_3,a0_4,l0_5⟩ : S29),(⟨a0_6,a0_7,a0_8,l0_9⟩ : S29),(⟨a0_10,a0_11,a0_12,l0_13⟩ : S29),(⟨a0_14,a0_15,a0_16,l0_17⟩ : S29),l0_18⟩ : S50)] : List (S50))) (inner := [.int .i64 a0_0,.string a0_1,.int .i64 a0_2,.int .i64 a0_3,.string a0_4,.slice A0_5 l0_5.length c0_5,.int .i64 a0_6,.int .i64 a0_7,.string a0_8,.slice A0_9 l0_9.length c0_9,.int .i64 a0_10,.int .i64 a0_11,.string a0_12,.slice A0_13 l0_13.length c0_13,.int .i64 a0_14,.int .i64 a0_15,.string a0_16,.slice A0_17 l0_17.length c0_17,.slice A0_18 l0_18.length c0_18]) (ok := (fun k_ => ((P0_5_ k_ ∨ P0_9_ k_ ∨ P0_13_ k_ ∨ P0_17_ k_ ∨ P0_18_ k_) ∨ w.heap.size ≤ k_) ∧ k_ ≠ gb286)) (okp := (fun k_ => ((P0_5_ k_ ∨ P0_9_ k_ ∨ P0_13_ k_ ∨ P0_17_ k_ ∨ P0_18_ k_) ∨ w.heap.size ≤ k_) ∧ k_ ≠ gb286)) ?hr ?hp (fun _ hk => hk) ((show ∀ k_,w6.heap.size ≤ k_ → (fun k_ => ((P0_5_ k_ ∨ P0_9_ k_ ∨ P0_13_ k_ ∨ P0_17_ k_ ∨ P0_18_ k_) ∨ w.heap.size ≤ k_) ∧ k_ ≠ gb286) k_ from fun k_ hk => ⟨(.inr (Nat.le_trans (below_size (by repeat (first|(with_reducible first|exact HB.out|apply bA|apply bN|apply bD|refine bS ?_ GE286.out)|exact HB.out))) hk)),Kd.freshB (g := gb286) (o := .cells #[.int .i64 a0_0,.string a0_1,.int .i64 a0_2,.int .i64 a0_3,.string a0_4,.slice A0_5 l0_5.length c0_5,.int .i64 a0_6,.int .i64 a0_7,.string a0_8,.slice A0_9 l0_9.length c0_9,.int .i64 a0_10,.int .i64 a0_11,.string a0_12,.slice A0_13 l0_13.length c0_13,.int .i64 a0_14,.int .i64 a0_15,.string a0_16,.slice A0_17 l0_17.length c0_17,.slice A0_18 l0_18.length c0_18] 50 (0,0)) (by exact kX BK286.out) k_ hk⟩) _ (Nat.le_refl _)) (Below.refl _ _) (Nat.le_refl _) (by simp) ?_;(case hd => rfl);(case hg => rfl);(case hr => first|(go_simp;done)|(go_simp;rfl));(case hp => exact (Reps.front (show Kd.FK k50 _ _ (⟨a0_0,a0_1,(⟨a0_2,a0_3,a0_4,l0_5⟩ : S29),(⟨a0_6,a0_7,a0_8,l0_9⟩ : S29),(⟨a0_10,a0_11,a0_12,l0_13⟩ : S29),(⟨a0_14,a0_15,a0_16,l0_17⟩ : S29),l0_18⟩ : S50) [.int .i64 a0_0,.string a0_1,.int .i64 a0_2,.int .i64 a0_3,.string a0_4,.slice A0_5 l0_5.length c0_5,.int .i64 a0_6,.int .i64 a0_7,.string a0_8,.slice A0_9 l0_9.length c0_9,.int .i64 a0_10,.int .i64 a0_11,.string a0_12,.slice A0_13 l0_13.length c0_13,.int .i64 a0_14,.int .i64 a0_15,.string a0_16,.slice A0_17 l0_17.length c0_17,.slice A0_18 l0_18.length c0_18] from (k50_mkF _ _ (⟨a0_0,a0_1,(⟨a0_2,a0_3,a0_4,l0_5⟩ : S29),(⟨a0_6,a0_7,a0_8,l0_9⟩ : S29),(⟨a0_10,a0_11,a0_12,l0_13⟩ : S29),(⟨a0_14,a0_15,a0_16,l0_17⟩ : S29),l0_18⟩ : S50) (Kd.V_reads' (Kd.V_mono (ok' := (fun k_ => ((P0_5_ k_ ∨ P0_9_ k_ ∨ P0_13_ k_ ∨ P0_17_ k_ ∨ P0_18_ k_) ∨ w.heap.size ≤ k_) ∧ k_ ≠ gb286)) (HO0_5.out) (fun k_ hk => ⟨hk.1,hk.2⟩))).2.1 (Kd.V_F (Kd.V_mono (ok' := (fun k_ => ((P0_5_ k_ ∨ P0_9_ k_ ∨ P0_13_ k_ ∨ P0_17_ k_ ∨ P0_18_ k_) ∨ w.heap.size ≤ k_) ∧ k_ ≠ gb286)) (HO0_5.out) (fun k_ hk => ⟨hk.1,hk.2⟩))) (Kd.V_reads' (Kd.V_mono (ok' := (fun k_ => ((P0_5_ k_ ∨ P0_9_ k_ ∨ P0_13_ k_ ∨ P0_17_ k_ ∨ P0_18_ k_) ∨ w.heap.size ≤ k_) ∧ k_ ≠ gb286)) (HO0_9.out) (fun k_ hk => ⟨hk.1,hk.2⟩))).2.1 (Kd.V_F (Kd.V_mono (ok' := (fun k_ => ((P0_5_ k_ ∨ P0_9_ k_ ∨ P0_13_ k_ ∨ P0_17_ k_ ∨ P0_18_ k_) ∨ w.heap.size ≤ k_) ∧ k_ ≠ gb286)) (HO0_9.out) (fun k_ hk => ⟨hk.1,hk.2⟩))) (Kd.V_reads' (Kd.V_mono (ok' := (fun k_ => ((P0_5_ k_ ∨ P0_9_ k_ ∨ P0_13_ k_ ∨ P0_17_ k_ ∨ P0_18_ k_) ∨ w.heap.size ≤ k_) ∧ k_ ≠ gb286)) (HO0_13.out) (fun k_ hk => ⟨hk.1,hk.2⟩))).2.1 (Kd.V_F (Kd.V_mono (ok' := (fun k_ => ((P0_5_ k_ ∨ P0_9_ k_ ∨ P0_13_ k_ ∨ P0_17_ k_ ∨ P0_18_ k_) ∨ w.heap.size ≤ k_) ∧ k_ ≠ gb286)) (HO0_13.out) (fun k_ hk => ⟨hk.1,hk.2⟩))) (Kd.V_reads' (Kd.V_mono (ok' := (fun k_ => ((P0_5_ k_ ∨ P0_9_ k_ ∨ P0_13_ k_ ∨ P0_17_ k_ ∨ P0_18_ k_) ∨ w.heap.size ≤ k_) ∧ k_ ≠ gb286)) (HO0_17.out) (fun k_ hk => ⟨hk.1,hk.2⟩))).2.1 (Kd.V_F (Kd.V_mono (ok' := (fun k_ => ((P0_5_ k_ ∨ P0_9_ k_ ∨ P0_13_ k_ ∨ P0_17_ k_ ∨ P0_18_ k_) ∨ w.heap.size ≤ k_) ∧ k_ ≠ gb286)) (HO0_17.out) (fun k_ hk => ⟨hk.1,hk.2⟩))) (Kd.V_reads' (Kd.V_mono (ok' := (fun k_ => ((P0_5_ k_ ∨ P0_9_ k_ ∨ P0_13_ k_ ∨ P0_17_ k_ ∨ P0_18_ k_) ∨ w.heap.size ≤ k_) ∧ k_ ≠ gb286)) (HO0_18.out) (fun k_ hk => ⟨hk.1,hk.2⟩))).2.1 (Kd.V_F (Kd.V_mono (ok' := (fun k_ => ((P0_5_ k_ ∨ P0_9_ k_ ∨ P0_13_ k_ ∨ P0_17_ k_ ∨ P0_18_ k_) ∨ w.heap.size ≤ k_) ∧ k_ ≠ gb286)) (HO0_18.out) (fun k_ hk => ⟨hk.1,hk.2⟩))))) rfl (Reps.none _ _) rfl));intro v289 w7 ho8 hb hg_ hnew_;clear hg_ hnew_;(first|rw [← Ny288.out] at ho8|(simp only [Int.reduceToNat] at ho8;rw [← Ny288.out] at ho8));have q_ := qB (by repeat (first|(with_reducible first|exact HB.out|apply bA|apply bN|apply bD|refine bS ?_ GE286.out)|exact HB.out)) hb;have n0_ := mk0 (Kd.V_elder' (by (with_reducible repeat (first|apply Kd.V_alloc|apply Kd.V_drewN|apply Kd.V_drew));exact HO0_5.out) (Kd.N_base ho8) hb);have n1_ := mk0 (Kd.V_elder' (by (with_reducible repeat (first|apply Kd.V_alloc|apply Kd.V_drewN|apply Kd.V_drew));exact HO0_9.out) (Kd.N_base ho8) hb);have n2_ := mk0 (Kd.V_elder' (by (with_reducible repeat (first|apply Kd.V_alloc|apply Kd.V_drewN|apply Kd.V_drew));exact HO0_13.out) (Kd.N_base ho8) hb);have n3_ := mk0 (Kd.V_elder' (by (with_reducible repeat (first|apply Kd.V_alloc|apply Kd.V_drewN|apply Kd.V_drew));exact HO0_17.out) (Kd.N_base ho8) hb);have n4_ := mk0 (Kd.V_elder' (by (with_reducible repeat (first|apply Kd.V_alloc|apply Kd.V_drewN|apply Kd.V_drew));exact HO0_18.out) (Kd.N_base ho8) hb);have n5_ := mk0 (Kd.N_lower ho8 (below_size q_));have n6_ := mk0 (blk_below (by exact kX BK286.out) hb);have n7_ := mk0 (below_step q_ hb);clear HO0_5;clear HO0_9;clear HO0_13;clear HO0_17;clear HO0_18;clear BK286;clear HB;have HO0_5 := n0_;have HO0_9 := n1_;have HO0_13 := n2_;have HO0_17 := n3_;have HO0_18 := n4_;have HO290 := n5_;have BK286 := n6_;have HB := n7_;clear q_ n0_ n1_ n2_ n3_ n4_ n5_ n6_ n7_;clear hb ho8;obtain ⟨Ao9,co9,eo9⟩ := Kd.N_slice HO290.out;subst eo9)|(go_at_call 40;(with_reducible refine (impl_Size.calls k _ _ y288 t291 _ ?side1 ?side2 A4.out).mono ?_);(case side1 => repeat (first|exact (Kd.N_reads' HO290.out).2.2|(with_reducible refine cA ?_ _)|(with_reducible refine cN ?_ _)|(with_reducible refine cD ?_)));(case side2 => exact (Kd.N_reads' HO290.out).2.1);rintro e w10 ⟨rfl,hb⟩;have n0_ := mk0 (Kd.V_below (by (with_reducible repeat (first|apply Kd.V_alloc|apply Kd.V_drewN|apply Kd.V_drew));exact HO0_5.out) hb);have n1_ := mk0 (Kd.V_below (by (with_reducible repeat (first|apply Kd.V_alloc|apply Kd.V_drewN|apply Kd.V_drew));exact HO0_9.out) hb);have n2_ := mk0 (Kd.V_below (by (with_reducible repeat (first|apply Kd.V_alloc|apply Kd.V_drewN|apply Kd.V_drew));exact HO0_13.out) hb);have n3_ := mk0 (Kd.V_below (by (with_reducible repeat (first|apply Kd.V_alloc|apply Kd.V_drewN|apply Kd.V_drew));exact HO0_17.out) hb);have n4_ := mk0 (Kd.V_below (by (with_reducible repeat (first|apply Kd.V_alloc|apply Kd.V_drewN|apply Kd.V_drew));exact HO0_18.out) hb);have n5_ := mk0 (Kd.N_below (by (with_reducible repeat (first|apply Kd.N_alloc|apply Kd.N_drewN|apply Kd.N_drew));exact HO290.out) hb);have n6_ := mk0 (blk_below (by exact kX BK286.out) hb);have n7_ := mk0 (below_step (by repeat (first|(with_reducible first|exact HB.out|apply bA|apply bN|apply bD|refine bS ?_ GE286.out)|exact HB.out)) hb);clear HO0_5;clear HO0_9;clear HO0_13;clear HO0_17;clear HO0_18;clear HO290;clear BK286;clear HB;have HO0_5 := n0_;have HO0_9 := n1_;have HO0_13 := n2_;have HO0_17 := n3_;have HO0_18 := n4_;have HO290 := n5_;have BK286 := n6_;have HB := n7_;clear n0_ n1_ n2_ n3_ n4_ n5_ n6_ n7_;(try clear hb);(try clear hb2);(try clear hk);(try clear hi)))
  go_ret
  exact ⟨by first|rfl|(simp [errW_none,errW_some] <;> rfl)|(simp [*,errW_none,errW_some] <;> rfl),by repeat (first|(with_reducible first|exact HB.out|apply bA|apply bN|apply bD|refine bS ?_ GE286.out)|exact HB.out)⟩
end Go.Proofs.Ytmmdgciefehbcaa.PFnExactStmtOk
