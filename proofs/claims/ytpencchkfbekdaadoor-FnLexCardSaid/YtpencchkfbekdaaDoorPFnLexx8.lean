-- The functions of a law as plain Lean functions, each with its contract: written by a program of this session.
import Derived.Test.YtpencchkfbekdaaDoorPFnLexx0
import Derived.Test.YtpencchkfbekdaaDoorPFnLexx1
import Derived.Test.YtpencchkfbekdaaDoorPFnLexx5
import Derived.Test.YtpencchkfbekdaaDoorPFnLexx7
namespace Go.Proofs.YtpencchkfbekdaaDoor.PFnLex
open Go.RowKit Go.Proofs.YtpencchkfbekdaaDoorW.PrintWords Go.Proofs.YtpencchkfbekdaaDoorW.PrintLast Go.Proofs.YtpencchkfbekdaaDoorW.PrintMore
attribute [local go_sem] max2_int min2_int max_two min_two max_three min_three max_four min_four   -- for this text's walks alone
set_option linter.unusedVariables false
set_option linter.unusedSimpArgs false

attribute [local go_sem high] eqA47
/-! ### spec_DrawLex: function 26 -/
def spec_DrawLex.l0 : Nat → ByteArray → Int → List Int → Int → Int → Option (ByteArray)
 | 0, _, _, _, _, _ => none
 | k + 1, x4, x6, x240000, x240001, x240002 => (spec_l1Below.f x240000 x240001 x240002 3).bind fun bt267 => (if x6 < (wrap64 (599 + bt267.1)) then (if x4.size + 1 ≤ 9223372036854775807 then (spec_DrawLex.l0 k (x4 ++ (⟨#[59]⟩ : ByteArray)) (wrap64 (x6 + 1)) x240000 bt267.2.1 bt267.2.2) else (none)) else (some x4))
def spec_DrawLex.f (k : Nat) (l0 : List Int) : Option (ByteArray) := (spec_l1New.f k l0).bind fun bt236 => ((spec_l2Text.f k bt236.1 bt236.2.1 bt236.2.2).bind fun bt240 => ((spec_l1Below.f bt236.1 bt240.2.1 bt240.2.2 8).bind fun bt243 => (if bt243.1 = 0 then ((spec_l1Str.f bt236.1 bt243.2.1 bt243.2.2 (([(⟨#[36]⟩ : ByteArray), (⟨#[65]⟩ : ByteArray), (⟨#[48, 49]⟩ : ByteArray), (⟨#[49, 48, 48, 48, 48, 48, 48]⟩ : ByteArray), (⟨#[57, 57, 57, 57, 57, 57]⟩ : ByteArray), (⟨#[115, 101, 118, 101, 110, 108, 101]⟩ : ByteArray), (⟨#[60]⟩ : ByteArray), (⟨#[9]⟩ : ByteArray)] : List ByteArray))).bind fun bt249 => (if bt240.1.size + bt249.1.size ≤ 9223372036854775807 then (some (bt240.1 ++ bt249.1)) else (none))) else (if bt243.1 = 1 then ((spec_l2Prog.f bt236.1 bt243.2.1 bt243.2.2).bind fun bt252 => (some bt252.1)) else (if bt243.1 = 2 then ((spec_l1Below.f bt236.1 bt243.2.1 bt243.2.2 (wrap64 ((bt240.1.size : Int) + 1))).bind fun bt255 => (if 0 ≤ bt255.1 then (if bt255.1 ≤ (bt240.1.size : Int) then ((spec_l1Str.f bt236.1 bt255.2.1 bt255.2.2 (([(⟨#[32]⟩ : ByteArray), (⟨#[57]⟩ : ByteArray), (⟨#[120]⟩ : ByteArray), (⟨#[255]⟩ : ByteArray)] : List ByteArray))).bind fun bt261 => (if (bt240.1.extract 0 (bt255.1 : Int).toNat).size + bt261.1.size ≤ 9223372036854775807 then (if ((bt240.1.extract 0 (bt255.1 : Int).toNat) ++ bt261.1).size + (bt240.1.extract (bt255.1 : Int).toNat bt240.1.size).size ≤ 9223372036854775807 then (some (((bt240.1.extract 0 (bt255.1 : Int).toNat) ++ bt261.1) ++ (bt240.1.extract (bt255.1 : Int).toNat bt240.1.size))) else (none)) else (none))) else (none)) else (none))) else ((spec_l1Once.f bt236.1 bt243.2.1 bt243.2.2 50).bind fun bt264 => (if bt264.1 = true then (spec_DrawLex.l0 k bt240.1 0 bt236.1 bt264.2.1 bt264.2.2) else (some bt240.1))))))))
theorem spec_DrawLex.mono_l : ∀ k, (∀ y0 y1 y2 y3 y4, LeO (spec_DrawLex.l0 k y0 y1 y2 y3 y4) (spec_DrawLex.l0 (k + 1) y0 y1 y2 y3 y4))
 | 0 => fun _ _ _ _ _ r h => by simp [spec_DrawLex.l0] at h
 | k + 1 => by
  have ih0 := spec_DrawLex.mono_l k
  ·intro y0 y1 y2 y3 y4
   unfold spec_DrawLex.l0
   repeat' first
   | (with_reducible exact ih0 _ _ _ _ _)
   | (with_reducible exact spec_l1New.mono _ _)
   | (with_reducible exact spec_l2Text.mono _ _ _ _)
   | (with_reducible exact LeO.refl _)
   | (with_reducible exact LeO.none _)
   | (with_reducible refine LeO.ite ?_ ?_)
   | (with_reducible refine LeO.bind ?_ (fun _ => ?_))
   | exact ih0 _ _ _ _ _
   | exact spec_l1New.mono _ _
   | exact spec_l2Text.mono _ _ _ _
   | exact LeO.none _
   | refine LeO.ite ?_ ?_
   | refine LeO.bind ?_ (fun _ => ?_)
theorem spec_DrawLex.mono : ∀ a0 k, LeO (spec_DrawLex.f k a0) (spec_DrawLex.f (k + 1) a0) := by
 intro a0 k
 have ih0 := spec_DrawLex.mono_l k
 unfold spec_DrawLex.f
 repeat' first
   | (with_reducible exact ih0 _ _ _ _ _)
   | (with_reducible exact spec_l1New.mono _ _)
   | (with_reducible exact spec_l2Text.mono _ _ _ _)
   | (with_reducible exact LeO.refl _)
   | (with_reducible exact LeO.none _)
   | (with_reducible refine LeO.ite ?_ ?_)
   | (with_reducible refine LeO.bind ?_ (fun _ => ?_))
   | exact ih0 _ _ _ _ _
   | exact spec_l1New.mono _ _
   | exact spec_l2Text.mono _ _ _ _
   | exact LeO.none _
   | refine LeO.ite ?_ ?_
   | refine LeO.bind ?_ (fun _ => ?_)
def spec_DrawLex.T10 : Bool × List (List Nat × List Nat) := (true, [([], []), ([], []), ([0, 1], [0, 1]), ([], []), ([], []), ([3, 4], [3, 4]), ([2, 5], [2, 5]), ([], []), ([], []), ([7, 8], [7, 8]), ([6, 9], [6, 9]), ([10, 5, 0, 1, 2, 3, 4, 5, 6, 7, 8, 9, 10], [10])])
def spec_DrawLex.B10 : List Nat := [0, 0, 3, 0, 0, 24, 63, 0, 0, 384, 1023, 2047]
theorem spec_DrawLex.tab10 : rtab .any (opsOf Tryd.f26 10) = spec_DrawLex.T10 := by kernel_rfl
theorem spec_DrawLex.bits10 : waitsOk spec_DrawLex.T10.2 spec_DrawLex.B10 = true := by kernel_rfl
set_option maxHeartbeats 8000000 in
set_option maxRecDepth 100000 in
theorem spec_DrawLex.calls (k : Nat) (A0 : Option Addr) (c0 : Nat) (l0 : List Int) (r : ByteArray) (w : World) (hr0 : Kd.C (Kd.int .u8) w A0 l0.length l0) (hc0 : l0.length ≤ c0) (h : spec_DrawLex.f k l0 = some r) :
  Calls Tryd.prog 26 #[.slice A0 l0.length c0] w fun e w' => e = .returned (.string r) ∧ Below w.heap.size w w' := by
 have HR0 := mk0 hr0
 have HC0 := mk0 hc0
 clear hr0 hc0
 have HB := mk0 (Below.refl w.heap.size w)
 have H : ((spec_l1New.f k l0).bind fun bt236 => ((spec_l2Text.f k bt236.1 bt236.2.1 bt236.2.2).bind fun bt240 => ((spec_l1Below.f bt236.1 bt240.2.1 bt240.2.2 8).bind fun bt243 => (if bt243.1 = 0 then ((spec_l1Str.f bt236.1 bt243.2.1 bt243.2.2 (([(⟨#[36]⟩ : ByteArray),(⟨#[65]⟩ : ByteArray),(⟨#[48,49]⟩ : ByteArray),(⟨#[49,48,48,48,48,48,48]⟩ : ByteArray),(⟨#[57,57,57,57,57,57]⟩ : ByteArray),(⟨#[115,101,118,101,110,108,101]⟩ : ByteArray),(⟨#[60]⟩ : ByteArray),(⟨#[9]⟩ : ByteArray)] : List ByteArray))).bind fun bt249 => (if bt240.1.size + bt249.1.size ≤ 9223372036854775807 then (some (bt240.1 ++ bt249.1)) else (none))) else (if bt243.1 = 1 then ((spec_l2Prog.f bt236.1 bt243.2.1 bt243.2.2).bind fun bt252 => (some bt252.1)) else (if bt243.1 = 2 then ((spec_l1Below.f bt236.1 bt243.2.1 bt243.2.2 (wrap64 ((bt240.1.size : Int) + 1))).bind fun bt255 => (if 0 ≤ bt255.1 then (if bt255.1 ≤ (bt240.1.size : Int) then ((spec_l1Str.f bt236.1 bt255.2.1 bt255.2.2 (([(⟨#[32]⟩ : ByteArray),(⟨#[57]⟩ : ByteArray),(⟨#[120]⟩ : ByteArray),(⟨#[255]⟩ : ByteArray)] : List ByteArray))).bind fun bt261 => (if (bt240.1.extract 0 (bt255.1 : Int).toNat).size + bt261.1.size ≤ 9223372036854775807 then (if ((bt240.1.extract 0 (bt255.1 : Int).toNat) ++ bt261.1).size + (bt240.1.extract (bt255.1 : Int).toNat bt240.1.size).size ≤ 9223372036854775807 then (some (((bt240.1.extract 0 (bt255.1 : Int).toNat) ++ bt261.1) ++ (bt240.1.extract (bt255.1 : Int).toNat bt240.1.size))) else (none)) else (none))) else (none)) else (none))) else ((spec_l1Once.f bt236.1 bt243.2.1 bt243.2.2 50).bind fun bt264 => (if bt264.1 = true then (spec_DrawLex.l0 k bt240.1 0 bt236.1 bt264.2.1 bt264.2.2) else (some bt240.1))))))))) = some r := h
 clear h
 replace H := Option.bind_eq_some_iff.mp H
 obtain ⟨⟨t236,t237,t238⟩,A20,H⟩ := H
 replace H : ((spec_l2Text.f k t236 t237 t238).bind fun bt240 => ((spec_l1Below.f t236 bt240.2.1 bt240.2.2 8).bind fun bt243 => (if bt243.1 = 0 then ((spec_l1Str.f t236 bt243.2.1 bt243.2.2 (([(⟨#[36]⟩ : ByteArray),(⟨#[65]⟩ : ByteArray),(⟨#[48,49]⟩ : ByteArray),(⟨#[49,48,48,48,48,48,48]⟩ : ByteArray),(⟨#[57,57,57,57,57,57]⟩ : ByteArray),(⟨#[115,101,118,101,110,108,101]⟩ : ByteArray),(⟨#[60]⟩ : ByteArray),(⟨#[9]⟩ : ByteArray)] : List ByteArray))).bind fun bt249 => (if bt240.1.size + bt249.1.size ≤ 9223372036854775807 then (some (bt240.1 ++ bt249.1)) else (none))) else (if bt243.1 = 1 then ((spec_l2Prog.f t236 bt243.2.1 bt243.2.2).bind fun bt252 => (some bt252.1)) else (if bt243.1 = 2 then ((spec_l1Below.f t236 bt243.2.1 bt243.2.2 (wrap64 ((bt240.1.size : Int) + 1))).bind fun bt255 => (if 0 ≤ bt255.1 then (if bt255.1 ≤ (bt240.1.size : Int) then ((spec_l1Str.f t236 bt255.2.1 bt255.2.2 (([(⟨#[32]⟩ : ByteArray),(⟨#[57]⟩ : ByteArray),(⟨#[120]⟩ : ByteArray),(⟨#[255]⟩ : ByteArray)] : List ByteArray))).bind fun bt261 => (if (bt240.1.extract 0 (bt255.1 : Int).toNat).size + bt261.1.size ≤ 9223372036854775807 then (if ((bt240.1.extract 0 (bt255.1 : Int).toNat) ++ bt261.1).size + (bt240.1.extract (bt255.1 : Int).toNat bt240.1.size).size ≤ 9223372036854775807 then (some (((bt240.1.extract 0 (bt255.1 : Int).toNat) ++ bt261.1) ++ (bt240.1.extract (bt255.1 : Int).toNat bt240.1.size))) else (none)) else (none))) else (none)) else (none))) else ((spec_l1Once.f t236 bt243.2.1 bt243.2.2 50).bind fun bt264 => (if bt264.1 = true then (spec_DrawLex.l0 k bt240.1 0 t236 bt264.2.1 bt264.2.2) else (some bt240.1)))))))) = some r := H
 have A2 := mk0 A20
 clear A20
 replace H := Option.bind_eq_some_iff.mp H
 obtain ⟨⟨t240,t241,t242⟩,A30,H⟩ := H
 replace H : ((spec_l1Below.f t236 t241 t242 8).bind fun bt243 => (if bt243.1 = 0 then ((spec_l1Str.f t236 bt243.2.1 bt243.2.2 (([(⟨#[36]⟩ : ByteArray),(⟨#[65]⟩ : ByteArray),(⟨#[48,49]⟩ : ByteArray),(⟨#[49,48,48,48,48,48,48]⟩ : ByteArray),(⟨#[57,57,57,57,57,57]⟩ : ByteArray),(⟨#[115,101,118,101,110,108,101]⟩ : ByteArray),(⟨#[60]⟩ : ByteArray),(⟨#[9]⟩ : ByteArray)] : List ByteArray))).bind fun bt249 => (if t240.size + bt249.1.size ≤ 9223372036854775807 then (some (t240 ++ bt249.1)) else (none))) else (if bt243.1 = 1 then ((spec_l2Prog.f t236 bt243.2.1 bt243.2.2).bind fun bt252 => (some bt252.1)) else (if bt243.1 = 2 then ((spec_l1Below.f t236 bt243.2.1 bt243.2.2 (wrap64 ((t240.size : Int) + 1))).bind fun bt255 => (if 0 ≤ bt255.1 then (if bt255.1 ≤ (t240.size : Int) then ((spec_l1Str.f t236 bt255.2.1 bt255.2.2 (([(⟨#[32]⟩ : ByteArray),(⟨#[57]⟩ : ByteArray),(⟨#[120]⟩ : ByteArray),(⟨#[255]⟩ : ByteArray)] : List ByteArray))).bind fun bt261 => (if (t240.extract 0 (bt255.1 : Int).toNat).size + bt261.1.size ≤ 9223372036854775807 then (if ((t240.extract 0 (bt255.1 : Int).toNat) ++ bt261.1).size + (t240.extract (bt255.1 : Int).toNat t240.size).size ≤ 9223372036854775807 then (some (((t240.extract 0 (bt255.1 : Int).toNat) ++ bt261.1) ++ (t240.extract (bt255.1 : Int).toNat t240.size))) else (none)) else (none))) else (none)) else (none))) else ((spec_l1Once.f t236 bt243.2.1 bt243.2.2 50).bind fun bt264 => (if bt264.1 = true then (spec_DrawLex.l0 k t240 0 t236 bt264.2.1 bt264.2.2) else (some t240))))))) = some r := H
 have A3 := mk0 A30
 clear A30
 replace H := Option.bind_eq_some_iff.mp H
 obtain ⟨⟨t243,t244,t245⟩,A40,H⟩ := H
 replace H : (if t243 = 0 then ((spec_l1Str.f t236 t244 t245 (([(⟨#[36]⟩ : ByteArray),(⟨#[65]⟩ : ByteArray),(⟨#[48,49]⟩ : ByteArray),(⟨#[49,48,48,48,48,48,48]⟩ : ByteArray),(⟨#[57,57,57,57,57,57]⟩ : ByteArray),(⟨#[115,101,118,101,110,108,101]⟩ : ByteArray),(⟨#[60]⟩ : ByteArray),(⟨#[9]⟩ : ByteArray)] : List ByteArray))).bind fun bt249 => (if t240.size + bt249.1.size ≤ 9223372036854775807 then (some (t240 ++ bt249.1)) else (none))) else (if t243 = 1 then ((spec_l2Prog.f t236 t244 t245).bind fun bt252 => (some bt252.1)) else (if t243 = 2 then ((spec_l1Below.f t236 t244 t245 (wrap64 ((t240.size : Int) + 1))).bind fun bt255 => (if 0 ≤ bt255.1 then (if bt255.1 ≤ (t240.size : Int) then ((spec_l1Str.f t236 bt255.2.1 bt255.2.2 (([(⟨#[32]⟩ : ByteArray),(⟨#[57]⟩ : ByteArray),(⟨#[120]⟩ : ByteArray),(⟨#[255]⟩ : ByteArray)] : List ByteArray))).bind fun bt261 => (if (t240.extract 0 (bt255.1 : Int).toNat).size + bt261.1.size ≤ 9223372036854775807 then (if ((t240.extract 0 (bt255.1 : Int).toNat) ++ bt261.1).size + (t240.extract (bt255.1 : Int).toNat t240.size).size ≤ 9223372036854775807 then (some (((t240.extract 0 (bt255.1 : Int).toNat) ++ bt261.1) ++ (t240.extract (bt255.1 : Int).toNat t240.size))) else (none)) else (none))) else (none)) else (none))) else ((spec_l1Once.f t236 t244 t245 50).bind fun bt264 => (if bt264.1 = true then (spec_DrawLex.l0 k t240 0 t236 bt264.2.1 bt264.2.2) else (some t240)))))) = some r := H
 have A4 := mk0 A40
 clear A40
 by_cases c5 : t243 = 0
 ·rw [if_pos c5] at H
  have c5b0 : (t243 == 0) = true := beq_iff_eq.mpr c5
  have c5b1 : (t243 != 0) = false := bne_eq_false_iff_eq.mpr c5
  clear c5
  obtain ⟨y246,hy246⟩ : ∃ y_ : List ByteArray,y_ = (([(⟨#[36]⟩ : ByteArray),(⟨#[65]⟩ : ByteArray),(⟨#[48,49]⟩ : ByteArray),(⟨#[49,48,48,48,48,48,48]⟩ : ByteArray),(⟨#[57,57,57,57,57,57]⟩ : ByteArray),(⟨#[115,101,118,101,110,108,101]⟩ : ByteArray),(⟨#[60]⟩ : ByteArray),(⟨#[9]⟩ : ByteArray)] : List ByteArray)) := ⟨_,rfl⟩
  replace H : ((spec_l1Str.f t236 t244 t245 y246).bind fun bt249 => (if t240.size + bt249.1.size ≤ 9223372036854775807 then (some (t240 ++ bt249.1)) else (none))) = some r := by first|(rw [hy246];with_reducible exact H)|(have H2_ := (Option.bind_some _ _).symm.trans H;rw [hy246];with_reducible exact H2_)|(have H2_ := (Option.bind_some _ _).symm.trans H;with_reducible exact H2_)|with_reducible exact H|(rw [hy246];exact H)|exact H
  have Ny246 := mk0 hy246
  clear hy246
  replace H := Option.bind_eq_some_iff.mp H
  obtain ⟨⟨t249,t250,t251⟩,A60,H⟩ := H
  replace H : (if t240.size + t249.size ≤ 9223372036854775807 then (some (t240 ++ t249)) else (none)) = some r := H
  have A6 := mk0 A60
  clear A60
  by_cases c7 : t240.size + t249.size ≤ 9223372036854775807
  ·rw [if_pos c7] at H
   have c7b0 := eq_true c7
   have c7b1 : decide (t240.size + t249.size ≤ 9223372036854775807) = true := decide_eq_true c7
   try have c7b2 : (9223372036854775807 < t240.size + t249.size) = False := eq_false (Nat.not_lt.2 c7)
   obtain rfl := Option.some.inj H
   go_enter Tryd.func26,Tryd.ntmps26
   go_wp2_with (first|((with_reducible refine gate_callee (f := 40) rfl ?_);refine goesL_ (some 8) rfl rfl Tryd.func40 (by kernel_rfl) rfl #[.slice A0 l0.length c0] rfl (by (try simp only [List.map_toArray,List.map_cons,List.map_nil]);first|done|rfl) ?_;(with_reducible refine (spec_l1New.calls k _ _ l0 t236 t237 t238 w _ ?side1 ?side2 ?side3 A2.out).mono ?_);(case side1 => repeat (first|(with_reducible first|exact HB.out|apply bA|apply bN|apply bD)|exact HB.out));(case side2 => exact HR0.out);(case side3 => exact HC0.out);rintro e w8 ⟨g239,rfl,hi,hb,hb2⟩;refine ⟨_,rfl,?_⟩;have n0_ := mk0 (hb);have n1_ := mk0 (hi);clear HB;have HB := n0_;have HI239 := n1_;clear n0_ n1_;(try clear hb);(try clear hb2);(try clear hk);(try clear hi))|((with_reducible refine gate_callee (f := 48) rfl ?_);refine goesL_ (some 10) rfl rfl Tryd.func48 (by kernel_rfl) rfl #[.pointer (some ⟨g239,0,none⟩)] rfl (by (try simp only [List.map_toArray,List.map_cons,List.map_nil]);first|done|rfl) ?_;(with_reducible refine (spec_l2Text.calls k g239 t236 t237 t238 t240 t241 t242 w _ ?side1 ?side2 A3.out).mono ?_);(case side1 => repeat (first|(with_reducible first|exact HI239.out|apply IsS74.alloc|apply IsS74.drewN|apply IsS74.drew|apply IsS74.set_1|apply IsS74.set_2)|exact HI239.out));(case side2 => repeat (first|(with_reducible first|exact HB.out|apply bA|apply bN|apply bD|refine bS ?_ (IsS74.ge HI239.out))|exact HB.out));rintro e w9 ⟨rfl,hi,hb,hk⟩;refine ⟨_,rfl,?_⟩;have n0_ := mk0 (hb);have n1_ := mk0 (hi);clear HB;clear HI239;have HB := n0_;have HI239 := n1_;clear n0_ n1_;(try clear hb);(try clear hb2);(try clear hk);(try clear hi))|((with_reducible refine gate_callee (f := 43) rfl ?_);refine goesL_ (some 12) rfl rfl Tryd.func43 (by kernel_rfl) rfl #[.pointer (some ⟨g239,0,none⟩),.int .i64 8] rfl (by (try simp only [List.map_toArray,List.map_cons,List.map_nil]);first|done|rfl) ?_;(with_reducible refine (spec_l1Below.calls g239 t236 t241 t242 8 t243 t244 t245 w _ ?side1 ?side2 A4.out).mono ?_);(case side1 => repeat (first|(with_reducible first|exact HI239.out|apply IsS74.alloc|apply IsS74.drewN|apply IsS74.drew|apply IsS74.set_1|apply IsS74.set_2)|exact HI239.out));(case side2 => repeat (first|(with_reducible first|exact HB.out|apply bA|apply bN|apply bD|refine bS ?_ (IsS74.ge HI239.out))|exact HB.out));rintro e w10 ⟨rfl,hi,hb,hk⟩;refine ⟨_,rfl,?_⟩;have n0_ := mk0 (hb);have n1_ := mk0 (hi);clear HB;clear HI239;have HB := n0_;have HI239 := n1_;clear n0_ n1_;(try clear hb);(try clear hb2);(try clear hk);(try clear hi))|((with_reducible refine gate_dst (N := 17) rfl ?_);refine Kd.R_lit Kd.string _ 9 ?hg (N := 17) ?hd (xs := ([(⟨#[36]⟩ : ByteArray),(⟨#[65]⟩ : ByteArray),(⟨#[48,49]⟩ : ByteArray),(⟨#[49,48,48,48,48,48,48]⟩ : ByteArray),(⟨#[57,57,57,57,57,57]⟩ : ByteArray),(⟨#[115,101,118,101,110,108,101]⟩ : ByteArray),(⟨#[60]⟩ : ByteArray),(⟨#[9]⟩ : ByteArray)] : List ByteArray)) (inner := [.string (⟨#[36]⟩ : ByteArray),.string (⟨#[65]⟩ : ByteArray),.string (⟨#[48,49]⟩ : ByteArray),.string (⟨#[49,48,48,48,48,48,48]⟩ : ByteArray),.string (⟨#[57,57,57,57,57,57]⟩ : ByteArray),.string (⟨#[115,101,118,101,110,108,101]⟩ : ByteArray),.string (⟨#[60]⟩ : ByteArray),.string (⟨#[9]⟩ : ByteArray)]) (ok := fun _ => True) (okp := fun _ => True) ?hr ?hp (fun _ hk => hk) trivial (Below.refl _ _) (Nat.le_refl _) (by simp) ?_;(case hd => rfl);(case hg => rfl);(case hr => first|(go_simp;done)|(go_simp;rfl));(case hp => exact (Reps.one (show Kd.M Kd.string _ _ _ (⟨#[36]⟩ : ByteArray) [.string (⟨#[36]⟩ : ByteArray)] from rfl) (Reps.one (show Kd.M Kd.string _ _ _ (⟨#[65]⟩ : ByteArray) [.string (⟨#[65]⟩ : ByteArray)] from rfl) (Reps.one (show Kd.M Kd.string _ _ _ (⟨#[48,49]⟩ : ByteArray) [.string (⟨#[48,49]⟩ : ByteArray)] from rfl) (Reps.one (show Kd.M Kd.string _ _ _ (⟨#[49,48,48,48,48,48,48]⟩ : ByteArray) [.string (⟨#[49,48,48,48,48,48,48]⟩ : ByteArray)] from rfl) (Reps.one (show Kd.M Kd.string _ _ _ (⟨#[57,57,57,57,57,57]⟩ : ByteArray) [.string (⟨#[57,57,57,57,57,57]⟩ : ByteArray)] from rfl) (Reps.one (show Kd.M Kd.string _ _ _ (⟨#[115,101,118,101,110,108,101]⟩ : ByteArray) [.string (⟨#[115,101,118,101,110,108,101]⟩ : ByteArray)] from rfl) (Reps.one (show Kd.M Kd.string _ _ _ (⟨#[60]⟩ : ByteArray) [.string (⟨#[60]⟩ : ByteArray)] from rfl) (Reps.one (show Kd.M Kd.string _ _ _ (⟨#[9]⟩ : ByteArray) [.string (⟨#[9]⟩ : ByteArray)] from rfl) (Reps.none _ _))))))))));intro v247 w11 ho12 hb hg_ hnew_;clear hg_ hnew_;(first|rw [← Ny246.out] at ho12|(simp only [Int.reduceToNat] at ho12;rw [← Ny246.out] at ho12));have n0_ := mk0 (Kd.R_lower ho12 (below_size (by repeat (first|(with_reducible first|exact HB.out|apply bA|apply bN|apply bD|refine bS ?_ (IsS74.ge HI239.out))|exact HB.out))));have n1_ := mk0 (IsS74.below (by repeat (first|(with_reducible first|exact HI239.out|apply IsS74.alloc|apply IsS74.drewN|apply IsS74.drew|apply IsS74.set_1|apply IsS74.set_2)|exact HI239.out)) hb);have n2_ := mk0 (below_step (by repeat (first|(with_reducible first|exact HB.out|apply bA|apply bN|apply bD|refine bS ?_ (IsS74.ge HI239.out))|exact HB.out)) hb);clear HI239;clear HB;have HO248 := n0_;have HI239 := n1_;have HB := n2_;clear n0_ n1_ n2_;clear hb ho12;obtain ⟨Ao13,co13,eo13⟩ := Kd.R_slice HO248.out;subst eo13)|((with_reducible refine gate_callee (f := 42) rfl ?_);refine goesL_ (some 18) rfl rfl Tryd.func42 (by kernel_rfl) rfl #[.pointer (some ⟨g239,0,none⟩),.slice Ao13 y246.length co13] rfl (by (try simp only [List.map_toArray,List.map_cons,List.map_nil]);first|done|rfl) ?_;(with_reducible refine (spec_l1Str.calls g239 t236 t244 t245 _ _ y246 t249 t250 t251 w _ ?side1 ?side2 ?side3 ?side4 ?side5 A6.out).mono ?_);(case side1 => repeat (first|(with_reducible first|exact HI239.out|apply IsS74.alloc|apply IsS74.drewN|apply IsS74.drew|apply IsS74.set_1|apply IsS74.set_2)|exact HI239.out));(case side2 => repeat (first|(with_reducible first|exact HB.out|apply bA|apply bN|apply bD|refine bS ?_ (IsS74.ge HI239.out))|exact HB.out));(case side3 => repeat (first|exact (Kd.R_reads' HO248.out).2.2|(with_reducible refine cA ?_ _)|(with_reducible refine cN ?_ _)|(with_reducible refine cD ?_)));(case side4 => exact (Kd.R_reads' HO248.out).2.1);(case side5 => exact far_slice (IsS74.own_ne HI239.out HO248.out (by decide)));rintro e w14 ⟨rfl,hi,hb,hk⟩;refine ⟨_,rfl,?_⟩;have n0_ := mk0 (Kd.R_mono (Kd.R_keep (IsS74.apart (show IsS74 w _ g239 t236 t244 t245 from by repeat (first|(with_reducible first|exact HI239.out|apply IsS74.alloc|apply IsS74.drewN|apply IsS74.drew|apply IsS74.set_1|apply IsS74.set_2)|exact HI239.out)) (by exact rX HO248.out) (by decide)) hk (fun _ h => h.2)) (fun _ h => h.1));have n1_ := mk0 (hb);have n2_ := mk0 (hi);clear HO248;clear HB;clear HI239;have HO248 := n0_;have HB := n1_;have HI239 := n2_;clear n0_ n1_ n2_;(try clear hb);(try clear hb2);(try clear hk);(try clear hi)))
   go_ret
   exact ⟨by first|rfl|(simp [errW_none,errW_some] <;> rfl)|(simp [*,errW_none,errW_some] <;> rfl),by repeat (first|(with_reducible first|exact HB.out|apply bA|apply bN|apply bD|refine bS ?_ (IsS74.ge HI239.out))|exact HB.out)⟩
  ·rw [if_neg c7] at H
   exact absurd H (by simp)
 ·rw [if_neg c5] at H
  have c5b0 : (t243 == 0) = false := beq_eq_false_iff_ne.mpr c5
  have c5b1 : (t243 != 0) = true := bne_iff_ne.mpr c5
  by_cases c15 : t243 = 1
  ·rw [if_pos c15] at H
   have c15b0 : (t243 == 1) = true := beq_iff_eq.mpr c15
   have c15b1 : (t243 != 1) = false := bne_eq_false_iff_eq.mpr c15
   clear c15
   replace H := Option.bind_eq_some_iff.mp H
   obtain ⟨⟨t252,t253,t254⟩,A160,H⟩ := H
   replace H : (some t252) = some r := H
   have A16 := mk0 A160
   clear A160
   obtain rfl := Option.some.inj H
   go_enter Tryd.func26,Tryd.ntmps26
   go_wp2_with (first|((with_reducible refine gate_callee (f := 40) rfl ?_);refine goesL_ (some 8) rfl rfl Tryd.func40 (by kernel_rfl) rfl #[.slice A0 l0.length c0] rfl (by (try simp only [List.map_toArray,List.map_cons,List.map_nil]);first|done|rfl) ?_;(with_reducible refine (spec_l1New.calls k _ _ l0 t236 t237 t238 w _ ?side1 ?side2 ?side3 A2.out).mono ?_);(case side1 => repeat (first|(with_reducible first|exact HB.out|apply bA|apply bN|apply bD)|exact HB.out));(case side2 => exact HR0.out);(case side3 => exact HC0.out);rintro e w17 ⟨g239,rfl,hi,hb,hb2⟩;refine ⟨_,rfl,?_⟩;have n0_ := mk0 (hb);have n1_ := mk0 (hi);clear HB;have HB := n0_;have HI239 := n1_;clear n0_ n1_;(try clear hb);(try clear hb2);(try clear hk);(try clear hi))|((with_reducible refine gate_callee (f := 48) rfl ?_);refine goesL_ (some 10) rfl rfl Tryd.func48 (by kernel_rfl) rfl #[.pointer (some ⟨g239,0,none⟩)] rfl (by (try simp only [List.map_toArray,List.map_cons,List.map_nil]);first|done|rfl) ?_;(with_reducible refine (spec_l2Text.calls k g239 t236 t237 t238 t240 t241 t242 w _ ?side1 ?side2 A3.out).mono ?_);(case side1 => repeat (first|(with_reducible first|exact HI239.out|apply IsS74.alloc|apply IsS74.drewN|apply IsS74.drew|apply IsS74.set_1|apply IsS74.set_2)|exact HI239.out));(case side2 => repeat (first|(with_reducible first|exact HB.out|apply bA|apply bN|apply bD|refine bS ?_ (IsS74.ge HI239.out))|exact HB.out));rintro e w18 ⟨rfl,hi,hb,hk⟩;refine ⟨_,rfl,?_⟩;have n0_ := mk0 (hb);have n1_ := mk0 (hi);clear HB;clear HI239;have HB := n0_;have HI239 := n1_;clear n0_ n1_;(try clear hb);(try clear hb2);(try clear hk);(try clear hi))|((with_reducible refine gate_callee (f := 43) rfl ?_);refine goesL_ (some 12) rfl rfl Tryd.func43 (by kernel_rfl) rfl #[.pointer (some ⟨g239,0,none⟩),.int .i64 8] rfl (by (try simp only [List.map_toArray,List.map_cons,List.map_nil]);first|done|rfl) ?_;(with_reducible refine (spec_l1Below.calls g239 t236 t241 t242 8 t243 t244 t245 w _ ?side1 ?side2 A4.out).mono ?_);(case side1 => repeat (first|(with_reducible first|exact HI239.out|apply IsS74.alloc|apply IsS74.drewN|apply IsS74.drew|apply IsS74.set_1|apply IsS74.set_2)|exact HI239.out));(case side2 => repeat (first|(with_reducible first|exact HB.out|apply bA|apply bN|apply bD|refine bS ?_ (IsS74.ge HI239.out))|exact HB.out));rintro e w19 ⟨rfl,hi,hb,hk⟩;refine ⟨_,rfl,?_⟩;have n0_ := mk0 (hb);have n1_ := mk0 (hi);clear HB;clear HI239;have HB := n0_;have HI239 := n1_;clear n0_ n1_;(try clear hb);(try clear hb2);(try clear hk);(try clear hi))|((with_reducible refine gate_callee (f := 49) rfl ?_);refine goesL_ (some 23) rfl rfl Tryd.func49 (by kernel_rfl) rfl #[.pointer (some ⟨g239,0,none⟩)] rfl (by (try simp only [List.map_toArray,List.map_cons,List.map_nil]);first|done|rfl) ?_;(with_reducible refine (spec_l2Prog.calls g239 t236 t244 t245 t252 t253 t254 w _ ?side1 ?side2 A16.out).mono ?_);(case side1 => repeat (first|(with_reducible first|exact HI239.out|apply IsS74.alloc|apply IsS74.drewN|apply IsS74.drew|apply IsS74.set_1|apply IsS74.set_2)|exact HI239.out));(case side2 => repeat (first|(with_reducible first|exact HB.out|apply bA|apply bN|apply bD|refine bS ?_ (IsS74.ge HI239.out))|exact HB.out));rintro e w20 ⟨rfl,hi,hb,hk⟩;refine ⟨_,rfl,?_⟩;have n0_ := mk0 (hb);have n1_ := mk0 (hi);clear HB;clear HI239;have HB := n0_;have HI239 := n1_;clear n0_ n1_;(try clear hb);(try clear hb2);(try clear hk);(try clear hi)))
   go_ret
   exact ⟨by first|rfl|(simp [errW_none,errW_some] <;> rfl)|(simp [*,errW_none,errW_some] <;> rfl),by repeat (first|(with_reducible first|exact HB.out|apply bA|apply bN|apply bD|refine bS ?_ (IsS74.ge HI239.out))|exact HB.out)⟩
  ·rw [if_neg c15] at H
   have c15b0 : (t243 == 1) = false := beq_eq_false_iff_ne.mpr c15
   have c15b1 : (t243 != 1) = true := bne_iff_ne.mpr c15
   by_cases c21 : t243 = 2
   ·rw [if_pos c21] at H
    have c21b0 : (t243 == 2) = true := beq_iff_eq.mpr c21
    have c21b1 : (t243 != 2) = false := bne_eq_false_iff_eq.mpr c21
    clear c21
    replace H := Option.bind_eq_some_iff.mp H
    obtain ⟨⟨t255,t256,t257⟩,A220,H⟩ := H
    replace H : (if 0 ≤ t255 then (if t255 ≤ (t240.size : Int) then ((spec_l1Str.f t236 t256 t257 (([(⟨#[32]⟩ : ByteArray),(⟨#[57]⟩ : ByteArray),(⟨#[120]⟩ : ByteArray),(⟨#[255]⟩ : ByteArray)] : List ByteArray))).bind fun bt261 => (if (t240.extract 0 (t255 : Int).toNat).size + bt261.1.size ≤ 9223372036854775807 then (if ((t240.extract 0 (t255 : Int).toNat) ++ bt261.1).size + (t240.extract (t255 : Int).toNat t240.size).size ≤ 9223372036854775807 then (some (((t240.extract 0 (t255 : Int).toNat) ++ bt261.1) ++ (t240.extract (t255 : Int).toNat t240.size))) else (none)) else (none))) else (none)) else (none)) = some r := H
    have A22 := mk0 A220
    clear A220
    by_cases c23 : 0 ≤ t255
    ·rw [if_pos c23] at H
     have c23b0 := eq_true c23
     have c23b1 : decide (0 ≤ t255) = true := decide_eq_true c23
     clear c23
     by_cases c24 : t255 ≤ (t240.size : Int)
     ·rw [if_pos c24] at H
      have c24b0 := eq_true c24
      have c24b1 : decide (t255 ≤ (t240.size : Int)) = true := decide_eq_true c24
      clear c24
      obtain ⟨y258,hy258⟩ : ∃ y_ : List ByteArray,y_ = (([(⟨#[32]⟩ : ByteArray),(⟨#[57]⟩ : ByteArray),(⟨#[120]⟩ : ByteArray),(⟨#[255]⟩ : ByteArray)] : List ByteArray)) := ⟨_,rfl⟩
      replace H : ((spec_l1Str.f t236 t256 t257 y258).bind fun bt261 => (if (t240.extract 0 (t255 : Int).toNat).size + bt261.1.size ≤ 9223372036854775807 then (if ((t240.extract 0 (t255 : Int).toNat) ++ bt261.1).size + (t240.extract (t255 : Int).toNat t240.size).size ≤ 9223372036854775807 then (some (((t240.extract 0 (t255 : Int).toNat) ++ bt261.1) ++ (t240.extract (t255 : Int).toNat t240.size))) else (none)) else (none))) = some r := by first|(rw [hy258];with_reducible exact H)|(have H2_ := (Option.bind_some _ _).symm.trans H;rw [hy258];with_reducible exact H2_)|(have H2_ := (Option.bind_some _ _).symm.trans H;with_reducible exact H2_)|with_reducible exact H|(rw [hy258];exact H)|exact H
      have Ny258 := mk0 hy258
      clear hy258
      replace H := Option.bind_eq_some_iff.mp H
      obtain ⟨⟨t261,t262,t263⟩,A250,H⟩ := H
      replace H : (if (t240.extract 0 (t255 : Int).toNat).size + t261.size ≤ 9223372036854775807 then (if ((t240.extract 0 (t255 : Int).toNat) ++ t261).size + (t240.extract (t255 : Int).toNat t240.size).size ≤ 9223372036854775807 then (some (((t240.extract 0 (t255 : Int).toNat) ++ t261) ++ (t240.extract (t255 : Int).toNat t240.size))) else (none)) else (none)) = some r := H
      have A25 := mk0 A250
      clear A250
      by_cases c26 : (t240.extract 0 (t255 : Int).toNat).size + t261.size ≤ 9223372036854775807
      ·rw [if_pos c26] at H
       have c26b0 := eq_true c26
       have c26b1 : decide ((t240.extract 0 (t255 : Int).toNat).size + t261.size ≤ 9223372036854775807) = true := decide_eq_true c26
       try have c26b2 : (9223372036854775807 < (t240.extract 0 (t255 : Int).toNat).size + t261.size) = False := eq_false (Nat.not_lt.2 c26)
       try have c26b9 : (9223372036854775807 < t255.toNat + t261.size) = False := eq_false (by have q_ := c26;simp only [ByteArray.size_append,ByteArray.size_extract] at q_;have h0_ : t255 ≤ (t240.size : Int) := of_eq_true (by assumption);omega)
       have c27b0 := eq_true (of_decide_eq_true (by first|(with_reducible assumption)|assumption) : 0 ≤ t255)
       have c28b0 := eq_true (of_decide_eq_true (by first|(with_reducible assumption)|assumption) : t255 ≤ (t240.size : Int))
       by_cases c29 : ((t240.extract 0 (t255 : Int).toNat) ++ t261).size + (t240.extract (t255 : Int).toNat t240.size).size ≤ 9223372036854775807
       ·rw [if_pos c29] at H
        have c29b0 := eq_true c29
        have c29b1 : decide (((t240.extract 0 (t255 : Int).toNat) ++ t261).size + (t240.extract (t255 : Int).toNat t240.size).size ≤ 9223372036854775807) = true := decide_eq_true c29
        try have c29b2 : (9223372036854775807 < ((t240.extract 0 (t255 : Int).toNat) ++ t261).size + (t240.extract (t255 : Int).toNat t240.size).size) = False := eq_false (Nat.not_lt.2 c29)
        try have c29b9 : (9223372036854775807 < t255.toNat + t261.size + (t240.size - t255.toNat)) = False := eq_false (by have q_ := c29;simp only [ByteArray.size_append,ByteArray.size_extract] at q_;have h0_ : t255 ≤ (t240.size : Int) := of_eq_true (by assumption);omega)
        obtain rfl := Option.some.inj H
        go_enter Tryd.func26,Tryd.ntmps26
        try go_wp2_with (first|((with_reducible refine gate_callee (f := 40) rfl ?_);refine goesL_ (some 8) rfl rfl Tryd.func40 (by kernel_rfl) rfl #[.slice A0 l0.length c0] rfl (by (try simp only [List.map_toArray,List.map_cons,List.map_nil]);first|done|rfl) ?_;(with_reducible refine (spec_l1New.calls k _ _ l0 t236 t237 t238 w _ ?side1 ?side2 ?side3 A2.out).mono ?_);(case side1 => repeat (first|(with_reducible first|exact HB.out|apply bA|apply bN|apply bD)|exact HB.out));(case side2 => exact HR0.out);(case side3 => exact HC0.out);rintro e w30 ⟨g239,rfl,hi,hb,hb2⟩;refine ⟨_,rfl,?_⟩;have n0_ := mk0 (hb);have n1_ := mk0 (hi);clear HB;have HB := n0_;have HI239 := n1_;clear n0_ n1_;(try clear hb);(try clear hb2);(try clear hk);(try clear hi))|((with_reducible refine gate_callee (f := 48) rfl ?_);refine goesL_ (some 10) rfl rfl Tryd.func48 (by kernel_rfl) rfl #[.pointer (some ⟨g239,0,none⟩)] rfl (by (try simp only [List.map_toArray,List.map_cons,List.map_nil]);first|done|rfl) ?_;(with_reducible refine (spec_l2Text.calls k g239 t236 t237 t238 t240 t241 t242 w _ ?side1 ?side2 A3.out).mono ?_);(case side1 => repeat (first|(with_reducible first|exact HI239.out|apply IsS74.alloc|apply IsS74.drewN|apply IsS74.drew|apply IsS74.set_1|apply IsS74.set_2)|exact HI239.out));(case side2 => repeat (first|(with_reducible first|exact HB.out|apply bA|apply bN|apply bD|refine bS ?_ (IsS74.ge HI239.out))|exact HB.out));rintro e w31 ⟨rfl,hi,hb,hk⟩;refine ⟨_,rfl,?_⟩;have n0_ := mk0 (hb);have n1_ := mk0 (hi);clear HB;clear HI239;have HB := n0_;have HI239 := n1_;clear n0_ n1_;(try clear hb);(try clear hb2);(try clear hk);(try clear hi))|((with_reducible refine gate_callee (f := 43) rfl ?_);refine goesL_ (some 12) rfl rfl Tryd.func43 (by kernel_rfl) rfl #[.pointer (some ⟨g239,0,none⟩),.int .i64 8] rfl (by (try simp only [List.map_toArray,List.map_cons,List.map_nil]);first|done|rfl) ?_;(with_reducible refine (spec_l1Below.calls g239 t236 t241 t242 8 t243 t244 t245 w _ ?side1 ?side2 A4.out).mono ?_);(case side1 => repeat (first|(with_reducible first|exact HI239.out|apply IsS74.alloc|apply IsS74.drewN|apply IsS74.drew|apply IsS74.set_1|apply IsS74.set_2)|exact HI239.out));(case side2 => repeat (first|(with_reducible first|exact HB.out|apply bA|apply bN|apply bD|refine bS ?_ (IsS74.ge HI239.out))|exact HB.out));rintro e w32 ⟨rfl,hi,hb,hk⟩;refine ⟨_,rfl,?_⟩;have n0_ := mk0 (hb);have n1_ := mk0 (hi);clear HB;clear HI239;have HB := n0_;have HI239 := n1_;clear n0_ n1_;(try clear hb);(try clear hb2);(try clear hk);(try clear hi))|((with_reducible refine gate_callee (f := 43) rfl ?_);refine goesL_ (some 30) rfl rfl Tryd.func43 (by kernel_rfl) rfl #[.pointer (some ⟨g239,0,none⟩),.int .i64 (wrap64 ((t240.size : Int) + 1))] rfl (by (try simp only [List.map_toArray,List.map_cons,List.map_nil]);first|done|rfl) ?_;(with_reducible refine (spec_l1Below.calls g239 t236 t244 t245 (wrap64 ((t240.size : Int) + 1)) t255 t256 t257 w _ ?side1 ?side2 A22.out).mono ?_);(case side1 => repeat (first|(with_reducible first|exact HI239.out|apply IsS74.alloc|apply IsS74.drewN|apply IsS74.drew|apply IsS74.set_1|apply IsS74.set_2)|exact HI239.out));(case side2 => repeat (first|(with_reducible first|exact HB.out|apply bA|apply bN|apply bD|refine bS ?_ (IsS74.ge HI239.out))|exact HB.out));rintro e w33 ⟨rfl,hi,hb,hk⟩;refine ⟨_,rfl,?_⟩;have n0_ := mk0 (hb);have n1_ := mk0 (hi);clear HB;clear HI239;have HB := n0_;have HI239 := n1_;clear n0_ n1_;(try clear hb);(try clear hb2);(try clear hk);(try clear hi)))
        have n0_ := mk0 (IsS74.drew HI239.out)
        have n1_ := mk0 (bD HB.out)
        clear HI239
        clear HB
        have HI239 := n0_
        have HB := n1_
        clear n0_ n1_
        refine start_ (n := 12) (S := fun w' => True) (ds := []) #[false,false,false,false,false,false,false,false,false,false,false,false] (by kernel_rfl) rfl rfl trivial (fun hHeld => ?_);refine with_tabW spec_DrawLex.tab10 spec_DrawLex.bits10 (fun HT_ HW_ => ?_)
        generalize w33.drew = w34 at HI239 HB hHeld ⊢
        refine pure_ (i := 0) (N := some 31) (v := ?_) (a' := ?_) #[true,false,false,false,false,false,false,false,false,false,false,false] rfl rfl (any_of HT_.out (by kernel_rfl)) (fun _ _ _ h => h) (Or.inl ⟨by rfl,?_⟩) ?_ ?_
        rotate_left
        ·intro w'
         go_simp
         with_reducible rfl
        rotate_left
        ·simp only [Act.put,List.setIfInBounds_toArray,List.set_cons_zero,List.set_cons_succ,i64_w,i32_w]
         rfl
        refine pure_ (i := 1) (N := some 32) (v := ?_) (a' := ?_) #[true,true,false,false,false,false,false,false,false,false,false,false] rfl rfl (any_of HT_.out (by kernel_rfl)) (fun _ _ _ h => h) (Or.inl ⟨by rfl,?_⟩) ?_ ?_
        rotate_left
        ·intro w'
         go_simp
         with_reducible rfl
        rotate_left
        ·simp only [Act.put,List.setIfInBounds_toArray,List.set_cons_zero,List.set_cons_succ,i64_w,i32_w]
         rfl
        refine pure_ (i := 2) (N := some 33) (v := ?_) (a' := ?_) #[true,true,true,false,false,false,false,false,false,false,false,false] rfl rfl (any_of HT_.out (by kernel_rfl)) (fun _ _ _ h => h) (Or.inl ⟨by rfl,?_⟩) ?_ ?_
        rotate_left
        ·intro w'
         go_simp
         with_reducible rfl
        rotate_left
        ·simp only [Act.put,List.setIfInBounds_toArray,List.set_cons_zero,List.set_cons_succ,i64_w,i32_w]
         rfl
        refine pure_ (i := 3) (N := some 34) (v := ?_) (a' := ?_) #[true,true,true,true,false,false,false,false,false,false,false,false] rfl rfl (any_of HT_.out (by kernel_rfl)) (fun _ _ _ h => h) (Or.inl ⟨by rfl,?_⟩) ?_ ?_
        rotate_left
        ·intro w'
         go_simp
         with_reducible rfl
        rotate_left
        ·simp only [Act.put,List.setIfInBounds_toArray,List.set_cons_zero,List.set_cons_succ,i64_w,i32_w]
         rfl
        refine pure_ (i := 7) (N := some 38) (v := ?_) (a' := ?_) #[true,true,true,true,false,false,false,true,false,false,false,false] rfl rfl (any_of HT_.out (by kernel_rfl)) (fun _ _ _ h => h) (Or.inl ⟨by rfl,?_⟩) ?_ ?_
        rotate_left
        ·intro w'
         go_simp
         with_reducible rfl
        rotate_left
        ·simp only [Act.put,List.setIfInBounds_toArray,List.set_cons_zero,List.set_cons_succ,i64_w,i32_w]
         rfl
        refine pure_ (i := 8) (N := some 39) (v := ?_) (a' := ?_) #[true,true,true,true,false,false,false,true,true,false,false,false] rfl rfl (any_of HT_.out (by kernel_rfl)) (fun _ _ _ h => h) (Or.inl ⟨by rfl,?_⟩) ?_ ?_
        rotate_left
        ·intro w'
         go_simp
         with_reducible rfl
        rotate_left
        ·simp only [Act.put,List.setIfInBounds_toArray,List.set_cons_zero,List.set_cons_succ,i64_w,i32_w]
         rfl
        refine pure_ (i := 9) (N := some 40) (v := ?_) (a' := ?_) #[true,true,true,true,false,false,false,true,true,true,false,false] rfl rfl (any_of HT_.out (by kernel_rfl)) (fun _ _ _ h => h) (Or.inl ⟨by rfl,?_⟩) ?_ ?_
        rotate_left
        ·intro w'
         go_simp
         with_reducible rfl
        rotate_left
        ·simp only [Act.put,List.setIfInBounds_toArray,List.set_cons_zero,List.set_cons_succ,i64_w,i32_w]
         rfl
        refine one_ (i := 4) (N := some 35) #[true,true,true,true,true,false,false,true,true,true,false,false] rfl rfl (one_of HT_.out (by kernel_rfl)) (by decide) (fun K hK => ?_)
        refine Kd.R_lit_step Kd.string _ 9 ?hg (N := 35) ?hd (xs := ([(⟨#[32]⟩ : ByteArray),(⟨#[57]⟩ : ByteArray),(⟨#[120]⟩ : ByteArray),(⟨#[255]⟩ : ByteArray)] : List ByteArray)) (inner := [.string (⟨#[32]⟩ : ByteArray),.string (⟨#[57]⟩ : ByteArray),.string (⟨#[120]⟩ : ByteArray),.string (⟨#[255]⟩ : ByteArray)]) (ok := fun _ => True) (okp := fun _ => True) ?hr ?hp (fun _ hk => hk) trivial (Below.refl _ _) (Nat.le_refl _) (by simp) ?_;(case hd => rfl);(case hg => rfl);(case hr => first|(go_simp;done)|(go_simp;rfl));(case hp => exact (Reps.one (show Kd.M Kd.string _ _ _ (⟨#[32]⟩ : ByteArray) [.string (⟨#[32]⟩ : ByteArray)] from rfl) (Reps.one (show Kd.M Kd.string _ _ _ (⟨#[57]⟩ : ByteArray) [.string (⟨#[57]⟩ : ByteArray)] from rfl) (Reps.one (show Kd.M Kd.string _ _ _ (⟨#[120]⟩ : ByteArray) [.string (⟨#[120]⟩ : ByteArray)] from rfl) (Reps.one (show Kd.M Kd.string _ _ _ (⟨#[255]⟩ : ByteArray) [.string (⟨#[255]⟩ : ByteArray)] from rfl) (Reps.none _ _))))))
        intro v259 w35 ho36 hb hg_ hnew_
        clear hg_ hnew_
        (first|rw [← Ny258.out] at ho36|(simp only [Int.reduceToNat] at ho36;rw [← Ny258.out] at ho36))
        have n0_ := mk0 (Kd.R_lower ho36 (below_size (by repeat (first|(with_reducible first|exact HB.out|apply bA|apply bN|apply bD|refine bS ?_ (IsS74.ge HI239.out))|exact HB.out))))
        have n1_ := mk0 (IsS74.below (by repeat (first|(with_reducible first|exact HI239.out|apply IsS74.alloc|apply IsS74.drewN|apply IsS74.drew|apply IsS74.set_1|apply IsS74.set_2)|exact HI239.out)) hb)
        have n2_ := mk0 (below_step (by repeat (first|(with_reducible first|exact HB.out|apply bA|apply bN|apply bD|refine bS ?_ (IsS74.ge HI239.out))|exact HB.out)) hb)
        clear HI239
        clear HB
        have HO260 := n0_
        have HI239 := n1_
        have HB := n2_
        clear n0_ n1_ n2_
        clear hb ho36
        obtain ⟨Ao37,co37,eo37⟩ := Kd.R_slice HO260.out
        (first|subst eo37|(injection eo37 with f1_ f2_ f3_;have f4_ := f1_.symm;have f5_ := f3_.symm;clear f1_ f2_ f3_;subst f4_;subst f5_))
        refine hK.out _ _ trivial (fun hHeld => ?_)
        clear hK K
        refine norm_ (a' := ?_) ?_ ?_
        rotate_left
        ·show Act.put _ (some 35) _ = _
         simp only [Act.put,List.setIfInBounds_toArray,List.set_cons_zero,List.set_cons_succ,i64_w,i32_w]
         rfl
        refine one_ (i := 5) (N := some 36) #[true,true,true,true,true,true,false,true,true,true,false,false] rfl rfl (one_of HT_.out (by kernel_rfl)) (by decide) (fun K hK => ?_)
        refine goes_ Tryd.func42 (by kernel_rfl) rfl #[.pointer (some ⟨g239,0,none⟩),.slice Ao37 y258.length co37] (by rfl) rfl rfl (by (try simp only [List.map_toArray,List.map_cons,List.map_nil]);first|done|rfl) ?_
        with_reducible refine (spec_l1Str.calls g239 t236 t256 t257 _ _ y258 t261 t262 t263 w _ ?side1 ?side2 ?side3 ?side4 ?side5 A25.out).mono ?_
        (case side1 => repeat (first|(with_reducible first|exact HI239.out|apply IsS74.alloc|apply IsS74.drewN|apply IsS74.drew|apply IsS74.set_1|apply IsS74.set_2)|exact HI239.out))
        (case side2 => repeat (first|(with_reducible first|exact HB.out|apply bA|apply bN|apply bD|refine bS ?_ (IsS74.ge HI239.out))|exact HB.out))
        (case side3 => repeat (first|exact (Kd.R_reads' HO260.out).2.2|(with_reducible refine cA ?_ _)|(with_reducible refine cN ?_ _)|(with_reducible refine cD ?_)))
        (case side4 => exact (Kd.R_reads' HO260.out).2.1)
        (case side5 => exact far_slice (IsS74.own_ne HI239.out HO260.out (by decide)))
        rintro e w38 ⟨rfl,hi,hb,hk⟩
        refine ⟨_,rfl,?_⟩
        have n0_ := mk0 (Kd.R_mono (Kd.R_keep (IsS74.apart (show IsS74 w _ g239 t236 t256 t257 from by repeat (first|(with_reducible first|exact HI239.out|apply IsS74.alloc|apply IsS74.drewN|apply IsS74.drew|apply IsS74.set_1|apply IsS74.set_2)|exact HI239.out)) (by exact rX HO260.out) (by decide)) hk (fun _ h => h.2)) (fun _ h => h.1))
        have n1_ := mk0 (hb)
        have n2_ := mk0 (hi)
        clear HO260
        clear HB
        clear HI239
        have HO260 := n0_
        have HB := n1_
        have HI239 := n2_
        clear n0_ n1_ n2_
        (try clear hb)
        (try clear hb2)
        (try clear hk)
        (try clear hi)
        refine hK.out _ _ trivial (fun hHeld => ?_)
        clear hK K
        refine norm_ (a' := ?_) ?_ ?_
        rotate_left
        ·show Act.put _ (some 36) _ = _
         simp only [Act.put,List.setIfInBounds_toArray,List.set_cons_zero,List.set_cons_succ,i64_w,i32_w]
         rfl
        refine pure_ (i := 6) (N := some 37) (v := ?_) (a' := ?_) #[true,true,true,true,true,true,true,true,true,true,false,false] rfl rfl (any_of HT_.out (by kernel_rfl)) (fun _ _ _ h => h) (Or.inl ⟨by rfl,?_⟩) ?_ ?_
        rotate_left
        ·intro w'
         go_simp
         with_reducible rfl
        rotate_left
        ·simp only [Act.put,List.setIfInBounds_toArray,List.set_cons_zero,List.set_cons_succ,i64_w,i32_w]
         rfl
        refine pure_ (i := 10) (N := some 41) (v := ?_) (a' := ?_) #[true,true,true,true,true,true,true,true,true,true,true,false] rfl rfl (any_of HT_.out (by kernel_rfl)) (fun _ _ _ h => h) (Or.inl ⟨by rfl,?_⟩) ?_ ?_
        rotate_left
        ·intro w'
         go_simp
         with_reducible rfl
        rotate_left
        ·simp only [Act.put,List.setIfInBounds_toArray,List.set_cons_zero,List.set_cons_succ,i64_w,i32_w]
         rfl
        refine pure_ (i := 11) (N := some 2) (v := ?_) (a' := ?_) #[true,true,true,true,true,true,true,true,true,true,true,true] rfl rfl (any_of HT_.out (by kernel_rfl)) (fun _ _ _ h => h) (Or.inl ⟨by rfl,?_⟩) ?_ ?_
        rotate_left
        ·intro w'
         go_simp
         with_reducible rfl
        rotate_left
        ·simp only [Act.put,List.setIfInBounds_toArray,List.set_cons_zero,List.set_cons_succ,i64_w,i32_w]
         rfl
        refine done_ (done_of HT_.out (by kernel_rfl)) ?_
        try go_wp2
        go_ret
        exact ⟨by first|rfl|(simp [errW_none,errW_some] <;> rfl)|(simp [*,errW_none,errW_some] <;> rfl),by repeat (first|(with_reducible first|exact HB.out|apply bA|apply bN|apply bD|refine bS ?_ (IsS74.ge HI239.out))|exact HB.out)⟩
       ·rw [if_neg c29] at H
        exact absurd H (by simp)
      ·rw [if_neg c26] at H
       exact absurd H (by simp)
     ·rw [if_neg c24] at H
      exact absurd H (by simp)
    ·rw [if_neg c23] at H
     exact absurd H (by simp)
   ·rw [if_neg c21] at H
    have c21b0 : (t243 == 2) = false := beq_eq_false_iff_ne.mpr c21
    have c21b1 : (t243 != 2) = true := bne_iff_ne.mpr c21
    replace H := Option.bind_eq_some_iff.mp H
    obtain ⟨⟨t264,t265,t266⟩,A390,H⟩ := H
    replace H : (if t264 = true then (spec_DrawLex.l0 k t240 0 t236 t265 t266) else (some t240)) = some r := H
    have A39 := mk0 A390
    clear A390
    by_cases c40 : t264 = true
    ·subst c40
     rw [if_pos rfl] at H
     have H' := mk0 H
     clear H
     go_enter Tryd.func26,Tryd.ntmps26
     go_wp2_with (first|((with_reducible refine gate_callee (f := 40) rfl ?_);refine goesL_ (some 8) rfl rfl Tryd.func40 (by kernel_rfl) rfl #[.slice A0 l0.length c0] rfl (by (try simp only [List.map_toArray,List.map_cons,List.map_nil]);first|done|rfl) ?_;(with_reducible refine (spec_l1New.calls k _ _ l0 t236 t237 t238 w _ ?side1 ?side2 ?side3 A2.out).mono ?_);(case side1 => repeat (first|(with_reducible first|exact HB.out|apply bA|apply bN|apply bD)|exact HB.out));(case side2 => exact HR0.out);(case side3 => exact HC0.out);rintro e w41 ⟨g239,rfl,hi,hb,hb2⟩;refine ⟨_,rfl,?_⟩;have n0_ := mk0 (hb);have n1_ := mk0 (hi);clear HB;have HB := n0_;have HI239 := n1_;clear n0_ n1_;(try clear hb);(try clear hb2);(try clear hk);(try clear hi))|((with_reducible refine gate_callee (f := 48) rfl ?_);refine goesL_ (some 10) rfl rfl Tryd.func48 (by kernel_rfl) rfl #[.pointer (some ⟨g239,0,none⟩)] rfl (by (try simp only [List.map_toArray,List.map_cons,List.map_nil]);first|done|rfl) ?_;(with_reducible refine (spec_l2Text.calls k g239 t236 t237 t238 t240 t241 t242 w _ ?side1 ?side2 A3.out).mono ?_);(case side1 => repeat (first|(with_reducible first|exact HI239.out|apply IsS74.alloc|apply IsS74.drewN|apply IsS74.drew|apply IsS74.set_1|apply IsS74.set_2)|exact HI239.out));(case side2 => repeat (first|(with_reducible first|exact HB.out|apply bA|apply bN|apply bD|refine bS ?_ (IsS74.ge HI239.out))|exact HB.out));rintro e w42 ⟨rfl,hi,hb,hk⟩;refine ⟨_,rfl,?_⟩;have n0_ := mk0 (hb);have n1_ := mk0 (hi);clear HB;clear HI239;have HB := n0_;have HI239 := n1_;clear n0_ n1_;(try clear hb);(try clear hb2);(try clear hk);(try clear hi))|((with_reducible refine gate_callee (f := 43) rfl ?_);refine goesL_ (some 12) rfl rfl Tryd.func43 (by kernel_rfl) rfl #[.pointer (some ⟨g239,0,none⟩),.int .i64 8] rfl (by (try simp only [List.map_toArray,List.map_cons,List.map_nil]);first|done|rfl) ?_;(with_reducible refine (spec_l1Below.calls g239 t236 t241 t242 8 t243 t244 t245 w _ ?side1 ?side2 A4.out).mono ?_);(case side1 => repeat (first|(with_reducible first|exact HI239.out|apply IsS74.alloc|apply IsS74.drewN|apply IsS74.drew|apply IsS74.set_1|apply IsS74.set_2)|exact HI239.out));(case side2 => repeat (first|(with_reducible first|exact HB.out|apply bA|apply bN|apply bD|refine bS ?_ (IsS74.ge HI239.out))|exact HB.out));rintro e w43 ⟨rfl,hi,hb,hk⟩;refine ⟨_,rfl,?_⟩;have n0_ := mk0 (hb);have n1_ := mk0 (hi);clear HB;clear HI239;have HB := n0_;have HI239 := n1_;clear n0_ n1_;(try clear hb);(try clear hb2);(try clear hk);(try clear hi))|((with_reducible refine gate_callee (f := 41) rfl ?_);refine goesL_ (some 43) rfl rfl Tryd.func41 (by kernel_rfl) rfl #[.pointer (some ⟨g239,0,none⟩),.int .i64 50] rfl (by (try simp only [List.map_toArray,List.map_cons,List.map_nil]);first|done|rfl) ?_;(with_reducible refine (spec_l1Once.calls g239 t236 t244 t245 50 true t265 t266 w _ ?side1 ?side2 A39.out).mono ?_);(case side1 => repeat (first|(with_reducible first|exact HI239.out|apply IsS74.alloc|apply IsS74.drewN|apply IsS74.drew|apply IsS74.set_1|apply IsS74.set_2)|exact HI239.out));(case side2 => repeat (first|(with_reducible first|exact HB.out|apply bA|apply bN|apply bD|refine bS ?_ (IsS74.ge HI239.out))|exact HB.out));rintro e w44 ⟨rfl,hi,hb,hk⟩;refine ⟨_,rfl,?_⟩;have n0_ := mk0 (hb);have n1_ := mk0 (hi);clear HB;clear HI239;have HB := n0_;have HI239 := n1_;clear n0_ n1_;(try clear hb);(try clear hb2);(try clear hk);(try clear hi)))
     go_loopg [4,6] k (fun kq v4 v6 w' => ∃ (x4_1 : ByteArray) (x6_1 : Int) (x240001_1 : Int) (x240002_1 : Int),v4 = .string x4_1 ∧ v6 = .int .i64 x6_1 ∧ Aside0 (spec_DrawLex.l0 kq x4_1 x6_1 t236 x240001_1 x240002_1 = some r) ∧ Aside0 (kq ≤ k) ∧ Aside0 (IsS74 w w' g239 t236 x240001_1 x240002_1) ∧ Aside0 (Below w.heap.size w w'))
     case atStart => exact ⟨(t240),(0),(t265),(t266),(by first|rfl|(simp;done)|(simp [*];done)),(by first|rfl|(simp;done)|(simp [*];done)),H',⟨Nat.le_refl _⟩,⟨by repeat (first|(with_reducible first|exact HI239.out|apply IsS74.alloc|apply IsS74.drewN|apply IsS74.drew|apply IsS74.set_1|apply IsS74.set_2)|exact HI239.out)⟩,⟨by repeat (first|(with_reducible first|exact HB.out|apply bA|apply bN|apply bD|refine bS ?_ (IsS74.ge HI239.out))|exact HB.out)⟩⟩
     case round =>
      clear H'
      try clear c1
      try clear c2
      try clear p2
      try clear c4
      try clear c5
      try clear c5b0
      try clear c5b1
      try clear p6
      try clear c7
      try clear c7b0
      try clear c7b1
      try clear c7b2
      try clear c15
      try clear c15b0
      try clear c15b1
      try clear c21
      try clear c21b0
      try clear c21b1
      try clear c23
      try clear c23b0
      try clear c23b1
      try clear c24
      try clear c24b0
      try clear c24b1
      try clear c26
      try clear c26b0
      try clear c26b1
      try clear c26b2
      try clear c27
      try clear c27b0
      try clear c28
      try clear c28b0
      try clear c29
      try clear c29b0
      try clear c29b1
      try clear c29b2
      try clear c40
      try clear c41
      try clear c42
      try clear c43
      obtain ⟨x4_1,x6_1,x240001_1,x240002_1,rfl,rfl,HA,HK1,HI239,HB⟩ := hrel
      cases gk with
           |zero => exact absurd HA.out (by simp [spec_DrawLex.l0])
           |succ k1 =>
       have H := HA.out
       clear HA
       simp only [spec_DrawLex.l0] at H
       replace H := Option.bind_eq_some_iff.mp H
       obtain ⟨⟨t267,t268,t269⟩,A450,H⟩ := H
       replace H : (if x6_1 < (wrap64 (599 + t267)) then (if x4_1.size + 1 ≤ 9223372036854775807 then (spec_DrawLex.l0 k1 (x4_1 ++ (⟨#[59]⟩ : ByteArray)) (wrap64 (x6_1 + 1)) t236 t268 t269) else (none)) else (some x4_1)) = some r := H
       have A45 := mk0 A450
       clear A450
       by_cases c46 : x6_1 < (wrap64 (599 + t267))
       ·rw [if_pos c46] at H
        have c46b0 : decide (x6_1 < (wrap64 (599 + t267))) = true := decide_eq_true c46
        clear c46
        by_cases c47 : x4_1.size + 1 ≤ 9223372036854775807
        ·rw [if_pos c47] at H
         have c47b0 := eq_true c47
         have c47b1 : decide (x4_1.size + 1 ≤ 9223372036854775807) = true := decide_eq_true c47
         try have c47b2 : (9223372036854775807 < x4_1.size + 1) = False := eq_false (Nat.not_lt.2 c47)
         have H' := mk0 H
         clear H
         go_wp2_with (first|((with_reducible refine gate_callee (f := 43) rfl ?_);refine goesL_ (some 46) rfl rfl Tryd.func43 (by kernel_rfl) rfl #[.pointer (some ⟨g239,0,none⟩),.int .i64 3] rfl (by (try simp only [List.map_toArray,List.map_cons,List.map_nil]);first|done|rfl) ?_;(with_reducible refine (spec_l1Below.calls g239 t236 x240001_1 x240002_1 3 t267 t268 t269 w _ ?side1 ?side2 A45.out).mono ?_);(case side1 => repeat (first|(with_reducible first|exact HI239.out|apply IsS74.alloc|apply IsS74.drewN|apply IsS74.drew|apply IsS74.set_1|apply IsS74.set_2)|exact HI239.out));(case side2 => repeat (first|(with_reducible first|exact HB.out|apply bA|apply bN|apply bD|refine bS ?_ (IsS74.ge HI239.out))|exact HB.out));rintro e w48 ⟨rfl,hi,hb,hk⟩;refine ⟨_,rfl,?_⟩;have n0_ := mk0 (hb);have n1_ := mk0 (hi);clear HB;clear HI239;have HB := n0_;have HI239 := n1_;clear n0_ n1_;(try clear hb);(try clear hb2);(try clear hk);(try clear hi)))
         go_roundg k1
         case measure => have := HK1.out;omega
         case rel => exact ⟨(x4_1 ++ (⟨#[59]⟩ : ByteArray)),(wrap64 (x6_1 + 1)),(t268),(t269),(by first|rfl|(simp;done)|(simp [*];done)),(by first|rfl|(simp;done)|(simp [*];done)),H',⟨by have := HK1.out;omega⟩,⟨by repeat (first|(with_reducible first|exact HI239.out|apply IsS74.alloc|apply IsS74.drewN|apply IsS74.drew|apply IsS74.set_1|apply IsS74.set_2)|exact HI239.out)⟩,⟨by repeat (first|(with_reducible first|exact HB.out|apply bA|apply bN|apply bD|refine bS ?_ (IsS74.ge HI239.out))|exact HB.out)⟩⟩
        ·rw [if_neg c47] at H
         exact absurd H (by simp)
       ·rw [if_neg c46] at H
        have c46b0 : decide (x6_1 < (wrap64 (599 + t267))) = false := decide_eq_false c46
        clear c46
        obtain rfl := Option.some.inj H
        go_wp2_with (first|((with_reducible refine gate_callee (f := 43) rfl ?_);refine goesL_ (some 46) rfl rfl Tryd.func43 (by kernel_rfl) rfl #[.pointer (some ⟨g239,0,none⟩),.int .i64 3] rfl (by (try simp only [List.map_toArray,List.map_cons,List.map_nil]);first|done|rfl) ?_;(with_reducible refine (spec_l1Below.calls g239 t236 x240001_1 x240002_1 3 t267 t268 t269 w _ ?side1 ?side2 A45.out).mono ?_);(case side1 => repeat (first|(with_reducible first|exact HI239.out|apply IsS74.alloc|apply IsS74.drewN|apply IsS74.drew|apply IsS74.set_1|apply IsS74.set_2)|exact HI239.out));(case side2 => repeat (first|(with_reducible first|exact HB.out|apply bA|apply bN|apply bD|refine bS ?_ (IsS74.ge HI239.out))|exact HB.out));rintro e w49 ⟨rfl,hi,hb,hk⟩;refine ⟨_,rfl,?_⟩;have n0_ := mk0 (hb);have n1_ := mk0 (hi);clear HB;clear HI239;have HB := n0_;have HI239 := n1_;clear n0_ n1_;(try clear hb);(try clear hb2);(try clear hk);(try clear hi)))
        go_ret
        exact ⟨by first|rfl|(simp [errW_none,errW_some] <;> rfl)|(simp [*,errW_none,errW_some] <;> rfl),by repeat (first|(with_reducible first|exact HB.out|apply bA|apply bN|apply bD|refine bS ?_ (IsS74.ge HI239.out))|exact HB.out)⟩
    ·replace c40 := Bool.eq_false_iff.mpr c40
     subst c40
     rw [if_neg (show ¬ (false = true) by decide)] at H
     obtain rfl := Option.some.inj H
     go_enter Tryd.func26,Tryd.ntmps26
     go_wp2_with (first|((with_reducible refine gate_callee (f := 40) rfl ?_);refine goesL_ (some 8) rfl rfl Tryd.func40 (by kernel_rfl) rfl #[.slice A0 l0.length c0] rfl (by (try simp only [List.map_toArray,List.map_cons,List.map_nil]);first|done|rfl) ?_;(with_reducible refine (spec_l1New.calls k _ _ l0 t236 t237 t238 w _ ?side1 ?side2 ?side3 A2.out).mono ?_);(case side1 => repeat (first|(with_reducible first|exact HB.out|apply bA|apply bN|apply bD)|exact HB.out));(case side2 => exact HR0.out);(case side3 => exact HC0.out);rintro e w50 ⟨g239,rfl,hi,hb,hb2⟩;refine ⟨_,rfl,?_⟩;have n0_ := mk0 (hb);have n1_ := mk0 (hi);clear HB;have HB := n0_;have HI239 := n1_;clear n0_ n1_;(try clear hb);(try clear hb2);(try clear hk);(try clear hi))|((with_reducible refine gate_callee (f := 48) rfl ?_);refine goesL_ (some 10) rfl rfl Tryd.func48 (by kernel_rfl) rfl #[.pointer (some ⟨g239,0,none⟩)] rfl (by (try simp only [List.map_toArray,List.map_cons,List.map_nil]);first|done|rfl) ?_;(with_reducible refine (spec_l2Text.calls k g239 t236 t237 t238 t240 t241 t242 w _ ?side1 ?side2 A3.out).mono ?_);(case side1 => repeat (first|(with_reducible first|exact HI239.out|apply IsS74.alloc|apply IsS74.drewN|apply IsS74.drew|apply IsS74.set_1|apply IsS74.set_2)|exact HI239.out));(case side2 => repeat (first|(with_reducible first|exact HB.out|apply bA|apply bN|apply bD|refine bS ?_ (IsS74.ge HI239.out))|exact HB.out));rintro e w51 ⟨rfl,hi,hb,hk⟩;refine ⟨_,rfl,?_⟩;have n0_ := mk0 (hb);have n1_ := mk0 (hi);clear HB;clear HI239;have HB := n0_;have HI239 := n1_;clear n0_ n1_;(try clear hb);(try clear hb2);(try clear hk);(try clear hi))|((with_reducible refine gate_callee (f := 43) rfl ?_);refine goesL_ (some 12) rfl rfl Tryd.func43 (by kernel_rfl) rfl #[.pointer (some ⟨g239,0,none⟩),.int .i64 8] rfl (by (try simp only [List.map_toArray,List.map_cons,List.map_nil]);first|done|rfl) ?_;(with_reducible refine (spec_l1Below.calls g239 t236 t241 t242 8 t243 t244 t245 w _ ?side1 ?side2 A4.out).mono ?_);(case side1 => repeat (first|(with_reducible first|exact HI239.out|apply IsS74.alloc|apply IsS74.drewN|apply IsS74.drew|apply IsS74.set_1|apply IsS74.set_2)|exact HI239.out));(case side2 => repeat (first|(with_reducible first|exact HB.out|apply bA|apply bN|apply bD|refine bS ?_ (IsS74.ge HI239.out))|exact HB.out));rintro e w52 ⟨rfl,hi,hb,hk⟩;refine ⟨_,rfl,?_⟩;have n0_ := mk0 (hb);have n1_ := mk0 (hi);clear HB;clear HI239;have HB := n0_;have HI239 := n1_;clear n0_ n1_;(try clear hb);(try clear hb2);(try clear hk);(try clear hi))|((with_reducible refine gate_callee (f := 41) rfl ?_);refine goesL_ (some 43) rfl rfl Tryd.func41 (by kernel_rfl) rfl #[.pointer (some ⟨g239,0,none⟩),.int .i64 50] rfl (by (try simp only [List.map_toArray,List.map_cons,List.map_nil]);first|done|rfl) ?_;(with_reducible refine (spec_l1Once.calls g239 t236 t244 t245 50 false t265 t266 w _ ?side1 ?side2 A39.out).mono ?_);(case side1 => repeat (first|(with_reducible first|exact HI239.out|apply IsS74.alloc|apply IsS74.drewN|apply IsS74.drew|apply IsS74.set_1|apply IsS74.set_2)|exact HI239.out));(case side2 => repeat (first|(with_reducible first|exact HB.out|apply bA|apply bN|apply bD|refine bS ?_ (IsS74.ge HI239.out))|exact HB.out));rintro e w53 ⟨rfl,hi,hb,hk⟩;refine ⟨_,rfl,?_⟩;have n0_ := mk0 (hb);have n1_ := mk0 (hi);clear HB;clear HI239;have HB := n0_;have HI239 := n1_;clear n0_ n1_;(try clear hb);(try clear hb2);(try clear hk);(try clear hi)))
     go_ret
     exact ⟨by first|rfl|(simp [errW_none,errW_some] <;> rfl)|(simp [*,errW_none,errW_some] <;> rfl),by repeat (first|(with_reducible first|exact HB.out|apply bA|apply bN|apply bD|refine bS ?_ (IsS74.ge HI239.out))|exact HB.out)⟩

/-! ### spec_DrawNameOk: function 27 -/
def spec_DrawNameOk.f (k : Nat) (l0 : List Int) : Option (ByteArray) := (spec_l1New.f k l0).bind fun bt270 => ((spec_l1Str.f bt270.1 bt270.2.1 bt270.2.2 (([(⟨#[]⟩ : ByteArray),(⟨#[97]⟩ : ByteArray),(⟨#[115,105,120,108,101,116]⟩ : ByteArray),(⟨#[115,101,118,101,110,108,101]⟩ : ByteArray),(⟨#[102,111,114]⟩ : ByteArray),(⟨#[109,105,110]⟩ : ByteArray),(⟨#[65]⟩ : ByteArray),(⟨#[97,49]⟩ : ByteArray),(⟨#[105]⟩ : ByteArray)] : List ByteArray))).bind fun bt277 => (some bt277.1))
theorem spec_DrawNameOk.mono : ∀ a0 k, LeO (spec_DrawNameOk.f k a0) (spec_DrawNameOk.f (k + 1) a0) := by
 intro a0 k
 unfold spec_DrawNameOk.f
 repeat' first
   | (with_reducible exact spec_l1New.mono _ _)
   | (with_reducible exact LeO.refl _)
   | (with_reducible exact LeO.none _)
   | (with_reducible refine LeO.ite ?_ ?_)
   | (with_reducible refine LeO.bind ?_ (fun _ => ?_))
   | exact spec_l1New.mono _ _
   | exact LeO.none _
   | refine LeO.ite ?_ ?_
   | refine LeO.bind ?_ (fun _ => ?_)
set_option maxHeartbeats 8000000 in
set_option maxRecDepth 100000 in
theorem spec_DrawNameOk.calls (k : Nat) (A0 : Option Addr) (c0 : Nat) (l0 : List Int) (r : ByteArray) (w : World) (hr0 : Kd.C (Kd.int .u8) w A0 l0.length l0) (hc0 : l0.length ≤ c0) (h : spec_DrawNameOk.f k l0 = some r) :
  Calls Tryd.prog 27 #[.slice A0 l0.length c0] w fun e w' => e = .returned (.string r) ∧ Below w.heap.size w w' := by
 have HR0 := mk0 hr0
 have HC0 := mk0 hc0
 clear hr0 hc0
 have HB := mk0 (Below.refl w.heap.size w)
 have H : ((spec_l1New.f k l0).bind fun bt270 => ((spec_l1Str.f bt270.1 bt270.2.1 bt270.2.2 (([(⟨#[]⟩ : ByteArray),(⟨#[97]⟩ : ByteArray),(⟨#[115,105,120,108,101,116]⟩ : ByteArray),(⟨#[115,101,118,101,110,108,101]⟩ : ByteArray),(⟨#[102,111,114]⟩ : ByteArray),(⟨#[109,105,110]⟩ : ByteArray),(⟨#[65]⟩ : ByteArray),(⟨#[97,49]⟩ : ByteArray),(⟨#[105]⟩ : ByteArray)] : List ByteArray))).bind fun bt277 => (some bt277.1))) = some r := h
 clear h
 replace H := Option.bind_eq_some_iff.mp H
 obtain ⟨⟨t270,t271,t272⟩,A20,H⟩ := H
 replace H : ((spec_l1Str.f t270 t271 t272 (([(⟨#[]⟩ : ByteArray),(⟨#[97]⟩ : ByteArray),(⟨#[115,105,120,108,101,116]⟩ : ByteArray),(⟨#[115,101,118,101,110,108,101]⟩ : ByteArray),(⟨#[102,111,114]⟩ : ByteArray),(⟨#[109,105,110]⟩ : ByteArray),(⟨#[65]⟩ : ByteArray),(⟨#[97,49]⟩ : ByteArray),(⟨#[105]⟩ : ByteArray)] : List ByteArray))).bind fun bt277 => (some bt277.1)) = some r := H
 have A2 := mk0 A20
 clear A20
 obtain ⟨y274,hy274⟩ : ∃ y_ : List ByteArray,y_ = (([(⟨#[]⟩ : ByteArray),(⟨#[97]⟩ : ByteArray),(⟨#[115,105,120,108,101,116]⟩ : ByteArray),(⟨#[115,101,118,101,110,108,101]⟩ : ByteArray),(⟨#[102,111,114]⟩ : ByteArray),(⟨#[109,105,110]⟩ : ByteArray),(⟨#[65]⟩ : ByteArray),(⟨#[97,49]⟩ : ByteArray),(⟨#[105]⟩ : ByteArray)] : List ByteArray)) := ⟨_,rfl⟩
 replace H : ((spec_l1Str.f t270 t271 t272 y274).bind fun bt277 => (some bt277.1)) = some r := by first|(rw [hy274];with_reducible exact H)|(have H2_ := (Option.bind_some _ _).symm.trans H;rw [hy274];with_reducible exact H2_)|(have H2_ := (Option.bind_some _ _).symm.trans H;with_reducible exact H2_)|with_reducible exact H|(rw [hy274];exact H)|exact H
 have Ny274 := mk0 hy274
 clear hy274
 replace H := Option.bind_eq_some_iff.mp H
 obtain ⟨⟨t277,t278,t279⟩,A30,H⟩ := H
 replace H : (some t277) = some r := H
 have A3 := mk0 A30
 clear A30
 obtain rfl := Option.some.inj H
 go_enter Tryd.func27,Tryd.ntmps27
 go_wp2_with (first|((with_reducible refine gate_callee (f := 40) rfl ?_);refine goesL_ (some 5) rfl rfl Tryd.func40 (by kernel_rfl) rfl #[.slice A0 l0.length c0] rfl (by (try simp only [List.map_toArray,List.map_cons,List.map_nil]);first|done|rfl) ?_;(with_reducible refine (spec_l1New.calls k _ _ l0 t270 t271 t272 w _ ?side1 ?side2 ?side3 A2.out).mono ?_);(case side1 => repeat (first|(with_reducible first|exact HB.out|apply bA|apply bN|apply bD)|exact HB.out));(case side2 => exact HR0.out);(case side3 => exact HC0.out);rintro e w4 ⟨g273,rfl,hi,hb,hb2⟩;refine ⟨_,rfl,?_⟩;have n0_ := mk0 (hb);have n1_ := mk0 (hi);clear HB;have HB := n0_;have HI273 := n1_;clear n0_ n1_;(try clear hb);(try clear hb2);(try clear hk);(try clear hi))|((with_reducible refine gate_dst (N := 7) rfl ?_);refine Kd.R_lit Kd.string _ 9 ?hg (N := 7) ?hd (xs := ([(⟨#[]⟩ : ByteArray),(⟨#[97]⟩ : ByteArray),(⟨#[115,105,120,108,101,116]⟩ : ByteArray),(⟨#[115,101,118,101,110,108,101]⟩ : ByteArray),(⟨#[102,111,114]⟩ : ByteArray),(⟨#[109,105,110]⟩ : ByteArray),(⟨#[65]⟩ : ByteArray),(⟨#[97,49]⟩ : ByteArray),(⟨#[105]⟩ : ByteArray)] : List ByteArray)) (inner := [.string (⟨#[]⟩ : ByteArray),.string (⟨#[97]⟩ : ByteArray),.string (⟨#[115,105,120,108,101,116]⟩ : ByteArray),.string (⟨#[115,101,118,101,110,108,101]⟩ : ByteArray),.string (⟨#[102,111,114]⟩ : ByteArray),.string (⟨#[109,105,110]⟩ : ByteArray),.string (⟨#[65]⟩ : ByteArray),.string (⟨#[97,49]⟩ : ByteArray),.string (⟨#[105]⟩ : ByteArray)]) (ok := fun _ => True) (okp := fun _ => True) ?hr ?hp (fun _ hk => hk) trivial (Below.refl _ _) (Nat.le_refl _) (by simp) ?_;(case hd => rfl);(case hg => rfl);(case hr => first|(go_simp;done)|(go_simp;rfl));(case hp => exact (Reps.one (show Kd.M Kd.string _ _ _ (⟨#[]⟩ : ByteArray) [.string (⟨#[]⟩ : ByteArray)] from rfl) (Reps.one (show Kd.M Kd.string _ _ _ (⟨#[97]⟩ : ByteArray) [.string (⟨#[97]⟩ : ByteArray)] from rfl) (Reps.one (show Kd.M Kd.string _ _ _ (⟨#[115,105,120,108,101,116]⟩ : ByteArray) [.string (⟨#[115,105,120,108,101,116]⟩ : ByteArray)] from rfl) (Reps.one (show Kd.M Kd.string _ _ _ (⟨#[115,101,118,101,110,108,101]⟩ : ByteArray) [.string (⟨#[115,101,118,101,110,108,101]⟩ : ByteArray)] from rfl) (Reps.one (show Kd.M Kd.string _ _ _ (⟨#[102,111,114]⟩ : ByteArray) [.string (⟨#[102,111,114]⟩ : ByteArray)] from rfl) (Reps.one (show Kd.M Kd.string _ _ _ (⟨#[109,105,110]⟩ : ByteArray) [.string (⟨#[109,105,110]⟩ : ByteArray)] from rfl) (Reps.one (show Kd.M Kd.string _ _ _ (⟨#[65]⟩ : ByteArray) [.string (⟨#[65]⟩ : ByteArray)] from rfl) (Reps.one (show Kd.M Kd.string _ _ _ (⟨#[97,49]⟩ : ByteArray) [.string (⟨#[97,49]⟩ : ByteArray)] from rfl) (Reps.one (show Kd.M Kd.string _ _ _ (⟨#[105]⟩ : ByteArray) [.string (⟨#[105]⟩ : ByteArray)] from rfl) (Reps.none _ _)))))))))));intro v275 w5 ho6 hb hg_ hnew_;clear hg_ hnew_;(first|rw [← Ny274.out] at ho6|(simp only [Int.reduceToNat] at ho6;rw [← Ny274.out] at ho6));have n0_ := mk0 (Kd.R_lower ho6 (below_size (by repeat (first|(with_reducible first|exact HB.out|apply bA|apply bN|apply bD|refine bS ?_ (IsS74.ge HI273.out))|exact HB.out))));have n1_ := mk0 (IsS74.below (by repeat (first|(with_reducible first|exact HI273.out|apply IsS74.alloc|apply IsS74.drewN|apply IsS74.drew|apply IsS74.set_1|apply IsS74.set_2)|exact HI273.out)) hb);have n2_ := mk0 (below_step (by repeat (first|(with_reducible first|exact HB.out|apply bA|apply bN|apply bD|refine bS ?_ (IsS74.ge HI273.out))|exact HB.out)) hb);clear HI273;clear HB;have HO276 := n0_;have HI273 := n1_;have HB := n2_;clear n0_ n1_ n2_;clear hb ho6;obtain ⟨Ao7,co7,eo7⟩ := Kd.R_slice HO276.out;subst eo7)|((with_reducible refine gate_callee (f := 42) rfl ?_);refine goesL_ (some 8) rfl rfl Tryd.func42 (by kernel_rfl) rfl #[.pointer (some ⟨g273,0,none⟩),.slice Ao7 y274.length co7] rfl (by (try simp only [List.map_toArray,List.map_cons,List.map_nil]);first|done|rfl) ?_;(with_reducible refine (spec_l1Str.calls g273 t270 t271 t272 _ _ y274 t277 t278 t279 w _ ?side1 ?side2 ?side3 ?side4 ?side5 A3.out).mono ?_);(case side1 => repeat (first|(with_reducible first|exact HI273.out|apply IsS74.alloc|apply IsS74.drewN|apply IsS74.drew|apply IsS74.set_1|apply IsS74.set_2)|exact HI273.out));(case side2 => repeat (first|(with_reducible first|exact HB.out|apply bA|apply bN|apply bD|refine bS ?_ (IsS74.ge HI273.out))|exact HB.out));(case side3 => repeat (first|exact (Kd.R_reads' HO276.out).2.2|(with_reducible refine cA ?_ _)|(with_reducible refine cN ?_ _)|(with_reducible refine cD ?_)));(case side4 => exact (Kd.R_reads' HO276.out).2.1);(case side5 => exact far_slice (IsS74.own_ne HI273.out HO276.out (by decide)));rintro e w8 ⟨rfl,hi,hb,hk⟩;refine ⟨_,rfl,?_⟩;have n0_ := mk0 (Kd.R_mono (Kd.R_keep (IsS74.apart (show IsS74 w _ g273 t270 t271 t272 from by repeat (first|(with_reducible first|exact HI273.out|apply IsS74.alloc|apply IsS74.drewN|apply IsS74.drew|apply IsS74.set_1|apply IsS74.set_2)|exact HI273.out)) (by exact rX HO276.out) (by decide)) hk (fun _ h => h.2)) (fun _ h => h.1));have n1_ := mk0 (hb);have n2_ := mk0 (hi);clear HO276;clear HB;clear HI273;have HO276 := n0_;have HB := n1_;have HI273 := n2_;clear n0_ n1_ n2_;(try clear hb);(try clear hb2);(try clear hk);(try clear hi)))
 go_ret
 exact ⟨by first|rfl|(simp [errW_none,errW_some] <;> rfl)|(simp [*,errW_none,errW_some] <;> rfl),by repeat (first|(with_reducible first|exact HB.out|apply bA|apply bN|apply bD|refine bS ?_ (IsS74.ge HI273.out))|exact HB.out)⟩

/-! ### spec_DrawTokText: function 28 -/
def spec_DrawTokText.f (k : Nat) (l0 : List Int) : Option ((List (S47))) := (spec_l1New.f k l0).bind fun bt280 => ((spec_l2Text.f k bt280.1 bt280.2.1 bt280.2.2).bind fun bt284 => ((spec_Lex.f k bt284.1).bind fun bt287 => (some bt287.1)))
theorem spec_DrawTokText.mono : ∀ a0 k, LeO (spec_DrawTokText.f k a0) (spec_DrawTokText.f (k + 1) a0) := by
 intro a0 k
 unfold spec_DrawTokText.f
 repeat' first
   | (with_reducible exact spec_Lex.mono _ _)
   | (with_reducible exact spec_l1New.mono _ _)
   | (with_reducible exact spec_l2Text.mono _ _ _ _)
   | (with_reducible exact LeO.refl _)
   | (with_reducible exact LeO.none _)
   | (with_reducible refine LeO.ite ?_ ?_)
   | (with_reducible refine LeO.bind ?_ (fun _ => ?_))
   | exact spec_Lex.mono _ _
   | exact spec_l1New.mono _ _
   | exact spec_l2Text.mono _ _ _ _
   | exact LeO.none _
   | refine LeO.ite ?_ ?_
   | refine LeO.bind ?_ (fun _ => ?_)
set_option maxHeartbeats 8000000 in
set_option maxRecDepth 100000 in
theorem spec_DrawTokText.calls (k : Nat) (A0 : Option Addr) (c0 : Nat) (l0 : List Int) (r : List (S47)) (w : World) (hr0 : Kd.C (Kd.int .u8) w A0 l0.length l0) (hc0 : l0.length ≤ c0) (h : spec_DrawTokText.f k l0 = some r) :
  Calls Tryd.prog 28 #[.slice A0 l0.length c0] w fun e w' => ∃ v0_ : Value, e = .returned (v0_) ∧ Kd.R k47 47 w' w.heap.size (fun _ => True) v0_ r ∧ Below w.heap.size w w' := by
 have HR0 := mk0 hr0
 have HC0 := mk0 hc0
 clear hr0 hc0
 have HB := mk0 (Below.refl w.heap.size w)
 have H : ((spec_l1New.f k l0).bind fun bt280 => ((spec_l2Text.f k bt280.1 bt280.2.1 bt280.2.2).bind fun bt284 => ((spec_Lex.f k bt284.1).bind fun bt287 => (some bt287.1)))) = some r := h
 clear h
 replace H := Option.bind_eq_some_iff.mp H
 obtain ⟨⟨t280,t281,t282⟩,A20,H⟩ := H
 replace H : ((spec_l2Text.f k t280 t281 t282).bind fun bt284 => ((spec_Lex.f k bt284.1).bind fun bt287 => (some bt287.1))) = some r := H
 have A2 := mk0 A20
 clear A20
 replace H := Option.bind_eq_some_iff.mp H
 obtain ⟨⟨t284,t285,t286⟩,A30,H⟩ := H
 replace H : ((spec_Lex.f k t284).bind fun bt287 => (some bt287.1)) = some r := H
 have A3 := mk0 A30
 clear A30
 replace H := Option.bind_eq_some_iff.mp H
 obtain ⟨⟨t287,t288⟩,A40,H⟩ := H
 replace H : (some t287) = some r := H
 have A4 := mk0 A40
 clear A40
 obtain rfl := Option.some.inj H
 go_enter Tryd.func28,Tryd.ntmps28
 go_wp2_with (first|((with_reducible refine gate_callee (f := 40) rfl ?_);refine goesL_ (some 7) rfl rfl Tryd.func40 (by kernel_rfl) rfl #[.slice A0 l0.length c0] rfl (by (try simp only [List.map_toArray,List.map_cons,List.map_nil]);first|done|rfl) ?_;(with_reducible refine (spec_l1New.calls k _ _ l0 t280 t281 t282 w _ ?side1 ?side2 ?side3 A2.out).mono ?_);(case side1 => repeat (first|(with_reducible first|exact HB.out|apply bA|apply bN|apply bD)|exact HB.out));(case side2 => exact HR0.out);(case side3 => exact HC0.out);rintro e w5 ⟨g283,rfl,hi,hb,hb2⟩;refine ⟨_,rfl,?_⟩;have n0_ := mk0 (hb);have n1_ := mk0 (hi);clear HB;have HB := n0_;have HI283 := n1_;clear n0_ n1_;(try clear hb);(try clear hb2);(try clear hk);(try clear hi))|((with_reducible refine gate_callee (f := 48) rfl ?_);refine goesL_ (some 10) rfl rfl Tryd.func48 (by kernel_rfl) rfl #[.pointer (some ⟨g283,0,none⟩)] rfl (by (try simp only [List.map_toArray,List.map_cons,List.map_nil]);first|done|rfl) ?_;(with_reducible refine (spec_l2Text.calls k g283 t280 t281 t282 t284 t285 t286 w _ ?side1 ?side2 A3.out).mono ?_);(case side1 => repeat (first|(with_reducible first|exact HI283.out|apply IsS74.alloc|apply IsS74.drewN|apply IsS74.drew|apply IsS74.set_1|apply IsS74.set_2)|exact HI283.out));(case side2 => repeat (first|(with_reducible first|exact HB.out|apply bA|apply bN|apply bD|refine bS ?_ (IsS74.ge HI283.out))|exact HB.out));rintro e w6 ⟨rfl,hi,hb,hk⟩;refine ⟨_,rfl,?_⟩;have n0_ := mk0 (hb);have n1_ := mk0 (hi);clear HB;clear HI283;have HB := n0_;have HI283 := n1_;clear n0_ n1_;(try clear hb);(try clear hb2);(try clear hk);(try clear hi))|((with_reducible refine gate_callee (f := 22) rfl ?_);refine goesL_ (some 11) rfl rfl Tryd.func22 (by kernel_rfl) rfl #[.string t284] rfl (by (try simp only [List.map_toArray,List.map_cons,List.map_nil]);first|done|rfl) ?_;(with_reducible refine (spec_Lex.calls k t284 t287 t288 _ A4.out).mono ?_);rintro e w7 ⟨v289,rfl,ho0,hb⟩;refine ⟨_,rfl,?_⟩;have n0_ := mk0 (Kd.R_lower ho0 (below_size (by repeat (first|(with_reducible first|exact HB.out|apply bA|apply bN|apply bD|refine bS ?_ (IsS74.ge HI283.out))|exact HB.out))));have n1_ := mk0 (IsS74.below (by repeat (first|(with_reducible first|exact HI283.out|apply IsS74.alloc|apply IsS74.drewN|apply IsS74.drew|apply IsS74.set_1|apply IsS74.set_2)|exact HI283.out)) hb);have n2_ := mk0 (below_step (by repeat (first|(with_reducible first|exact HB.out|apply bA|apply bN|apply bD|refine bS ?_ (IsS74.ge HI283.out))|exact HB.out)) hb);clear HI283;clear HB;have HO290 := n0_;have HI283 := n1_;have HB := n2_;clear n0_ n1_ n2_;(try clear hb);(try clear hb2);(try clear hk);(try clear hi);(try clear ho0)))
 go_ret
 exact ⟨_,by first|rfl|(simp [errW_none,errW_some] <;> rfl)|(simp [*,errW_none,errW_some] <;> rfl),by refine rX ?_;exact HO290.out,by repeat (first|(with_reducible first|exact HB.out|apply bA|apply bN|apply bD|refine bS ?_ (IsS74.ge HI283.out))|exact HB.out)⟩

/-! ### laws_sameToks: function 29 -/
def laws_sameToks.l0 : Nat → List (S47) → List (S47) → Int → Option (Bool)
 |0,_,_,_ => none
 |k + 1,x0,x1,x5 => if x5 < (x0.length : Int) then (if 0 ≤ x5 then (if x5 < (x1.length : Int) then (if (!(((rd_T47 x0 x5).f0) == ((rd_T47 x1 x5).f0)) || (!((((rd_T47 x0 x5).f1).toList) == (((rd_T47 x1 x5).f1).toList)) || (!(((rd_T47 x0 x5).f2) == ((rd_T47 x1 x5).f2))))) = true then (some false) else (laws_sameToks.l0 k x0 x1 (wrap64 (x5 + 1)))) else (none)) else (none)) else (some true)
def laws_sameToks.f (k : Nat) (l0 : List (S47)) (l1 : List (S47)) : Option (Bool) := if (l0.length : Int) = (l1.length : Int) then (laws_sameToks.l0 k l0 l1 0) else (some false)
theorem laws_sameToks.mono_l : ∀ k, (∀ y0 y1 y2, LeO (laws_sameToks.l0 k y0 y1 y2) (laws_sameToks.l0 (k + 1) y0 y1 y2))
 | 0 => fun _ _ _ r h => by simp [laws_sameToks.l0] at h
 | k + 1 => by
  have ih0 := laws_sameToks.mono_l k
  ·intro y0 y1 y2
   unfold laws_sameToks.l0
   repeat' first
   | (with_reducible exact ih0 _ _ _)
   | (with_reducible exact LeO.refl _)
   | (with_reducible exact LeO.none _)
   | (with_reducible refine LeO.ite ?_ ?_)
   | (with_reducible refine LeO.bind ?_ (fun _ => ?_))
   | exact ih0 _ _ _
   | exact LeO.none _
   | refine LeO.ite ?_ ?_
   | refine LeO.bind ?_ (fun _ => ?_)
theorem laws_sameToks.mono : ∀ a0 a1 k, LeO (laws_sameToks.f k a0 a1) (laws_sameToks.f (k + 1) a0 a1) := by
 intro a0 a1 k
 have ih0 := laws_sameToks.mono_l k
 unfold laws_sameToks.f
 repeat' first
   | (with_reducible exact ih0 _ _ _)
   | (with_reducible exact LeO.refl _)
   | (with_reducible exact LeO.none _)
   | (with_reducible refine LeO.ite ?_ ?_)
   | (with_reducible refine LeO.bind ?_ (fun _ => ?_))
   | exact ih0 _ _ _
   | exact LeO.none _
   | refine LeO.ite ?_ ?_
   | refine LeO.bind ?_ (fun _ => ?_)
set_option maxHeartbeats 8000000 in
set_option maxRecDepth 100000 in
theorem laws_sameToks.calls (k : Nat) (A0 : Option Addr) (c0 : Nat) (l0 : List (S47)) (A1 : Option Addr) (c1 : Nat) (l1 : List (S47)) (r : Bool) (w : World) (hr0 : Kd.C k47 w A0 l0.length l0) (hc0 : l0.length ≤ c0) (hr1 : Kd.C k47 w A1 l1.length l1) (hc1 : l1.length ≤ c1) (h : laws_sameToks.f k l0 l1 = some r) :
  Calls Tryd.prog 29 #[.slice A0 l0.length c0, .slice A1 l1.length c1] w fun e w' => e = .returned (.bool r) ∧ Drawn0 w w' := by
 have hu47 := Tryd.underlying47
 have HR0 := mk0 hr0
 have HC0 := mk0 hc0
 clear hr0 hc0
 have HR1 := mk0 hr1
 have HC1 := mk0 hc1
 clear hr1 hc1
 have H : (if (l0.length : Int) = (l1.length : Int) then (laws_sameToks.l0 k l0 l1 0) else (some false)) = some r := h
 clear h
 by_cases c3 : (l0.length : Int) = (l1.length : Int)
 ·rw [if_pos c3] at H
  have c3b0 : ((l0.length : Int) == (l1.length : Int)) = true := beq_iff_eq.mpr c3
  have c3b1 : ((l0.length : Int) != (l1.length : Int)) = false := bne_eq_false_iff_eq.mpr c3
  have c3b2 : (l0.length == l1.length) = true := by first|simpa using c3|(simp at c3 ⊢;omega)
  clear c3
  have H' := mk0 H
  clear H
  go_enter Tryd.func29,Tryd.ntmps29
  go_wp2
  repeat (go_quiet (fail);try go_wp2)
  go_loopg [5] k (fun kq v5 w' => ∃ (x5_1 : Int),v5 = .int .i64 x5_1 ∧ Aside0 (laws_sameToks.l0 kq l0 l1 x5_1 = some r) ∧ Aside0 (kq ≤ k) ∧ Drawn0 w w')
  case atStart => exact ⟨(0),(by first|rfl|(simp;done)|(simp [*];done)),H',⟨Nat.le_refl _⟩,by repeat (first|exact Drawn0.refl _|apply Drawn0.step)⟩
  case round =>
   clear H'
   try clear c1
   try clear c2
   try clear p2
   try clear c3
   try clear c3b0
   try clear c3b1
   try clear c3b2
   obtain ⟨x5_1,rfl,HA,HK1,⟨m1,rfl⟩⟩ := hrel
   cases gk with
     |zero => exact absurd HA.out (by simp [laws_sameToks.l0])
     |succ k1 =>
    have H := HA.out
    clear HA
    simp only [laws_sameToks.l0] at H
    by_cases c4 : x5_1 < (l0.length : Int)
    ·rw [if_pos c4] at H
     have c4b0 : decide (x5_1 < (l0.length : Int)) = true := decide_eq_true c4
     clear c4
     by_cases c5 : 0 ≤ x5_1
     ·rw [if_pos c5] at H
      have c5b0 : decide (0 ≤ x5_1) = true := decide_eq_true c5
      clear c5
      by_cases c6 : x5_1 < (l1.length : Int)
      ·rw [if_pos c6] at H
       have c6b0 : decide (x5_1 < (l1.length : Int)) = true := decide_eq_true c6
       clear c6
       by_cases c7 : (!(((rd_T47 l0 x5_1).f0) == ((rd_T47 l1 x5_1).f0)) || (!((((rd_T47 l0 x5_1).f1).toList) == (((rd_T47 l1 x5_1).f1).toList)) || (!(((rd_T47 l0 x5_1).f2) == ((rd_T47 l1 x5_1).f2))))) = true
       ·rw [if_pos c7] at H
        have c7b0 : (!(((rd_T47 l0 x5_1).f0) == ((rd_T47 l1 x5_1).f0)) || (!((((rd_T47 l0 x5_1).f1).toList) == (((rd_T47 l1 x5_1).f1).toList)) || (!(((rd_T47 l0 x5_1).f2) == ((rd_T47 l1 x5_1).f2))))) = true := c7
        clear c7
        obtain rfl := Option.some.inj H
        have p291 : 0 ≤ (x5_1 : Int) := of_decide_eq_true (by first|(with_reducible assumption)|assumption)
        have q291 : x5_1 < (l0.length : Int) := of_decide_eq_true (by first|(with_reducible assumption)|assumption)
        obtain ⟨ad291,e291,hx291_0,hx291_1,hx291_2⟩ := at_T47 HR0.out x5_1 p291 q291
        cases e291
        replace p291 := eq_true p291
        replace q291 := eq_true q291
        have p292 : 0 ≤ (x5_1 : Int) := of_decide_eq_true (by first|(with_reducible assumption)|assumption)
        have q292 : x5_1 < (l1.length : Int) := of_decide_eq_true (by first|(with_reducible assumption)|assumption)
        obtain ⟨ad292,e292,hx292_0,hx292_1,hx292_2⟩ := at_T47 HR1.out x5_1 p292 q292
        cases e292
        replace p292 := eq_true p292
        replace q292 := eq_true q292
        go_wp2
        repeat (go_quiet (fail);try go_wp2)
        go_ret
        exact ⟨by first|rfl|(simp;done)|(simp [*];done),by repeat (first|exact Drawn0.refl _|apply Drawn0.step)⟩
       ·rw [if_neg c7] at H
        have c7b0 : (!(((rd_T47 l0 x5_1).f0) == ((rd_T47 l1 x5_1).f0)) || (!((((rd_T47 l0 x5_1).f1).toList) == (((rd_T47 l1 x5_1).f1).toList)) || (!(((rd_T47 l0 x5_1).f2) == ((rd_T47 l1 x5_1).f2))))) = false := by simpa using c7
        clear c7
        have H' := mk0 H
        clear H
        have p291 : 0 ≤ (x5_1 : Int) := of_decide_eq_true (by first|(with_reducible assumption)|assumption)
        have q291 : x5_1 < (l0.length : Int) := of_decide_eq_true (by first|(with_reducible assumption)|assumption)
        obtain ⟨ad291,e291,hx291_0,hx291_1,hx291_2⟩ := at_T47 HR0.out x5_1 p291 q291
        cases e291
        replace p291 := eq_true p291
        replace q291 := eq_true q291
        have p292 : 0 ≤ (x5_1 : Int) := of_decide_eq_true (by first|(with_reducible assumption)|assumption)
        have q292 : x5_1 < (l1.length : Int) := of_decide_eq_true (by first|(with_reducible assumption)|assumption)
        obtain ⟨ad292,e292,hx292_0,hx292_1,hx292_2⟩ := at_T47 HR1.out x5_1 p292 q292
        cases e292
        replace p292 := eq_true p292
        replace q292 := eq_true q292
        go_wp2
        repeat (go_quiet (fail);try go_wp2)
        go_roundg k1
        case measure => have := HK1.out;omega
        case rel => exact ⟨(wrap64 (x5_1 + 1)),(by first|rfl|(simp;done)|(simp [*];done)),H',⟨by have := HK1.out;omega⟩,by repeat (first|exact Drawn0.refl _|apply Drawn0.step)⟩
      ·rw [if_neg c6] at H
       exact absurd H (by simp)
     ·rw [if_neg c5] at H
      exact absurd H (by simp)
    ·rw [if_neg c4] at H
     have c4b0 : decide (x5_1 < (l0.length : Int)) = false := decide_eq_false c4
     clear c4
     obtain rfl := Option.some.inj H
     go_wp2
     repeat (go_quiet (fail);try go_wp2)
     go_ret
     exact ⟨by first|rfl|(simp;done)|(simp [*];done),by repeat (first|exact Drawn0.refl _|apply Drawn0.step)⟩
 ·rw [if_neg c3] at H
  have c3b0 : ((l0.length : Int) == (l1.length : Int)) = false := beq_eq_false_iff_ne.mpr c3
  have c3b1 : ((l0.length : Int) != (l1.length : Int)) = true := bne_iff_ne.mpr c3
  have c3b2 : (l0.length == l1.length) = false := by first|simpa using c3|(simp at c3 ⊢;omega)
  obtain rfl := Option.some.inj H
  go_enter Tryd.func29,Tryd.ntmps29
  go_wp2
  repeat (go_quiet (fail);try go_wp2)
  go_ret
  exact ⟨by first|rfl|(simp;done)|(simp [*];done),by repeat (first|exact Drawn0.refl _|apply Drawn0.step)⟩
end Go.Proofs.YtpencchkfbekdaaDoor.PFnLex
