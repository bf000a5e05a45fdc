-- The functions of a law as plain Lean functions, each with its contract: written by a program of this session.
import Derived.Test.YtpencchkfbekdaaDoorPFnLexx0
import Derived.Test.YtpencchkfbekdaaDoorPFnLexx2
import Derived.Test.YtpencchkfbekdaaDoorPFnLexx3
import Derived.Test.YtpencchkfbekdaaDoorPFnLexx5
import Derived.Test.YtpencchkfbekdaaDoorPFnLexx6
import Derived.Test.YtpencchkfbekdaaDoorPFnLexx8
namespace Go.Proofs.YtpencchkfbekdaaDoor.PFnLex
open Go.RowKit Go.Proofs.YtpencchkfbekdaaDoorW.PrintWords Go.Proofs.YtpencchkfbekdaaDoorW.PrintLast Go.Proofs.YtpencchkfbekdaaDoorW.PrintMore
attribute [local go_sem] max2_int min2_int max_two min_two max_three min_three max_four min_four   -- for this text's walks alone
set_option linter.unusedVariables false
set_option linter.unusedSimpArgs false

/-! ### laws_FnLex: function 8 -/
def laws_FnLex.j0 : Nat → List (S47) → Bool → Bool → Option (Bool)
 | 0, _, _, _ => none
 | k + 1, x4, x5, x53 => if x53 = true then (none) else (if x5 = true then ((impl_TokText.f k x4).bind fun t312 => ((impl_Lex.f k t312).bind fun bt313 => (if (t312.size : Int) > 3000 then (if bt313.2 = true then ((laws_sameToks.f k bt313.1 x4).bind fun t317 => (some t317)) else (some true)) else (if bt313.2 = true then ((laws_sameToks.f k bt313.1 x4).bind fun t318 => (some t318)) else (none))))) else (some ((x4.length : Int) == 0)))
def laws_FnLex.f (k : Nat) (l0 : List Int) : Option (Bool) := (laws_big.f l0).bind fun t293 => (if t293 = true then (some true) else ((spec_DrawLex.f k l0).bind fun t294 => ((impl_Lex.f k t294).bind fun bt295 => ((spec_Lex.f k t294).bind fun bt299 => ((spec_DrawNameOk.f k l0).bind fun t303 => ((spec_DrawTokText.f k l0).bind fun t304 => (if (bt295.2 != bt299.2) = true then (laws_FnLex.j0 k bt295.1 bt295.2 true) else ((laws_sameToks.f k bt295.1 bt299.1).bind fun t307 => (if t307 = true then ((impl_NameOk.f k t303).bind fun t308 => ((spec_NameOk.f k t303).bind fun t309 => (if (t308 != t309) = true then (laws_FnLex.j0 k bt295.1 bt295.2 true) else ((impl_TokText.f k t304).bind fun t310 => ((spec_TokText.f k t304).bind fun t311 => (laws_FnLex.j0 k bt295.1 bt295.2 (t310.toList != t311.toList))))))) else (laws_FnLex.j0 k bt295.1 bt295.2 true))))))))))
theorem laws_FnLex.mono_l : ∀ k, (∀ y0 y1 y2, LeO (laws_FnLex.j0 k y0 y1 y2) (laws_FnLex.j0 (k + 1) y0 y1 y2))
 | 0 => fun _ _ _ r h => by simp [laws_FnLex.j0] at h
 | k + 1 => by
  have ih0 := laws_FnLex.mono_l k
  ·intro y0 y1 y2
   unfold laws_FnLex.j0
   repeat' first
   | (with_reducible exact ih0 _ _ _)
   | (with_reducible exact impl_Lex.mono _ _)
   | (with_reducible exact impl_NameOk.mono _ _)
   | (with_reducible exact impl_TokText.mono _ _)
   | (with_reducible exact laws_sameToks.mono _ _ _)
   | (with_reducible exact spec_DrawLex.mono _ _)
   | (with_reducible exact spec_DrawNameOk.mono _ _)
   | (with_reducible exact spec_DrawTokText.mono _ _)
   | (with_reducible exact spec_Lex.mono _ _)
   | (with_reducible exact spec_NameOk.mono _ _)
   | (with_reducible exact spec_TokText.mono _ _)
   | (with_reducible exact LeO.refl _)
   | (with_reducible exact LeO.none _)
   | (with_reducible refine LeO.ite ?_ ?_)
   | (with_reducible refine LeO.bind ?_ (fun _ => ?_))
   | exact ih0 _ _ _
   | exact impl_Lex.mono _ _
   | exact impl_NameOk.mono _ _
   | exact impl_TokText.mono _ _
   | exact laws_sameToks.mono _ _ _
   | exact spec_DrawLex.mono _ _
   | exact spec_DrawNameOk.mono _ _
   | exact spec_DrawTokText.mono _ _
   | exact spec_Lex.mono _ _
   | exact spec_NameOk.mono _ _
   | exact spec_TokText.mono _ _
   | exact LeO.none _
   | refine LeO.ite ?_ ?_
   | refine LeO.bind ?_ (fun _ => ?_)
theorem laws_FnLex.mono : ∀ a0 k, LeO (laws_FnLex.f k a0) (laws_FnLex.f (k + 1) a0) := by
 intro a0 k
 have ih0 := laws_FnLex.mono_l k
 unfold laws_FnLex.f
 repeat' first
   | (with_reducible exact ih0 _ _ _)
   | (with_reducible exact impl_Lex.mono _ _)
   | (with_reducible exact impl_NameOk.mono _ _)
   | (with_reducible exact impl_TokText.mono _ _)
   | (with_reducible exact laws_sameToks.mono _ _ _)
   | (with_reducible exact spec_DrawLex.mono _ _)
   | (with_reducible exact spec_DrawNameOk.mono _ _)
   | (with_reducible exact spec_DrawTokText.mono _ _)
   | (with_reducible exact spec_Lex.mono _ _)
   | (with_reducible exact spec_NameOk.mono _ _)
   | (with_reducible exact spec_TokText.mono _ _)
   | (with_reducible exact LeO.refl _)
   | (with_reducible exact LeO.none _)
   | (with_reducible refine LeO.ite ?_ ?_)
   | (with_reducible refine LeO.bind ?_ (fun _ => ?_))
   | exact ih0 _ _ _
   | exact impl_Lex.mono _ _
   | exact impl_NameOk.mono _ _
   | exact impl_TokText.mono _ _
   | exact laws_sameToks.mono _ _ _
   | exact spec_DrawLex.mono _ _
   | exact spec_DrawNameOk.mono _ _
   | exact spec_DrawTokText.mono _ _
   | exact spec_Lex.mono _ _
   | exact spec_NameOk.mono _ _
   | exact spec_TokText.mono _ _
   | exact LeO.none _
   | refine LeO.ite ?_ ?_
   | refine LeO.bind ?_ (fun _ => ?_)
set_option maxHeartbeats 8000000 in
set_option maxRecDepth 100000 in
theorem laws_FnLex.calls (k : Nat) (A0 : Option Addr) (c0 : Nat) (l0 : List Int) (r : Bool) (w : World) (hT : TabW w) (hr0 : Kd.C (Kd.int .u8) w A0 l0.length l0) (hc0 : l0.length ≤ c0) (h : laws_FnLex.f k l0 = some r) :
  Calls Tryd.prog 8 #[.slice A0 l0.length c0] w fun e w' => e = .returned (.bool r) ∧ Below w.heap.size w w' := by
 have HR0 := mk0 hr0
 have HC0 := mk0 hc0
 clear hr0 hc0
 have HB := mk0 (Below.refl w.heap.size w)
 have HT := mk0 hT
 clear hT
 have H : ((laws_big.f l0).bind fun t293 => (if t293 = true then (some true) else ((spec_DrawLex.f k l0).bind fun t294 => ((impl_Lex.f k t294).bind fun bt295 => ((spec_Lex.f k t294).bind fun bt299 => ((spec_DrawNameOk.f k l0).bind fun t303 => ((spec_DrawTokText.f k l0).bind fun t304 => (if (bt295.2 != bt299.2) = true then (laws_FnLex.j0 k bt295.1 bt295.2 true) else ((laws_sameToks.f k bt295.1 bt299.1).bind fun t307 => (if t307 = true then ((impl_NameOk.f k t303).bind fun t308 => ((spec_NameOk.f k t303).bind fun t309 => (if (t308 != t309) = true then (laws_FnLex.j0 k bt295.1 bt295.2 true) else ((impl_TokText.f k t304).bind fun t310 => ((spec_TokText.f k t304).bind fun t311 => (laws_FnLex.j0 k bt295.1 bt295.2 (t310.toList != t311.toList))))))) else (laws_FnLex.j0 k bt295.1 bt295.2 true))))))))))) = some r := h
 clear h
 obtain ⟨t293,A2,H⟩ := bindA H
 by_cases c3 : t293 = true
 ·subst c3
  rw [if_pos rfl] at H
  obtain rfl := Option.some.inj H
  go_enter Tryd.func8,Tryd.ntmps8
  go_wp2_with (first|((with_reducible refine gate_callee (f := 18) rfl ?_);refine goesL_ (some 14) rfl rfl Tryd.func18 (by kernel_rfl) rfl #[.slice A0 l0.length c0] rfl (by (try simp only [List.map_toArray,List.map_cons,List.map_nil]);first|done|rfl) ?_;(with_reducible refine (laws_big.calls _ _ l0 true _ ?side1 ?side2 A2.out).mono ?_);(case side1 => repeat (first|exact HR0.out|(with_reducible refine cA ?_ _)|(with_reducible refine cN ?_ _)|(with_reducible refine cD ?_)));(case side2 => exact HC0.out);rintro e w' ⟨rfl,⟨nd,rfl⟩⟩;refine ⟨_,rfl,?_⟩))
  go_ret
  exact ⟨by first|rfl|(simp [errW_none,errW_some] <;> rfl)|(simp [*,errW_none,errW_some] <;> rfl),by repeat (first|(with_reducible first|exact HB.out|apply bA|apply bN|apply bD)|exact HB.out)⟩
 ·replace c3 := Bool.eq_false_iff.mpr c3
  subst c3
  rw [if_neg (show ¬ (false = true) by decide)] at H
  obtain ⟨t294,A4,H⟩ := bindA H
  replace H := Option.bind_eq_some_iff.mp H
  obtain ⟨⟨t295,t296⟩,A50,H⟩ := H
  replace H : ((spec_Lex.f k t294).bind fun bt299 => ((spec_DrawNameOk.f k l0).bind fun t303 => ((spec_DrawTokText.f k l0).bind fun t304 => (if (t296 != bt299.2) = true then (laws_FnLex.j0 k t295 t296 true) else ((laws_sameToks.f k t295 bt299.1).bind fun t307 => (if t307 = true then ((impl_NameOk.f k t303).bind fun t308 => ((spec_NameOk.f k t303).bind fun t309 => (if (t308 != t309) = true then (laws_FnLex.j0 k t295 t296 true) else ((impl_TokText.f k t304).bind fun t310 => ((spec_TokText.f k t304).bind fun t311 => (laws_FnLex.j0 k t295 t296 (t310.toList != t311.toList))))))) else (laws_FnLex.j0 k t295 t296 true))))))) = some r := H
  have A5 := mk0 A50
  clear A50
  replace H := Option.bind_eq_some_iff.mp H
  obtain ⟨⟨t299,t300⟩,A60,H⟩ := H
  replace H : ((spec_DrawNameOk.f k l0).bind fun t303 => ((spec_DrawTokText.f k l0).bind fun t304 => (if (t296 != t300) = true then (laws_FnLex.j0 k t295 t296 true) else ((laws_sameToks.f k t295 t299).bind fun t307 => (if t307 = true then ((impl_NameOk.f k t303).bind fun t308 => ((spec_NameOk.f k t303).bind fun t309 => (if (t308 != t309) = true then (laws_FnLex.j0 k t295 t296 true) else ((impl_TokText.f k t304).bind fun t310 => ((spec_TokText.f k t304).bind fun t311 => (laws_FnLex.j0 k t295 t296 (t310.toList != t311.toList))))))) else (laws_FnLex.j0 k t295 t296 true)))))) = some r := H
  have A6 := mk0 A60
  clear A60
  obtain ⟨t303,A7,H⟩ := bindA H
  obtain ⟨t304,A8,H⟩ := bindA H
  have HC9 := mk0 H
  clear H
  go_enter Tryd.func8,Tryd.ntmps8
  go_upto_region 8 with (first|((with_reducible refine gate_callee (f := 18) rfl ?_);refine goesL_ (some 14) rfl rfl Tryd.func18 (by kernel_rfl) rfl #[.slice A0 l0.length c0] rfl (by (try simp only [List.map_toArray,List.map_cons,List.map_nil]);first|done|rfl) ?_;(with_reducible refine (laws_big.calls _ _ l0 false _ ?side1 ?side2 A2.out).mono ?_);(case side1 => repeat (first|exact HR0.out|(with_reducible refine cA ?_ _)|(with_reducible refine cN ?_ _)|(with_reducible refine cD ?_)));(case side2 => exact HC0.out);rintro e w' ⟨rfl,⟨nd,rfl⟩⟩;refine ⟨_,rfl,?_⟩)|((with_reducible refine gate_callee (f := 26) rfl ?_);refine goesL_ (some 16) rfl rfl Tryd.func26 (by kernel_rfl) rfl #[.slice A0 l0.length c0] rfl (by (try simp only [List.map_toArray,List.map_cons,List.map_nil]);first|done|rfl) ?_;(with_reducible refine (spec_DrawLex.calls k _ _ l0 t294 _ ?side1 ?side2 A4.out).mono ?_);(case side1 => repeat (first|exact HR0.out|(with_reducible refine cA ?_ _)|(with_reducible refine cN ?_ _)|(with_reducible refine cD ?_)));(case side2 => exact HC0.out);rintro e w10 ⟨rfl,hb⟩;refine ⟨_,rfl,?_⟩;have n0_ := mk0 (below_step (by repeat (first|(with_reducible first|exact HB.out|apply bA|apply bN|apply bD)|exact HB.out)) hb);clear HB;have HB := n0_;clear n0_;(try clear hb);(try clear hb2);(try clear hk);(try clear hi))|((with_reducible refine gate_callee (f := 23) rfl ?_);refine goesL_ (some 19) rfl rfl Tryd.func23 (by kernel_rfl) rfl #[.string t294] rfl (by (try simp only [List.map_toArray,List.map_cons,List.map_nil]);first|done|rfl) ?_;(with_reducible refine (impl_Lex.calls (hT := ?hT_) k t294 t295 t296 _ A5.out).mono ?_);(case hT_ => exact tabB HT.out (by repeat (first|(with_reducible first|exact HB.out|apply bA|apply bN|apply bD)|exact HB.out)));rintro e w11 ⟨v297,rfl,ho0,hb⟩;refine ⟨_,rfl,?_⟩;have q_ := qB (by repeat (first|(with_reducible first|exact HB.out|apply bA|apply bN|apply bD)|exact HB.out)) hb;have n0_ := mk0 (Kd.R_lower ho0 (below_size q_));have n1_ := mk0 (below_step q_ hb);clear HB;have HO298 := n0_;have HB := n1_;clear q_ n0_ n1_;(try clear hb);(try clear hb2);(try clear hk);(try clear hi);(try clear ho0))|((with_reducible refine gate_callee (f := 22) rfl ?_);refine goesL_ (some 24) rfl rfl Tryd.func22 (by kernel_rfl) rfl #[.string t294] rfl (by (try simp only [List.map_toArray,List.map_cons,List.map_nil]);first|done|rfl) ?_;(with_reducible refine (spec_Lex.calls k t294 t299 t300 _ A6.out).mono ?_);rintro e w12 ⟨v301,rfl,ho0,hb⟩;refine ⟨_,rfl,?_⟩;have q_ := qB (by repeat (first|(with_reducible first|exact HB.out|apply bA|apply bN|apply bD)|exact HB.out)) hb;have n0_ := mk0 (Kd.R_elder' (by exact rX HO298.out) (Kd.R_base ho0) hb);have n1_ := mk0 (Kd.R_lower (Kd.R_new' ho0 (Kd.R_lt (by exact rX HO298.out))) (below_size q_));have n2_ := mk0 (below_step q_ hb);clear HO298;clear HB;have HO298 := n0_;have HO302 := n1_;have HB := n2_;clear q_ n0_ n1_ n2_;(try clear hb);(try clear hb2);(try clear hk);(try clear hi);(try clear ho0))|((with_reducible refine gate_callee (f := 27) rfl ?_);refine goesL_ (some 28) rfl rfl Tryd.func27 (by kernel_rfl) rfl #[.slice A0 l0.length c0] rfl (by (try simp only [List.map_toArray,List.map_cons,List.map_nil]);first|done|rfl) ?_;(with_reducible refine (spec_DrawNameOk.calls k _ _ l0 t303 _ ?side1 ?side2 A7.out).mono ?_);(case side1 => repeat (first|exact (Kd.C_below HR0.out HB.out)|(with_reducible refine cA ?_ _)|(with_reducible refine cN ?_ _)|(with_reducible refine cD ?_)));(case side2 => exact HC0.out);rintro e w13 ⟨rfl,hb⟩;refine ⟨_,rfl,?_⟩;have n0_ := mk0 (Kd.R_below (by exact rX HO298.out) hb);have n1_ := mk0 (Kd.R_below (by exact rX HO302.out) hb);have n2_ := mk0 (below_step (by repeat (first|(with_reducible first|exact HB.out|apply bA|apply bN|apply bD)|exact HB.out)) hb);clear HO298;clear HO302;clear HB;have HO298 := n0_;have HO302 := n1_;have HB := n2_;clear n0_ n1_ n2_;(try clear hb);(try clear hb2);(try clear hk);(try clear hi))|((with_reducible refine gate_callee (f := 28) rfl ?_);refine goesL_ (some 30) rfl rfl Tryd.func28 (by kernel_rfl) rfl #[.slice A0 l0.length c0] rfl (by (try simp only [List.map_toArray,List.map_cons,List.map_nil]);first|done|rfl) ?_;(with_reducible refine (spec_DrawTokText.calls k _ _ l0 t304 _ ?side1 ?side2 A8.out).mono ?_);(case side1 => repeat (first|exact (Kd.C_below HR0.out HB.out)|(with_reducible refine cA ?_ _)|(with_reducible refine cN ?_ _)|(with_reducible refine cD ?_)));(case side2 => exact HC0.out);rintro e w14 ⟨v305,rfl,ho0,hb⟩;refine ⟨_,rfl,?_⟩;have q_ := qB (by repeat (first|(with_reducible first|exact HB.out|apply bA|apply bN|apply bD)|exact HB.out)) hb;have n0_ := mk0 (Kd.R_elder' (by exact rX HO298.out) (Kd.R_base ho0) hb);have n1_ := mk0 (Kd.R_elder' (by exact rX HO302.out) (Kd.R_base ho0) hb);have n2_ := mk0 (Kd.R_lower (Kd.R_new' (Kd.R_new' ho0 (Kd.R_lt (by exact rX HO298.out))) (Kd.R_lt (by exact rX HO302.out))) (below_size q_));have n3_ := mk0 (below_step q_ hb);clear HO298;clear HO302;clear HB;have HO298 := n0_;have HO302 := n1_;have HO306 := n2_;have HB := n3_;clear q_ n0_ n1_ n2_ n3_;(try clear hb);(try clear hb2);(try clear hk);(try clear hi);(try clear ho0)))
  (try simp only [Act.put,List.setIfInBounds_toArray,List.set_cons_zero,List.set_cons_succ])
  go_cut [53] (fun v53 wc => ∃ (kq : Nat) (x53_8 : Bool),v53 = .bool x53_8 ∧ Aside0 (laws_FnLex.j0 kq t295 t296 x53_8 = some r) ∧ Aside0 (kq ≤ k) ∧ Aside0 (Kd.R k47 47 wc w.heap.size (fun _ => True) v297 t295) ∧ Aside0 (Below w.heap.size w wc))
  case first =>
   have H := HC9.out
   clear HC9
   by_cases c15 : (t296 != t300) = true
   ·rw [if_pos c15] at H
    have c15b0 : (t296 != t300) = true := c15
    (try (have c15b1 : decide (t296 = t300) = false := by simpa using c15))
    (try (have c15b2 : (t296 == t300) = false := by simpa using c15))
    (try (have c15b3 : ¬ (t296 = t300) := by simpa using c15))
    clear c15
    (first|rw [c15b0]|(simp only [i64_w,i32_w];rw [c15b0])|skip)
    have H' := mk0 H
    clear H
    go_wp2
    go_meet
    case rel => exact ⟨_,(true),(by first|rfl|(simp;done)|(simp [*];done)),H',⟨by first|omega|exact Nat.le_refl _⟩,⟨by refine rX ?_;exact Kd.R_mono HO298.out (fun _ hk => trivial)⟩,⟨by repeat (first|(with_reducible first|exact HB.out|apply bA|apply bN|apply bD)|exact HB.out)⟩⟩
   ·rw [if_neg c15] at H
    have c15b0 : (t296 != t300) = false := by simpa using c15
    (try (have c15b1 : decide (t296 = t300) = true := by simpa using c15))
    (try (have c15b2 : (t296 == t300) = true := by simpa using c15))
    clear c15
    (first|rw [c15b0]|(simp only [i64_w,i32_w];rw [c15b0])|skip)
    obtain ⟨t307,A16,H⟩ := bindA H
    by_cases c17 : t307 = true
    ·subst c17
     rw [if_pos rfl] at H
     obtain ⟨t308,A18,H⟩ := bindA H
     obtain ⟨t309,A19,H⟩ := bindA H
     by_cases c20 : (t308 != t309) = true
     ·rw [if_pos c20] at H
      have c20b0 : (t308 != t309) = true := c20
      (try (have c20b1 : decide (t308 = t309) = false := by simpa using c20))
      (try (have c20b2 : (t308 == t309) = false := by simpa using c20))
      (try (have c20b3 : ¬ (t308 = t309) := by simpa using c20))
      clear c20
      have H' := mk0 H
      clear H
      obtain ⟨Ao21,co21,eo21⟩ := Kd.R_slice HO298.out
      subst eo21
      obtain ⟨Ao22,co22,eo22⟩ := Kd.R_slice HO302.out
      subst eo22
      go_wp2_with (first|(go_at_call 29;(with_reducible refine (laws_sameToks.calls k _ _ t295 _ _ t299 true _ ?side1 ?side2 ?side3 ?side4 A16.out).mono ?_);(case side1 => repeat (first|exact (Kd.R_reads' HO298.out).2.2|(with_reducible refine cA ?_ _)|(with_reducible refine cN ?_ _)|(with_reducible refine cD ?_)));(case side2 => exact (Kd.R_reads' HO298.out).2.1);(case side3 => repeat (first|exact (Kd.R_reads' HO302.out).2.2|(with_reducible refine cA ?_ _)|(with_reducible refine cN ?_ _)|(with_reducible refine cD ?_)));(case side4 => exact (Kd.R_reads' HO302.out).2.1);rintro e w' ⟨rfl,⟨nd,rfl⟩⟩)|(go_at_call 30;(with_reducible refine (impl_NameOk.calls k t303 t308 _ A18.out).mono ?_);rintro e w' ⟨rfl,⟨nd,rfl⟩⟩)|(go_at_call 31;(with_reducible refine (spec_NameOk.calls k t303 t309 _ A19.out).mono ?_);rintro e w23 ⟨rfl,hb⟩;have n0_ := mk0 (Kd.R_below (by exact rX HO298.out) hb);have n1_ := mk0 (Kd.R_below (by exact rX HO302.out) hb);have n2_ := mk0 (Kd.R_below (by exact rX HO306.out) hb);have n3_ := mk0 (below_step (by repeat (first|(with_reducible first|exact HB.out|apply bA|apply bN|apply bD)|exact HB.out)) hb);clear HO298;clear HO302;clear HO306;clear HB;have HO298 := n0_;have HO302 := n1_;have HO306 := n2_;have HB := n3_;clear n0_ n1_ n2_ n3_;(try clear hb);(try clear hb2);(try clear hk);(try clear hi)))
      go_meet
      case rel => exact ⟨_,(true),(by first|rfl|(simp;done)|(simp [*];done)),H',⟨by first|omega|exact Nat.le_refl _⟩,⟨by refine rX ?_;exact Kd.R_mono HO298.out (fun _ hk => trivial)⟩,⟨by repeat (first|(with_reducible first|exact HB.out|apply bA|apply bN|apply bD)|exact HB.out)⟩⟩
     ·rw [if_neg c20] at H
      have c20b0 : (t308 != t309) = false := by simpa using c20
      (try (have c20b1 : decide (t308 = t309) = true := by simpa using c20))
      (try (have c20b2 : (t308 == t309) = true := by simpa using c20))
      clear c20
      obtain ⟨t310,A24,H⟩ := bindA H
      obtain ⟨t311,A25,H⟩ := bindA H
      have H' := mk0 H
      clear H
      obtain ⟨Ao26,co26,eo26⟩ := Kd.R_slice HO298.out
      subst eo26
      obtain ⟨Ao27,co27,eo27⟩ := Kd.R_slice HO302.out
      subst eo27
      go_wp2_with (first|(go_at_call 29;(with_reducible refine (laws_sameToks.calls k _ _ t295 _ _ t299 true _ ?side1 ?side2 ?side3 ?side4 A16.out).mono ?_);(case side1 => repeat (first|exact (Kd.R_reads' HO298.out).2.2|(with_reducible refine cA ?_ _)|(with_reducible refine cN ?_ _)|(with_reducible refine cD ?_)));(case side2 => exact (Kd.R_reads' HO298.out).2.1);(case side3 => repeat (first|exact (Kd.R_reads' HO302.out).2.2|(with_reducible refine cA ?_ _)|(with_reducible refine cN ?_ _)|(with_reducible refine cD ?_)));(case side4 => exact (Kd.R_reads' HO302.out).2.1);rintro e w' ⟨rfl,⟨nd,rfl⟩⟩)|(go_at_call 30;(with_reducible refine (impl_NameOk.calls k t303 t308 _ A18.out).mono ?_);rintro e w' ⟨rfl,⟨nd,rfl⟩⟩)|(go_at_call 31;(with_reducible refine (spec_NameOk.calls k t303 t309 _ A19.out).mono ?_);rintro e w28 ⟨rfl,hb⟩;have n0_ := mk0 (Kd.R_below (by exact rX HO298.out) hb);have n1_ := mk0 (Kd.R_below (by exact rX HO302.out) hb);have n2_ := mk0 (Kd.R_below (by exact rX HO306.out) hb);have n3_ := mk0 (below_step (by repeat (first|(with_reducible first|exact HB.out|apply bA|apply bN|apply bD)|exact HB.out)) hb);clear HO298;clear HO302;clear HO306;clear HB;have HO298 := n0_;have HO302 := n1_;have HO306 := n2_;have HB := n3_;clear n0_ n1_ n2_ n3_;(try clear hb);(try clear hb2);(try clear hk);(try clear hi);obtain ⟨Ao29,co29,eo29⟩ := Kd.R_slice HO306.out;subst eo29)|(go_at_call 16;(with_reducible refine (impl_TokText.calls (hT := ?hT_) k _ _ t304 t310 _ ?side1 ?side2 A24.out).mono ?_);(case hT_ => exact tabB HT.out (by repeat (first|(with_reducible first|exact HB.out|apply bA|apply bN|apply bD)|exact HB.out)));(case side1 => repeat (first|exact (Kd.R_reads' HO306.out).2.2|(with_reducible refine cA ?_ _)|(with_reducible refine cN ?_ _)|(with_reducible refine cD ?_)));(case side2 => exact (Kd.R_reads' HO306.out).2.1);rintro e w30 ⟨rfl,hb⟩;have n0_ := mk0 (Kd.R_below (by exact rX HO298.out) hb);have n1_ := mk0 (Kd.R_below (by exact rX HO302.out) hb);have n2_ := mk0 (Kd.R_below (by exact rX HO306.out) hb);have n3_ := mk0 (below_step (by repeat (first|(with_reducible first|exact HB.out|apply bA|apply bN|apply bD)|exact HB.out)) hb);clear HO298;clear HO302;clear HO306;clear HB;have HO298 := n0_;have HO302 := n1_;have HO306 := n2_;have HB := n3_;clear n0_ n1_ n2_ n3_;(try clear hb);(try clear hb2);(try clear hk);(try clear hi))|(go_at_call 14;(with_reducible refine (spec_TokText.calls k _ _ t304 t311 _ ?side1 ?side2 A25.out).mono ?_);(case side1 => repeat (first|exact (Kd.R_reads' HO306.out).2.2|(with_reducible refine cA ?_ _)|(with_reducible refine cN ?_ _)|(with_reducible refine cD ?_)));(case side2 => exact (Kd.R_reads' HO306.out).2.1);rintro e w31 ⟨rfl,hb⟩;have n0_ := mk0 (Kd.R_below (by exact rX HO298.out) hb);have n1_ := mk0 (Kd.R_below (by exact rX HO302.out) hb);have n2_ := mk0 (Kd.R_below (by exact rX HO306.out) hb);have n3_ := mk0 (below_step (by repeat (first|(with_reducible first|exact HB.out|apply bA|apply bN|apply bD)|exact HB.out)) hb);clear HO298;clear HO302;clear HO306;clear HB;have HO298 := n0_;have HO302 := n1_;have HO306 := n2_;have HB := n3_;clear n0_ n1_ n2_ n3_;(try clear hb);(try clear hb2);(try clear hk);(try clear hi)))
      go_meet
      case rel => exact ⟨_,((t310.toList != t311.toList)),(by first|rfl|(simp;done)|(simp [*];done)),H',⟨by first|omega|exact Nat.le_refl _⟩,⟨by refine rX ?_;exact Kd.R_mono HO298.out (fun _ hk => trivial)⟩,⟨by repeat (first|(with_reducible first|exact HB.out|apply bA|apply bN|apply bD)|exact HB.out)⟩⟩
    ·replace c17 := Bool.eq_false_iff.mpr c17
     subst c17
     rw [if_neg (show ¬ (false = true) by decide)] at H
     have H' := mk0 H
     clear H
     obtain ⟨Ao32,co32,eo32⟩ := Kd.R_slice HO298.out
     subst eo32
     obtain ⟨Ao33,co33,eo33⟩ := Kd.R_slice HO302.out
     subst eo33
     go_wp2_with (first|(go_at_call 29;(with_reducible refine (laws_sameToks.calls k _ _ t295 _ _ t299 false _ ?side1 ?side2 ?side3 ?side4 A16.out).mono ?_);(case side1 => repeat (first|exact (Kd.R_reads' HO298.out).2.2|(with_reducible refine cA ?_ _)|(with_reducible refine cN ?_ _)|(with_reducible refine cD ?_)));(case side2 => exact (Kd.R_reads' HO298.out).2.1);(case side3 => repeat (first|exact (Kd.R_reads' HO302.out).2.2|(with_reducible refine cA ?_ _)|(with_reducible refine cN ?_ _)|(with_reducible refine cD ?_)));(case side4 => exact (Kd.R_reads' HO302.out).2.1);rintro e w' ⟨rfl,⟨nd,rfl⟩⟩))
     go_meet
     case rel => exact ⟨_,(true),(by first|rfl|(simp;done)|(simp [*];done)),H',⟨by first|omega|exact Nat.le_refl _⟩,⟨by refine rX ?_;exact Kd.R_mono HO298.out (fun _ hk => trivial)⟩,⟨by repeat (first|(with_reducible first|exact HB.out|apply bA|apply bN|apply bD)|exact HB.out)⟩⟩
  case rest =>
   clear HC9
   try clear c1
   try clear c2
   try clear p2
   try clear c3
   try clear c8
   try clear c15
   try clear c15b0
   try clear c15b1
   try clear c15b2
   try clear c17
   try clear c18
   try clear c20
   try clear c20b0
   try clear c20b1
   try clear c20b2
   try clear c22
   try clear c23
   try clear c26
   try clear c27
   try clear c28
   obtain ⟨kq,x53_8,rfl,HA,HJ8,HO_4,HB⟩ := hcut
   cases kq with
     |zero => exact absurd HA.out (by simp [laws_FnLex.j0])
     |succ kj8 =>
    have H := HA.out
    clear HA
    simp only [laws_FnLex.j0] at H
    by_cases c34 : x53_8 = true
    ·subst c34
     rw [if_pos rfl] at H
     exact absurd H (by simp)
    ·replace c34 := Bool.eq_false_iff.mpr c34
     subst c34
     rw [if_neg (show ¬ (false = true) by decide)] at H
     by_cases c35 : t296 = true
     ·subst c35
      rw [if_pos rfl] at H
      obtain ⟨t312,A36,H⟩ := bindA H
      replace H := Option.bind_eq_some_iff.mp H
      obtain ⟨⟨t313,t314⟩,A370,H⟩ := H
      replace H : (if (t312.size : Int) > 3000 then (if t314 = true then ((laws_sameToks.f kj8 t313 t295).bind fun t317 => (some t317)) else (some true)) else (if t314 = true then ((laws_sameToks.f kj8 t313 t295).bind fun t318 => (some t318)) else (none))) = some r := H
      have A37 := mk0 A370
      clear A370
      by_cases c38 : (t312.size : Int) > 3000
      ·rw [if_pos c38] at H
       have c38b0 : decide (3000 < (t312.size : Int)) = true := decide_eq_true c38
       have c38b1 : decide (3000 < t312.size) = true := decide_eq_true (by omega)
       clear c38
       by_cases c39 : t314 = true
       ·subst c39
        rw [if_pos rfl] at H
        obtain ⟨t317,A40,H⟩ := bindA H
        obtain rfl := Option.some.inj H
        obtain ⟨Ao41,co41,eo41⟩ := Kd.R_slice HO_4.out
        subst eo41
        go_wp2_with (first|((with_reducible refine gate_callee (f := 16) rfl ?_);refine goesL_ (some 60) rfl rfl Tryd.func16 (by kernel_rfl) rfl #[.slice Ao41 t295.length co41] rfl (by (try simp only [List.map_toArray,List.map_cons,List.map_nil]);first|done|rfl) ?_;(with_reducible refine (impl_TokText.calls (hT := ?hT_) kj8 _ _ t295 t312 _ ?side1 ?side2 A36.out).mono ?_);(case hT_ => exact tabB HT.out (by repeat (first|(with_reducible first|exact HB.out|apply bA|apply bN|apply bD)|exact HB.out)));(case side1 => repeat (first|exact (Kd.R_reads' HO_4.out).2.2|(with_reducible refine cA ?_ _)|(with_reducible refine cN ?_ _)|(with_reducible refine cD ?_)));(case side2 => exact (Kd.R_reads' HO_4.out).2.1);rintro e w42 ⟨rfl,hb⟩;refine ⟨_,rfl,?_⟩;have n0_ := mk0 (Kd.R_below (by exact rX HO_4.out) hb);have n1_ := mk0 (below_step (by repeat (first|(with_reducible first|exact HB.out|apply bA|apply bN|apply bD)|exact HB.out)) hb);clear HO_4;clear HB;have HO_4 := n0_;have HB := n1_;clear n0_ n1_;(try clear hb);(try clear hb2);(try clear hk);(try clear hi))|((with_reducible refine gate_callee (f := 23) rfl ?_);refine goesL_ (some 63) rfl rfl Tryd.func23 (by kernel_rfl) rfl #[.string t312] rfl (by (try simp only [List.map_toArray,List.map_cons,List.map_nil]);first|done|rfl) ?_;(with_reducible refine (impl_Lex.calls (hT := ?hT_) kj8 t312 t313 true _ A37.out).mono ?_);(case hT_ => exact tabB HT.out (by repeat (first|(with_reducible first|exact HB.out|apply bA|apply bN|apply bD)|exact HB.out)));rintro e w43 ⟨v315,rfl,ho0,hb⟩;refine ⟨_,rfl,?_⟩;have q_ := qB (by repeat (first|(with_reducible first|exact HB.out|apply bA|apply bN|apply bD)|exact HB.out)) hb;have n0_ := mk0 (Kd.R_elder' (by exact rX HO_4.out) (Kd.R_base ho0) hb);have n1_ := mk0 (Kd.R_lower (Kd.R_new' ho0 (Kd.R_lt (by exact rX HO_4.out))) (below_size q_));have n2_ := mk0 (below_step q_ hb);clear HO_4;clear HB;have HO_4 := n0_;have HO316 := n1_;have HB := n2_;clear q_ n0_ n1_ n2_;(try clear hb);(try clear hb2);(try clear hk);(try clear hi);(try clear ho0);obtain ⟨Ao44,co44,eo44⟩ := Kd.R_slice HO316.out;subst eo44)|(go_at_call 29;(with_reducible refine (laws_sameToks.calls kj8 _ _ t313 _ _ t295 t317 _ ?side1 ?side2 ?side3 ?side4 A40.out).mono ?_);(case side1 => repeat (first|exact (Kd.R_reads' HO316.out).2.2|(with_reducible refine cA ?_ _)|(with_reducible refine cN ?_ _)|(with_reducible refine cD ?_)));(case side2 => exact (Kd.R_reads' HO316.out).2.1);(case side3 => repeat (first|exact (Kd.R_reads' HO_4.out).2.2|(with_reducible refine cA ?_ _)|(with_reducible refine cN ?_ _)|(with_reducible refine cD ?_)));(case side4 => exact (Kd.R_reads' HO_4.out).2.1);rintro e w' ⟨rfl,⟨nd,rfl⟩⟩))
        go_ret
        exact ⟨by first|rfl|(simp [errW_none,errW_some] <;> rfl)|(simp [*,errW_none,errW_some] <;> rfl),by repeat (first|(with_reducible first|exact HB.out|apply bA|apply bN|apply bD)|exact HB.out)⟩
       ·replace c39 := Bool.eq_false_iff.mpr c39
        subst c39
        rw [if_neg (show ¬ (false = true) by decide)] at H
        obtain rfl := Option.some.inj H
        obtain ⟨Ao45,co45,eo45⟩ := Kd.R_slice HO_4.out
        subst eo45
        go_wp2_with (first|((with_reducible refine gate_callee (f := 16) rfl ?_);refine goesL_ (some 60) rfl rfl Tryd.func16 (by kernel_rfl) rfl #[.slice Ao45 t295.length co45] rfl (by (try simp only [List.map_toArray,List.map_cons,List.map_nil]);first|done|rfl) ?_;(with_reducible refine (impl_TokText.calls (hT := ?hT_) kj8 _ _ t295 t312 _ ?side1 ?side2 A36.out).mono ?_);(case hT_ => exact tabB HT.out (by repeat (first|(with_reducible first|exact HB.out|apply bA|apply bN|apply bD)|exact HB.out)));(case side1 => repeat (first|exact (Kd.R_reads' HO_4.out).2.2|(with_reducible refine cA ?_ _)|(with_reducible refine cN ?_ _)|(with_reducible refine cD ?_)));(case side2 => exact (Kd.R_reads' HO_4.out).2.1);rintro e w46 ⟨rfl,hb⟩;refine ⟨_,rfl,?_⟩;have n0_ := mk0 (Kd.R_below (by exact rX HO_4.out) hb);have n1_ := mk0 (below_step (by repeat (first|(with_reducible first|exact HB.out|apply bA|apply bN|apply bD)|exact HB.out)) hb);clear HO_4;clear HB;have HO_4 := n0_;have HB := n1_;clear n0_ n1_;(try clear hb);(try clear hb2);(try clear hk);(try clear hi))|((with_reducible refine gate_callee (f := 23) rfl ?_);refine goesL_ (some 63) rfl rfl Tryd.func23 (by kernel_rfl) rfl #[.string t312] rfl (by (try simp only [List.map_toArray,List.map_cons,List.map_nil]);first|done|rfl) ?_;(with_reducible refine (impl_Lex.calls (hT := ?hT_) kj8 t312 t313 false _ A37.out).mono ?_);(case hT_ => exact tabB HT.out (by repeat (first|(with_reducible first|exact HB.out|apply bA|apply bN|apply bD)|exact HB.out)));rintro e w47 ⟨v315,rfl,ho0,hb⟩;refine ⟨_,rfl,?_⟩;have q_ := qB (by repeat (first|(with_reducible first|exact HB.out|apply bA|apply bN|apply bD)|exact HB.out)) hb;have n0_ := mk0 (Kd.R_elder' (by exact rX HO_4.out) (Kd.R_base ho0) hb);have n1_ := mk0 (Kd.R_lower (Kd.R_new' ho0 (Kd.R_lt (by exact rX HO_4.out))) (below_size q_));have n2_ := mk0 (below_step q_ hb);clear HO_4;clear HB;have HO_4 := n0_;have HO316 := n1_;have HB := n2_;clear q_ n0_ n1_ n2_;(try clear hb);(try clear hb2);(try clear hk);(try clear hi);(try clear ho0)))
        go_ret
        exact ⟨by first|rfl|(simp [errW_none,errW_some] <;> rfl)|(simp [*,errW_none,errW_some] <;> rfl),by repeat (first|(with_reducible first|exact HB.out|apply bA|apply bN|apply bD)|exact HB.out)⟩
      ·rw [if_neg c38] at H
       have c38b0 : decide (3000 < (t312.size : Int)) = false := decide_eq_false c38
       have c38b1 : decide (3000 < t312.size) = false := decide_eq_false (by omega)
       clear c38
       by_cases c48 : t314 = true
       ·subst c48
        rw [if_pos rfl] at H
        obtain ⟨t318,A49,H⟩ := bindA H
        obtain rfl := Option.some.inj H
        obtain ⟨Ao50,co50,eo50⟩ := Kd.R_slice HO_4.out
        subst eo50
        go_wp2_with (first|((with_reducible refine gate_callee (f := 16) rfl ?_);refine goesL_ (some 60) rfl rfl Tryd.func16 (by kernel_rfl) rfl #[.slice Ao50 t295.length co50] rfl (by (try simp only [List.map_toArray,List.map_cons,List.map_nil]);first|done|rfl) ?_;(with_reducible refine (impl_TokText.calls (hT := ?hT_) kj8 _ _ t295 t312 _ ?side1 ?side2 A36.out).mono ?_);(case hT_ => exact tabB HT.out (by repeat (first|(with_reducible first|exact HB.out|apply bA|apply bN|apply bD)|exact HB.out)));(case side1 => repeat (first|exact (Kd.R_reads' HO_4.out).2.2|(with_reducible refine cA ?_ _)|(with_reducible refine cN ?_ _)|(with_reducible refine cD ?_)));(case side2 => exact (Kd.R_reads' HO_4.out).2.1);rintro e w51 ⟨rfl,hb⟩;refine ⟨_,rfl,?_⟩;have n0_ := mk0 (Kd.R_below (by exact rX HO_4.out) hb);have n1_ := mk0 (below_step (by repeat (first|(with_reducible first|exact HB.out|apply bA|apply bN|apply bD)|exact HB.out)) hb);clear HO_4;clear HB;have HO_4 := n0_;have HB := n1_;clear n0_ n1_;(try clear hb);(try clear hb2);(try clear hk);(try clear hi))|((with_reducible refine gate_callee (f := 23) rfl ?_);refine goesL_ (some 63) rfl rfl Tryd.func23 (by kernel_rfl) rfl #[.string t312] rfl (by (try simp only [List.map_toArray,List.map_cons,List.map_nil]);first|done|rfl) ?_;(with_reducible refine (impl_Lex.calls (hT := ?hT_) kj8 t312 t313 true _ A37.out).mono ?_);(case hT_ => exact tabB HT.out (by repeat (first|(with_reducible first|exact HB.out|apply bA|apply bN|apply bD)|exact HB.out)));rintro e w52 ⟨v315,rfl,ho0,hb⟩;refine ⟨_,rfl,?_⟩;have q_ := qB (by repeat (first|(with_reducible first|exact HB.out|apply bA|apply bN|apply bD)|exact HB.out)) hb;have n0_ := mk0 (Kd.R_elder' (by exact rX HO_4.out) (Kd.R_base ho0) hb);have n1_ := mk0 (Kd.R_lower (Kd.R_new' ho0 (Kd.R_lt (by exact rX HO_4.out))) (below_size q_));have n2_ := mk0 (below_step q_ hb);clear HO_4;clear HB;have HO_4 := n0_;have HO316 := n1_;have HB := n2_;clear q_ n0_ n1_ n2_;(try clear hb);(try clear hb2);(try clear hk);(try clear hi);(try clear ho0);obtain ⟨Ao53,co53,eo53⟩ := Kd.R_slice HO316.out;subst eo53)|(go_at_call 29;(with_reducible refine (laws_sameToks.calls kj8 _ _ t313 _ _ t295 t318 _ ?side1 ?side2 ?side3 ?side4 A49.out).mono ?_);(case side1 => repeat (first|exact (Kd.R_reads' HO316.out).2.2|(with_reducible refine cA ?_ _)|(with_reducible refine cN ?_ _)|(with_reducible refine cD ?_)));(case side2 => exact (Kd.R_reads' HO316.out).2.1);(case side3 => repeat (first|exact (Kd.R_reads' HO_4.out).2.2|(with_reducible refine cA ?_ _)|(with_reducible refine cN ?_ _)|(with_reducible refine cD ?_)));(case side4 => exact (Kd.R_reads' HO_4.out).2.1);rintro e w' ⟨rfl,⟨nd,rfl⟩⟩))
        go_ret
        exact ⟨by first|rfl|(simp [errW_none,errW_some] <;> rfl)|(simp [*,errW_none,errW_some] <;> rfl),by repeat (first|(with_reducible first|exact HB.out|apply bA|apply bN|apply bD)|exact HB.out)⟩
       ·replace c48 := Bool.eq_false_iff.mpr c48
        subst c48
        rw [if_neg (show ¬ (false = true) by decide)] at H
        exact absurd H (by simp)
     ·replace c35 := Bool.eq_false_iff.mpr c35
      subst c35
      rw [if_neg (show ¬ (false = true) by decide)] at H
      obtain rfl := Option.some.inj H
      obtain ⟨Ao54,co54,eo54⟩ := Kd.R_slice HO_4.out
      subst eo54
      go_wp2
      go_ret
      exact ⟨by first|rfl|(simp [errW_none,errW_some] <;> rfl)|(simp [*,errW_none,errW_some] <;> rfl),by repeat (first|(with_reducible first|exact HB.out|apply bA|apply bN|apply bD)|exact HB.out)⟩

/-- THE ONE PURE STATEMENT of laws_FnLex: yours. -/
def laws_FnLex.Pure : Prop := ∀ (l0 : List Int),l0.length ≤ maxLen → l0.length * 1 ≤ 140737488351232 → (∀ x ∈ l0,(Lit.int .u8 x).wf = true) → ∃ k,laws_FnLex.f k l0 = some true
theorem laws_FnLex.walk (P : laws_FnLex.Pure) (a0 : Option Addr) (len0 cap0 : Nat) (z0 : List Int) (w : World) (hT : TabW w) (w0 : (a0 = none ∧ len0 = 0 ∧ cap0 = 0 ∧ z0 = []) ∨ ∃ x, a0 = some x ∧ len0 ≤ cap0 ∧ cap0 ≤ maxLen ∧ z0.length = cap0 ∧ (∀ i, i < z0.length → w.cell? (x.add i) = some (.int .u8 (z0.getD i 0))) ∧ ∀ n ∈ z0, (Lit.int .u8 n).wf = true) (y0 : len0 * 1 ≤ 140737488351232) :
  Calls Tryd.prog 8 #[.slice a0 len0 cap0] w fun e w' => e = .returned (.bool true) ∧ Below w.heap.size w w' := by
 obtain ⟨l0, rfl, hr0, hm0, hw0, hc0⟩ := ReadsInt.ofRowC w0
 obtain ⟨k, h⟩ := P l0 hm0 y0 hw0
 refine (laws_FnLex.calls (hT := hT) k _ _ l0 true w (Kd.C_of_reads (d := (0 : Int)) (h1 := fun _ => rfl) hr0) hc0 h).mono ?_
 rintro e w' ⟨rfl, hd⟩
 exact ⟨rfl, hd⟩

end Go.Proofs.YtpencchkfbekdaaDoor.PFnLex
