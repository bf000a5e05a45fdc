-- The functions of a law as plain Lean functions, each with its contract: written by a program of this session.
import Derived.Test.YtpencchkfbekdaaDoorPFnExactLexx0
import Derived.Test.YtpencchkfbekdaaDoorPFnExactLexx1
import Derived.Test.YtpencchkfbekdaaDoorPFnExactLexx4
import Derived.Test.YtpencchkfbekdaaDoorPFnExactLexx5
import Derived.Test.YtpencchkfbekdaaDoorPFnExactLexx6
namespace Go.Proofs.YtpencchkfbekdaaDoor.PFnExactLex
open Go.RowKit Go.Proofs.YtpencchkfbekdaaDoorW.PrintWords Go.Proofs.YtpencchkfbekdaaDoorW.PrintLast Go.Proofs.YtpencchkfbekdaaDoorW.PrintMore
attribute [local go_sem] max2_int min2_int max_two min_two max_three min_three max_four min_four   -- for this text's walks alone
set_option linter.unusedVariables false
set_option linter.unusedSimpArgs false

/-! ### laws_FnExactLex: function 7 -/
mutual
def laws_FnExactLex.j0 : Nat → ByteArray → List (S47) → Bool → List (S47) → Bool → Option (Bool)
 | 0, _, _, _, _, _ => none
 | k + 1, x0, x3, x4, x5, x32 => if x32 = true then (none) else ((laws_markTokS.f k x5 1).bind fun bt193 => ((laws_heldTokS.f k bt193.2 1).bind fun t195 => (if t195 < 0 then (none) else (if t195 = bt193.1 then ((impl_Lex.f k x0).bind fun bt196 => ((laws_eqTokS.f k bt196.1 x3).bind fun t200 => (if t200 = true then (laws_FnExactLex.j1 k bt193.2 bt193.1 (bt196.2 != x4)) else (laws_FnExactLex.j1 k bt193.2 bt193.1 true)))) else (none)))))
def laws_FnExactLex.j1 : Nat → List (S47) → Int → Bool → Option (Bool)
 | 0, _, _, _ => none
 | k + 1, x5, x7, x57 => if x57 = true then (none) else ((laws_heldTokS.f k x5 1).bind fun t201 => (if t201 < 0 then (none) else (if t201 = x7 then (some true) else (none))))
end
def laws_FnExactLex.f (k : Nat) (a0 : ByteArray) : Option (Bool) := if (a0.size : Int) > 1048576 then (some true) else ((spec_Lex.f k a0).bind fun bt184 => ((impl_Lex.f k a0).bind fun bt188 => ((laws_eqTokS.f k bt188.1 bt184.1).bind fun t192 => (if t192 = true then (laws_FnExactLex.j0 k a0 bt184.1 bt184.2 bt188.1 (bt188.2 != bt184.2)) else (laws_FnExactLex.j0 k a0 bt184.1 bt184.2 bt188.1 true)))))
theorem laws_FnExactLex.mono_l : ∀ k, (∀ y0 y1 y2 y3 y4, LeO (laws_FnExactLex.j0 k y0 y1 y2 y3 y4) (laws_FnExactLex.j0 (k + 1) y0 y1 y2 y3 y4)) ∧ (∀ y0 y1 y2, LeO (laws_FnExactLex.j1 k y0 y1 y2) (laws_FnExactLex.j1 (k + 1) y0 y1 y2))
 | 0 => ⟨fun _ _ _ _ _ r h => by simp [laws_FnExactLex.j0] at h, fun _ _ _ r h => by simp [laws_FnExactLex.j1] at h⟩
 | k + 1 => by
  obtain ⟨ih0, ih1⟩ := laws_FnExactLex.mono_l k
  refine ⟨?_, ?_⟩
  ·intro y0 y1 y2 y3 y4
   unfold laws_FnExactLex.j0
   repeat' first
   | (with_reducible exact ih0 _ _ _ _ _)
   | (with_reducible exact ih1 _ _ _)
   | (with_reducible exact impl_Lex.mono _ _)
   | (with_reducible exact laws_eqTokS.mono _ _ _)
   | (with_reducible exact laws_heldTokS.mono _ _ _)
   | (with_reducible exact laws_markTokS.mono _ _ _)
   | (with_reducible exact spec_Lex.mono _ _)
   | (with_reducible exact LeO.refl _)
   | (with_reducible exact LeO.none _)
   | (with_reducible refine LeO.ite ?_ ?_)
   | (with_reducible refine LeO.bind ?_ (fun _ => ?_))
   | exact ih0 _ _ _ _ _
   | exact ih1 _ _ _
   | exact impl_Lex.mono _ _
   | exact laws_eqTokS.mono _ _ _
   | exact laws_heldTokS.mono _ _ _
   | exact laws_markTokS.mono _ _ _
   | exact spec_Lex.mono _ _
   | exact LeO.none _
   | refine LeO.ite ?_ ?_
   | refine LeO.bind ?_ (fun _ => ?_)
  ·intro y0 y1 y2
   unfold laws_FnExactLex.j1
   repeat' first
   | (with_reducible exact ih0 _ _ _ _ _)
   | (with_reducible exact ih1 _ _ _)
   | (with_reducible exact impl_Lex.mono _ _)
   | (with_reducible exact laws_eqTokS.mono _ _ _)
   | (with_reducible exact laws_heldTokS.mono _ _ _)
   | (with_reducible exact laws_markTokS.mono _ _ _)
   | (with_reducible exact spec_Lex.mono _ _)
   | (with_reducible exact LeO.refl _)
   | (with_reducible exact LeO.none _)
   | (with_reducible refine LeO.ite ?_ ?_)
   | (with_reducible refine LeO.bind ?_ (fun _ => ?_))
   | exact ih0 _ _ _ _ _
   | exact ih1 _ _ _
   | exact impl_Lex.mono _ _
   | exact laws_eqTokS.mono _ _ _
   | exact laws_heldTokS.mono _ _ _
   | exact laws_markTokS.mono _ _ _
   | exact spec_Lex.mono _ _
   | exact LeO.none _
   | refine LeO.ite ?_ ?_
   | refine LeO.bind ?_ (fun _ => ?_)
theorem laws_FnExactLex.mono : ∀ a0 k, LeO (laws_FnExactLex.f k a0) (laws_FnExactLex.f (k + 1) a0) := by
 intro a0 k
 obtain ⟨ih0, ih1⟩ := laws_FnExactLex.mono_l k
 unfold laws_FnExactLex.f
 repeat' first
   | (with_reducible exact ih0 _ _ _ _ _)
   | (with_reducible exact ih1 _ _ _)
   | (with_reducible exact impl_Lex.mono _ _)
   | (with_reducible exact laws_eqTokS.mono _ _ _)
   | (with_reducible exact laws_heldTokS.mono _ _ _)
   | (with_reducible exact laws_markTokS.mono _ _ _)
   | (with_reducible exact spec_Lex.mono _ _)
   | (with_reducible exact LeO.refl _)
   | (with_reducible exact LeO.none _)
   | (with_reducible refine LeO.ite ?_ ?_)
   | (with_reducible refine LeO.bind ?_ (fun _ => ?_))
   | exact ih0 _ _ _ _ _
   | exact ih1 _ _ _
   | exact impl_Lex.mono _ _
   | exact laws_eqTokS.mono _ _ _
   | exact laws_heldTokS.mono _ _ _
   | exact laws_markTokS.mono _ _ _
   | exact spec_Lex.mono _ _
   | exact LeO.none _
   | refine LeO.ite ?_ ?_
   | refine LeO.bind ?_ (fun _ => ?_)
set_option maxHeartbeats 8000000 in
set_option maxRecDepth 100000 in
theorem laws_FnExactLex.calls (k : Nat) (a0 : ByteArray) (r : Bool) (w : World) (hT : TabW w) (h : laws_FnExactLex.f k a0 = some r) :
  Calls Tryd.prog 7 #[.string a0] w fun e w' => e = .returned (.bool r) ∧ Below w.heap.size w w' := by
 have HB := mk0 (Below.refl w.heap.size w)
 have HT := mk0 hT
 clear hT
 have H : (if (a0.size : Int) > 1048576 then (some true) else ((spec_Lex.f k a0).bind fun bt184 => ((impl_Lex.f k a0).bind fun bt188 => ((laws_eqTokS.f k bt188.1 bt184.1).bind fun t192 => (if t192 = true then (laws_FnExactLex.j0 k a0 bt184.1 bt184.2 bt188.1 (bt188.2 != bt184.2)) else (laws_FnExactLex.j0 k a0 bt184.1 bt184.2 bt188.1 true)))))) = some r := h
 clear h
 by_cases c2 : (a0.size : Int) > 1048576
 ·rw [if_pos c2] at H
  have c2b0 : decide (1048576 < (a0.size : Int)) = true := decide_eq_true c2
  have c2b1 : decide (1048576 < a0.size) = true := decide_eq_true (by omega)
  clear c2
  obtain rfl := Option.some.inj H
  go_enter Tryd.func7,Tryd.ntmps7
  go_wp2
  go_ret
  exact ⟨by first|rfl|(simp [errW_none,errW_some] <;> rfl)|(simp [*,errW_none,errW_some] <;> rfl),by repeat (first|(with_reducible first|exact HB.out|apply bA|apply bN|apply bD)|exact HB.out)⟩
 ·rw [if_neg c2] at H
  have c2b0 : decide (1048576 < (a0.size : Int)) = false := decide_eq_false c2
  have c2b1 : decide (1048576 < a0.size) = false := decide_eq_false (by omega)
  clear c2
  replace H := Option.bind_eq_some_iff.mp H
  obtain ⟨⟨t184,t185⟩,A30,H⟩ := H
  replace H : ((impl_Lex.f k a0).bind fun bt188 => ((laws_eqTokS.f k bt188.1 t184).bind fun t192 => (if t192 = true then (laws_FnExactLex.j0 k a0 t184 t185 bt188.1 (bt188.2 != t185)) else (laws_FnExactLex.j0 k a0 t184 t185 bt188.1 true)))) = some r := H
  have A3 := mk0 A30
  clear A30
  replace H := Option.bind_eq_some_iff.mp H
  obtain ⟨⟨t188,t189⟩,A40,H⟩ := H
  replace H : ((laws_eqTokS.f k t188 t184).bind fun t192 => (if t192 = true then (laws_FnExactLex.j0 k a0 t184 t185 t188 (t189 != t185)) else (laws_FnExactLex.j0 k a0 t184 t185 t188 true))) = some r := H
  have A4 := mk0 A40
  clear A40
  have HC5 := mk0 H
  clear H
  go_enter Tryd.func7,Tryd.ntmps7
  go_upto_region 5 with (first|((with_reducible refine gate_callee (f := 22) rfl ?_);refine goesL_ (some 16) rfl rfl Tryd.func22 (by kernel_rfl) rfl #[.string a0] rfl (by (try simp only [List.map_toArray,List.map_cons,List.map_nil]);first|done|rfl) ?_;(with_reducible refine (spec_Lex.calls k a0 t184 t185 _ A3.out).mono ?_);rintro e w6 ⟨v186,rfl,ho0,hb⟩;refine ⟨_,rfl,?_⟩;have q_ := qB (by repeat (first|(with_reducible first|exact HB.out|apply bA|apply bN|apply bD)|exact HB.out)) hb;have n0_ := mk0 (Kd.R_lower ho0 (below_size q_));have n1_ := mk0 (below_step q_ hb);clear HB;have HO187 := n0_;have HB := n1_;clear q_ n0_ n1_;(try clear hb);(try clear hb2);(try clear hk);(try clear hi);(try clear ho0))|((with_reducible refine gate_callee (f := 23) rfl ?_);refine goesL_ (some 21) rfl rfl Tryd.func23 (by kernel_rfl) rfl #[.string a0] rfl (by (try simp only [List.map_toArray,List.map_cons,List.map_nil]);first|done|rfl) ?_;(with_reducible refine (impl_Lex.calls (hT := ?hT_) k a0 t188 t189 _ A4.out).mono ?_);(case hT_ => exact tabB HT.out (by repeat (first|(with_reducible first|exact HB.out|apply bA|apply bN|apply bD)|exact HB.out)));rintro e w7 ⟨v190,rfl,ho0,hb⟩;refine ⟨_,rfl,?_⟩;have q_ := qB (by repeat (first|(with_reducible first|exact HB.out|apply bA|apply bN|apply bD)|exact HB.out)) hb;have n0_ := mk0 (Kd.R_elder' (by exact rX HO187.out) (Kd.R_base ho0) hb);have n1_ := mk0 (Kd.R_lower (Kd.R_new' ho0 (Kd.R_lt (by exact rX HO187.out))) (below_size q_));have n2_ := mk0 (below_step q_ hb);clear HO187;clear HB;have HO187 := n0_;have HO191 := n1_;have HB := n2_;clear q_ n0_ n1_ n2_;(try clear hb);(try clear hb2);(try clear hk);(try clear hi);(try clear ho0)))
  (try simp only [Act.put,List.setIfInBounds_toArray,List.set_cons_zero,List.set_cons_succ])
  go_cut [32] (fun v32 wc => ∃ (kq : Nat) (x32_4 : Bool),v32 = .bool x32_4 ∧ Aside0 (laws_FnExactLex.j0 kq a0 t184 t185 t188 x32_4 = some r) ∧ Aside0 (kq ≤ k) ∧ Aside0 (Kd.R k47 47 wc w.heap.size (fun k_ => some k_ ≠ (v190 : Value).ownBlock) v186 t184) ∧ Aside0 (Kd.R k47 47 wc w.heap.size (fun k_ => some k_ ≠ (v186 : Value).ownBlock) v190 t188) ∧ Aside0 (Below w.heap.size w wc))
  case first =>
   have H := HC5.out
   clear HC5
   obtain ⟨t192,A8,H⟩ := bindA H
   by_cases c9 : t192 = true
   ·subst c9
    rw [if_pos rfl] at H
    have H' := mk0 H
    clear H
    obtain ⟨Ao10,co10,eo10⟩ := Kd.R_slice HO191.out
    subst eo10
    obtain ⟨Ao11,co11,eo11⟩ := Kd.R_slice HO187.out
    subst eo11
    go_wp2_with (first|((with_reducible refine gate_callee (f := 17) rfl ?_);refine goesL_ (some 26) rfl rfl Tryd.func17 (by kernel_rfl) rfl #[.slice Ao10 t188.length co10,.slice Ao11 t184.length co11] rfl (by (try simp only [List.map_toArray,List.map_cons,List.map_nil]);first|done|rfl) ?_;(with_reducible refine (laws_eqTokS.calls k _ _ t188 _ _ t184 true _ ?side1 ?side2 ?side3 ?side4 A8.out).mono ?_);(case side1 => repeat (first|exact (Kd.R_reads' HO191.out).2.2|(with_reducible refine cA ?_ _)|(with_reducible refine cN ?_ _)|(with_reducible refine cD ?_)));(case side2 => exact (Kd.R_reads' HO191.out).2.1);(case side3 => repeat (first|exact (Kd.R_reads' HO187.out).2.2|(with_reducible refine cA ?_ _)|(with_reducible refine cN ?_ _)|(with_reducible refine cD ?_)));(case side4 => exact (Kd.R_reads' HO187.out).2.1);rintro e w12 ⟨rfl,hb⟩;refine ⟨_,rfl,?_⟩;have n0_ := mk0 (Kd.R_below (by exact rX HO187.out) hb);have n1_ := mk0 (Kd.R_below (by exact rX HO191.out) hb);have n2_ := mk0 (below_step (by repeat (first|(with_reducible first|exact HB.out|apply bA|apply bN|apply bD)|exact HB.out)) hb);clear HO187;clear HO191;clear HB;have HO187 := n0_;have HO191 := n1_;have HB := n2_;clear n0_ n1_ n2_;(try clear hb);(try clear hb2);(try clear hk);(try clear hi)))
    go_meet
    case rel => exact ⟨_,((t189 != t185)),(by first|rfl|(simp;done)|(simp [*];done)),H',⟨by first|omega|exact Nat.le_refl _⟩,⟨by refine rX ?_;exact Kd.R_mono HO187.out (fun _ hk => hk.2)⟩,⟨by refine rX ?_;exact Kd.R_mono HO191.out (fun _ hk => hk.2)⟩,⟨by repeat (first|(with_reducible first|exact HB.out|apply bA|apply bN|apply bD)|exact HB.out)⟩⟩
   ·replace c9 := Bool.eq_false_iff.mpr c9
    subst c9
    rw [if_neg (show ¬ (false = true) by decide)] at H
    have H' := mk0 H
    clear H
    obtain ⟨Ao13,co13,eo13⟩ := Kd.R_slice HO191.out
    subst eo13
    obtain ⟨Ao14,co14,eo14⟩ := Kd.R_slice HO187.out
    subst eo14
    go_wp2_with (first|((with_reducible refine gate_callee (f := 17) rfl ?_);refine goesL_ (some 26) rfl rfl Tryd.func17 (by kernel_rfl) rfl #[.slice Ao13 t188.length co13,.slice Ao14 t184.length co14] rfl (by (try simp only [List.map_toArray,List.map_cons,List.map_nil]);first|done|rfl) ?_;(with_reducible refine (laws_eqTokS.calls k _ _ t188 _ _ t184 false _ ?side1 ?side2 ?side3 ?side4 A8.out).mono ?_);(case side1 => repeat (first|exact (Kd.R_reads' HO191.out).2.2|(with_reducible refine cA ?_ _)|(with_reducible refine cN ?_ _)|(with_reducible refine cD ?_)));(case side2 => exact (Kd.R_reads' HO191.out).2.1);(case side3 => repeat (first|exact (Kd.R_reads' HO187.out).2.2|(with_reducible refine cA ?_ _)|(with_reducible refine cN ?_ _)|(with_reducible refine cD ?_)));(case side4 => exact (Kd.R_reads' HO187.out).2.1);rintro e w15 ⟨rfl,hb⟩;refine ⟨_,rfl,?_⟩;have n0_ := mk0 (Kd.R_below (by exact rX HO187.out) hb);have n1_ := mk0 (Kd.R_below (by exact rX HO191.out) hb);have n2_ := mk0 (below_step (by repeat (first|(with_reducible first|exact HB.out|apply bA|apply bN|apply bD)|exact HB.out)) hb);clear HO187;clear HO191;clear HB;have HO187 := n0_;have HO191 := n1_;have HB := n2_;clear n0_ n1_ n2_;(try clear hb);(try clear hb2);(try clear hk);(try clear hi)))
    go_meet
    case rel => exact ⟨_,(true),(by first|rfl|(simp;done)|(simp [*];done)),H',⟨by first|omega|exact Nat.le_refl _⟩,⟨by refine rX ?_;exact Kd.R_mono HO187.out (fun _ hk => hk.2)⟩,⟨by refine rX ?_;exact Kd.R_mono HO191.out (fun _ hk => hk.2)⟩,⟨by repeat (first|(with_reducible first|exact HB.out|apply bA|apply bN|apply bD)|exact HB.out)⟩⟩
  case rest =>
   clear HC5
   try clear c1
   try clear c2
   try clear c2b0
   try clear c2b1
   try clear p2
   try clear c7
   try clear c9
   obtain ⟨kq,x32_4,rfl,HA,HJ4,HO_3,HO_5,HB⟩ := hcut
   cases kq with
     |zero => exact absurd HA.out (by simp [laws_FnExactLex.j0])
     |succ kj4 =>
    have H := HA.out
    clear HA
    simp only [laws_FnExactLex.j0] at H
    by_cases c16 : x32_4 = true
    ·subst c16
     rw [if_pos rfl] at H
     exact absurd H (by simp)
    ·replace c16 := Bool.eq_false_iff.mpr c16
     subst c16
     rw [if_neg (show ¬ (false = true) by decide)] at H
     replace H := Option.bind_eq_some_iff.mp H
     obtain ⟨⟨t193,t194⟩,A170,H⟩ := H
     replace H : ((laws_heldTokS.f kj4 t194 1).bind fun t195 => (if t195 < 0 then (none) else (if t195 = t193 then ((impl_Lex.f kj4 a0).bind fun bt196 => ((laws_eqTokS.f kj4 bt196.1 t184).bind fun t200 => (if t200 = true then (laws_FnExactLex.j1 kj4 t194 t193 (bt196.2 != t185)) else (laws_FnExactLex.j1 kj4 t194 t193 true)))) else (none)))) = some r := H
     have A17 := mk0 A170
     clear A170
     obtain ⟨t195,A18,H⟩ := bindA H
     by_cases c19 : t195 < 0
     ·rw [if_pos c19] at H
      exact absurd H (by simp)
     ·rw [if_neg c19] at H
      have c19b0 : decide (t195 < 0) = false := decide_eq_false c19
      clear c19
      by_cases c20 : t195 = t193
      ·rw [if_pos c20] at H
       have c20b0 : (t195 == t193) = true := beq_iff_eq.mpr c20
       have c20b1 : (t195 != t193) = false := bne_eq_false_iff_eq.mpr c20
       clear c20
       replace H := Option.bind_eq_some_iff.mp H
       obtain ⟨⟨t196,t197⟩,A210,H⟩ := H
       replace H : ((laws_eqTokS.f kj4 t196 t184).bind fun t200 => (if t200 = true then (laws_FnExactLex.j1 kj4 t194 t193 (t197 != t185)) else (laws_FnExactLex.j1 kj4 t194 t193 true))) = some r := H
       have A21 := mk0 A210
       clear A210
       have HC22 := mk0 H
       clear H
       obtain ⟨Ao23,co23,eo23⟩ := Kd.R_slice HO_5.out
       subst eo23
       go_upto_region 16 with (first|((with_reducible refine gate_callee (f := 24) rfl ?_);refine goesL_ (some 35) rfl rfl Tryd.func24 (by kernel_rfl) rfl #[.slice Ao23 t188.length co23,.int .i64 1] rfl (by (try simp only [List.map_toArray,List.map_cons,List.map_nil]);first|done|rfl) ?_;(with_reducible refine (laws_markTokS.calls kj4 (fun k_ => some k_ = (.slice Ao23 t188.length co23 : Value).ownBlock) (.slice Ao23 t188.length co23) t188 1 t193 t194 w _ ?side1 ?side2 A17.out).mono ?_);(case side1 => repeat (first|(with_reducible first|exact HB.out|apply bA|apply bN|apply bD)|exact HB.out));(case side2 => exact Kd.R_tight rfl HO_5.out);rintro e w24 ⟨rfl,hy0,hb,hkp⟩;refine ⟨_,rfl,?_⟩;have n0_ := mk0 (Kd.R_mono (ok' := fun k_ => some k_ ≠ (.slice Ao23 t188.length co23 : Value).ownBlock) (Kd.R_keptB (HO_3.out) hkp (fun k_ hk_ hs_ => (hk_) hs_)) (fun k_ hk_ => hk_.1));have n1_ := mk0 (Kd.R_reok rfl hy0 (fun k_ e_ => HO_5.out.1 k_ e_));have n2_ := mk0 (hb);clear HO_3;clear HO_5;clear HB;have HO_3 := n0_;have HO_5 := n1_;have HB := n2_;clear n0_ n1_ n2_;(try clear hb);(try clear hkp);(try clear hy0))|((with_reducible refine gate_callee (f := 25) rfl ?_);refine goesL_ (some 38) rfl rfl Tryd.func25 (by kernel_rfl) rfl #[.slice Ao23 t194.length co23,.int .i64 1] rfl (by (try simp only [List.map_toArray,List.map_cons,List.map_nil]);first|done|(rw [show t194.length = t188.length from (Kd.R_reads' HO_5.out).1.symm] <;> rfl)|rfl|(simp only [List.length_drop,List.length_take];rfl)) ?_;(with_reducible refine (laws_heldTokS.calls kj4 _ _ t194 1 t195 _ ?side1 ?side2 A18.out).mono ?_);(case side1 => repeat (first|exact (Kd.R_reads' HO_5.out).2.2|(with_reducible refine cA ?_ _)|(with_reducible refine cN ?_ _)|(with_reducible refine cD ?_)));(case side2 => rw [show t194.length = t188.length from (Kd.R_reads' HO_5.out).1.symm];exact (Kd.R_reads' HO_5.out).2.1);rintro e w25 ⟨rfl,hb⟩;refine ⟨_,rfl,?_⟩;have n0_ := mk0 (Kd.R_below (by exact rX HO_3.out) hb);have n1_ := mk0 (Kd.R_below (by exact rX HO_5.out) hb);have n2_ := mk0 (below_step (by repeat (first|(with_reducible first|exact HB.out|apply bA|apply bN|apply bD)|exact HB.out)) hb);clear HO_3;clear HO_5;clear HB;have HO_3 := n0_;have HO_5 := n1_;have HB := n2_;clear n0_ n1_ n2_;(try clear hb);(try clear hb2);(try clear hk);(try clear hi))|((with_reducible refine gate_callee (f := 23) rfl ?_);refine goesL_ (some 46) rfl rfl Tryd.func23 (by kernel_rfl) rfl #[.string a0] rfl (by (try simp only [List.map_toArray,List.map_cons,List.map_nil]);first|done|rfl) ?_;(with_reducible refine (impl_Lex.calls (hT := ?hT_) kj4 a0 t196 t197 _ A21.out).mono ?_);(case hT_ => exact tabB HT.out (by repeat (first|(with_reducible first|exact HB.out|apply bA|apply bN|apply bD)|exact HB.out)));rintro e w26 ⟨v198,rfl,ho0,hb⟩;refine ⟨_,rfl,?_⟩;have q_ := qB (by repeat (first|(with_reducible first|exact HB.out|apply bA|apply bN|apply bD)|exact HB.out)) hb;have n0_ := mk0 (Kd.R_elder' (by exact rX HO_3.out) (Kd.R_base ho0) hb);have n1_ := mk0 (Kd.R_elder' (by exact rX HO_5.out) (Kd.R_base ho0) hb);have n2_ := mk0 (Kd.R_lower (Kd.R_new' (Kd.R_new' ho0 (Kd.R_lt (by exact rX HO_3.out))) (Kd.R_lt (by exact rX HO_5.out))) (below_size q_));have n3_ := mk0 (below_step q_ hb);clear HO_3;clear HO_5;clear HB;have HO_3 := n0_;have HO_5 := n1_;have HO199 := n2_;have HB := n3_;clear q_ n0_ n1_ n2_ n3_;(try clear hb);(try clear hb2);(try clear hk);(try clear hi);(try clear ho0)))
       (try simp only [Act.put,List.setIfInBounds_toArray,List.set_cons_zero,List.set_cons_succ])
       go_cut [57] (fun v57 wc => ∃ (kq : Nat) (x57_21 : Bool),v57 = .bool x57_21 ∧ Aside0 (laws_FnExactLex.j1 kq t194 t193 x57_21 = some r) ∧ Aside0 (kq ≤ kj4) ∧ Aside0 (Kd.R k47 47 wc w.heap.size (fun _ => True) (.slice Ao23 t188.length co23) t194) ∧ Aside0 (Below w.heap.size w wc))
       case first =>
        have H := HC22.out
        clear HC22
        obtain ⟨t200,A27,H⟩ := bindA H
        by_cases c28 : t200 = true
        ·subst c28
         rw [if_pos rfl] at H
         have H' := mk0 H
         clear H
         obtain ⟨Ao29,co29,eo29⟩ := Kd.R_slice HO199.out
         subst eo29
         obtain ⟨Ao30,co30,eo30⟩ := Kd.R_slice HO_3.out
         subst eo30
         go_wp2_with (first|((with_reducible refine gate_callee (f := 17) rfl ?_);refine goesL_ (some 51) rfl rfl Tryd.func17 (by kernel_rfl) rfl #[.slice Ao29 t196.length co29,.slice Ao30 t184.length co30] rfl (by (try simp only [List.map_toArray,List.map_cons,List.map_nil]);first|done|rfl) ?_;(with_reducible refine (laws_eqTokS.calls kj4 _ _ t196 _ _ t184 true _ ?side1 ?side2 ?side3 ?side4 A27.out).mono ?_);(case side1 => repeat (first|exact (Kd.R_reads' HO199.out).2.2|(with_reducible refine cA ?_ _)|(with_reducible refine cN ?_ _)|(with_reducible refine cD ?_)));(case side2 => exact (Kd.R_reads' HO199.out).2.1);(case side3 => repeat (first|exact (Kd.R_reads' HO_3.out).2.2|(with_reducible refine cA ?_ _)|(with_reducible refine cN ?_ _)|(with_reducible refine cD ?_)));(case side4 => exact (Kd.R_reads' HO_3.out).2.1);rintro e w31 ⟨rfl,hb⟩;refine ⟨_,rfl,?_⟩;have n0_ := mk0 (Kd.R_below (by exact rX HO_3.out) hb);have n1_ := mk0 (Kd.R_below (by exact rX HO_5.out) hb);have n2_ := mk0 (Kd.R_below (by exact rX HO199.out) hb);have n3_ := mk0 (below_step (by repeat (first|(with_reducible first|exact HB.out|apply bA|apply bN|apply bD)|exact HB.out)) hb);clear HO_3;clear HO_5;clear HO199;clear HB;have HO_3 := n0_;have HO_5 := n1_;have HO199 := n2_;have HB := n3_;clear n0_ n1_ n2_ n3_;(try clear hb);(try clear hb2);(try clear hk);(try clear hi)))
         go_meet
         case rel => exact ⟨_,((t197 != t185)),(by first|rfl|(simp;done)|(simp [*];done)),H',⟨by have := HJ4.out;first|omega|exact Nat.le_refl _⟩,⟨by refine rX ?_;exact Kd.R_mono HO_5.out (fun _ hk => trivial)⟩,⟨by repeat (first|(with_reducible first|exact HB.out|apply bA|apply bN|apply bD)|exact HB.out)⟩⟩
        ·replace c28 := Bool.eq_false_iff.mpr c28
         subst c28
         rw [if_neg (show ¬ (false = true) by decide)] at H
         have H' := mk0 H
         clear H
         obtain ⟨Ao32,co32,eo32⟩ := Kd.R_slice HO199.out
         subst eo32
         obtain ⟨Ao33,co33,eo33⟩ := Kd.R_slice HO_3.out
         subst eo33
         go_wp2_with (first|((with_reducible refine gate_callee (f := 17) rfl ?_);refine goesL_ (some 51) rfl rfl Tryd.func17 (by kernel_rfl) rfl #[.slice Ao32 t196.length co32,.slice Ao33 t184.length co33] rfl (by (try simp only [List.map_toArray,List.map_cons,List.map_nil]);first|done|rfl) ?_;(with_reducible refine (laws_eqTokS.calls kj4 _ _ t196 _ _ t184 false _ ?side1 ?side2 ?side3 ?side4 A27.out).mono ?_);(case side1 => repeat (first|exact (Kd.R_reads' HO199.out).2.2|(with_reducible refine cA ?_ _)|(with_reducible refine cN ?_ _)|(with_reducible refine cD ?_)));(case side2 => exact (Kd.R_reads' HO199.out).2.1);(case side3 => repeat (first|exact (Kd.R_reads' HO_3.out).2.2|(with_reducible refine cA ?_ _)|(with_reducible refine cN ?_ _)|(with_reducible refine cD ?_)));(case side4 => exact (Kd.R_reads' HO_3.out).2.1);rintro e w34 ⟨rfl,hb⟩;refine ⟨_,rfl,?_⟩;have n0_ := mk0 (Kd.R_below (by exact rX HO_3.out) hb);have n1_ := mk0 (Kd.R_below (by exact rX HO_5.out) hb);have n2_ := mk0 (Kd.R_below (by exact rX HO199.out) hb);have n3_ := mk0 (below_step (by repeat (first|(with_reducible first|exact HB.out|apply bA|apply bN|apply bD)|exact HB.out)) hb);clear HO_3;clear HO_5;clear HO199;clear HB;have HO_3 := n0_;have HO_5 := n1_;have HO199 := n2_;have HB := n3_;clear n0_ n1_ n2_ n3_;(try clear hb);(try clear hb2);(try clear hk);(try clear hi)))
         go_meet
         case rel => exact ⟨_,(true),(by first|rfl|(simp;done)|(simp [*];done)),H',⟨by have := HJ4.out;first|omega|exact Nat.le_refl _⟩,⟨by refine rX ?_;exact Kd.R_mono HO_5.out (fun _ hk => trivial)⟩,⟨by repeat (first|(with_reducible first|exact HB.out|apply bA|apply bN|apply bD)|exact HB.out)⟩⟩
       case rest =>
        clear HC22
        try clear c1
        try clear c2
        try clear c2b0
        try clear c2b1
        try clear p2
        try clear c7
        try clear c9
        try clear c16
        try clear c17
        try clear c19
        try clear c19b0
        try clear c20
        try clear c20b0
        try clear c20b1
        try clear c22
        try clear c23
        try clear c24
        try clear c25
        try clear c28
        try clear p2
        obtain ⟨kq,x57_21,rfl,HA,HJ21,HO_5,HB⟩ := hcut
        have hl5_21 := (Kd.R_reads' HO_5.out).1
        rw [hl5_21] at HO_5
        (try simp only [hl5_21])
        cases kq with
               |zero => exact absurd HA.out (by simp [laws_FnExactLex.j1])
               |succ kj21 =>
         have H := HA.out
         clear HA
         simp only [laws_FnExactLex.j1] at H
         by_cases c35 : x57_21 = true
         ·subst c35
          rw [if_pos rfl] at H
          exact absurd H (by simp)
         ·replace c35 := Bool.eq_false_iff.mpr c35
          subst c35
          rw [if_neg (show ¬ (false = true) by decide)] at H
          obtain ⟨t201,A36,H⟩ := bindA H
          by_cases c37 : t201 < 0
          ·rw [if_pos c37] at H
           exact absurd H (by simp)
          ·rw [if_neg c37] at H
           have c37b0 : decide (t201 < 0) = false := decide_eq_false c37
           clear c37
           by_cases c38 : t201 = t193
           ·rw [if_pos c38] at H
            have c38b0 : (t201 == t193) = true := beq_iff_eq.mpr c38
            have c38b1 : (t201 != t193) = false := bne_eq_false_iff_eq.mpr c38
            clear c38
            obtain rfl := Option.some.inj H
            go_wp2_with (first|((with_reducible refine gate_callee (f := 25) rfl ?_);refine goesL_ (some 60) rfl rfl Tryd.func25 (by kernel_rfl) rfl #[.slice Ao23 t194.length co23,.int .i64 1] rfl (by (try simp only [List.map_toArray,List.map_cons,List.map_nil]);first|done|rfl) ?_;(with_reducible refine (laws_heldTokS.calls kj21 _ _ t194 1 t201 _ ?side1 ?side2 A36.out).mono ?_);(case side1 => repeat (first|exact (Kd.R_reads' HO_5.out).2.2|(with_reducible refine cA ?_ _)|(with_reducible refine cN ?_ _)|(with_reducible refine cD ?_)));(case side2 => exact (Kd.R_reads' HO_5.out).2.1);rintro e w39 ⟨rfl,hb⟩;refine ⟨_,rfl,?_⟩;have n0_ := mk0 (Kd.R_below (by exact rX HO_5.out) hb);have n1_ := mk0 (below_step (by repeat (first|(with_reducible first|exact HB.out|apply bA|apply bN|apply bD)|exact HB.out)) hb);clear HO_5;clear HB;have HO_5 := n0_;have HB := n1_;clear n0_ n1_;(try clear hb);(try clear hb2);(try clear hk);(try clear hi)))
            go_ret
            exact ⟨by first|rfl|(simp [errW_none,errW_some] <;> rfl)|(simp [*,errW_none,errW_some] <;> rfl),by repeat (first|(with_reducible first|exact HB.out|apply bA|apply bN|apply bD)|exact HB.out)⟩
           ·rw [if_neg c38] at H
            exact absurd H (by simp)
      ·rw [if_neg c20] at H
       exact absurd H (by simp)

/-- THE ONE PURE STATEMENT of laws_FnExactLex: yours. -/
def laws_FnExactLex.Pure : Prop := ∀ (a0 : ByteArray),a0.size ≤ 140737488351232 → ∃ k,laws_FnExactLex.f k a0 = some true
theorem laws_FnExactLex.walk (P : laws_FnExactLex.Pure) (a0 : ByteArray) (w : World) (hT : TabW w) (w0 : a0.size ≤ 140737488351232) :
  Calls Tryd.prog 7 #[.string a0] w fun e w' => e = .returned (.bool true) ∧ Below w.heap.size w w' := by
 obtain ⟨k, h⟩ := P a0 w0
 refine (laws_FnExactLex.calls (hT := hT) k a0 true w h).mono ?_
 rintro e w' ⟨rfl, hd⟩
 exact ⟨rfl, hd⟩

end Go.Proofs.YtpencchkfbekdaaDoor.PFnExactLex
