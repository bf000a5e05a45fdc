-- The functions of a law as plain Lean functions, each with its contract: written by a program of this session.
import Derived.Test.YtpencchkfbekdaaDoorPFnLexx0
import Derived.Test.YtpencchkfbekdaaDoorPFnLexx2
import Derived.Test.YtpencchkfbekdaaDoorPFnLexx4
namespace Go.Proofs.YtpencchkfbekdaaDoor.PFnLex
open Go.RowKit Go.Proofs.YtpencchkfbekdaaDoorW.PrintWords Go.Proofs.YtpencchkfbekdaaDoorW.PrintLast Go.Proofs.YtpencchkfbekdaaDoorW.PrintMore
attribute [local go_sem] max2_int min2_int max_two min_two max_three min_three max_four min_four   -- for this text's walks alone
set_option linter.unusedVariables false
set_option linter.unusedSimpArgs false

/-! ### spec_Lex: function 22 -/
mutual
def spec_Lex.l0 : Nat → ByteArray → List (S47) → Int → Option ((List (S47)) × Bool)
 | 0, _, _, _ => none
 | k + 1, x0, x4, x5 => if x5 < (x0.size : Int) then (if 0 ≤ x5 then (if (bt x0 x5) = 32 then (spec_Lex.j1 k x0 x4 x5 true) else (spec_Lex.j1 k x0 x4 x5 ((bt x0 x5) == 10))) else (none)) else (some (x4, true))
def spec_Lex.j1 : Nat → ByteArray → List (S47) → Int → Bool → Option ((List (S47)) × Bool)
 | 0, _, _, _, _ => none
 | k + 1, x0, x4, x5, x26 => if x26 = true then (spec_Lex.l0 k x0 x4 (wrap64 (x5 + 1))) else ((spec_l2Next.f k x0 x5).bind fun bt154 => (if bt154.1 = 0 then (some ((([] : List (S47))), false)) else (if (x4.length : Int) ≥ 600 then (some ((([] : List (S47))), false)) else (if x4.length < 4398046511104 then (spec_Lex.l0 k x0 (x4 ++ [(⟨bt154.1, bt154.2.1, bt154.2.2.1⟩ : S47)]) bt154.2.2.2) else (none)))))
end
def spec_Lex.f (k : Nat) (a0 : ByteArray) : Option ((List (S47)) × Bool) := (some (([] : List (S47)) : List (S47))).bind fun y151 => (if (a0.size : Int) > 3000 then (some (y151, false)) else (spec_Lex.l0 k a0 y151 0))
theorem spec_Lex.mono_l : ∀ k, (∀ y0 y1 y2, LeO (spec_Lex.l0 k y0 y1 y2) (spec_Lex.l0 (k + 1) y0 y1 y2)) ∧ (∀ y0 y1 y2 y3, LeO (spec_Lex.j1 k y0 y1 y2 y3) (spec_Lex.j1 (k + 1) y0 y1 y2 y3))
 | 0 => ⟨fun _ _ _ r h => by simp [spec_Lex.l0] at h, fun _ _ _ _ r h => by simp [spec_Lex.j1] at h⟩
 | k + 1 => by
  obtain ⟨ih0, ih1⟩ := spec_Lex.mono_l k
  refine ⟨?_, ?_⟩
  ·intro y0 y1 y2
   unfold spec_Lex.l0
   repeat' first
   | (with_reducible exact ih0 _ _ _)
   | (with_reducible exact ih1 _ _ _ _)
   | (with_reducible exact spec_l2Next.mono _ _ _)
   | (with_reducible exact LeO.refl _)
   | (with_reducible exact LeO.none _)
   | (with_reducible refine LeO.ite ?_ ?_)
   | (with_reducible refine LeO.bind ?_ (fun _ => ?_))
   | exact ih0 _ _ _
   | exact ih1 _ _ _ _
   | exact spec_l2Next.mono _ _ _
   | exact LeO.none _
   | refine LeO.ite ?_ ?_
   | refine LeO.bind ?_ (fun _ => ?_)
  ·intro y0 y1 y2 y3
   unfold spec_Lex.j1
   repeat' first
   | (with_reducible exact ih0 _ _ _)
   | (with_reducible exact ih1 _ _ _ _)
   | (with_reducible exact spec_l2Next.mono _ _ _)
   | (with_reducible exact LeO.refl _)
   | (with_reducible exact LeO.none _)
   | (with_reducible refine LeO.ite ?_ ?_)
   | (with_reducible refine LeO.bind ?_ (fun _ => ?_))
   | exact ih0 _ _ _
   | exact ih1 _ _ _ _
   | exact spec_l2Next.mono _ _ _
   | exact LeO.none _
   | refine LeO.ite ?_ ?_
   | refine LeO.bind ?_ (fun _ => ?_)
theorem spec_Lex.mono : ∀ a0 k, LeO (spec_Lex.f k a0) (spec_Lex.f (k + 1) a0) := by
 intro a0 k
 obtain ⟨ih0, ih1⟩ := spec_Lex.mono_l k
 unfold spec_Lex.f
 repeat' first
   | (with_reducible exact ih0 _ _ _)
   | (with_reducible exact ih1 _ _ _ _)
   | (with_reducible exact spec_l2Next.mono _ _ _)
   | (with_reducible exact LeO.refl _)
   | (with_reducible exact LeO.none _)
   | (with_reducible refine LeO.ite ?_ ?_)
   | (with_reducible refine LeO.bind ?_ (fun _ => ?_))
   | exact ih0 _ _ _
   | exact ih1 _ _ _ _
   | exact spec_l2Next.mono _ _ _
   | exact LeO.none _
   | refine LeO.ite ?_ ?_
   | refine LeO.bind ?_ (fun _ => ?_)
set_option maxHeartbeats 8000000 in
set_option maxRecDepth 100000 in
theorem spec_Lex.calls (k : Nat) (a0 : ByteArray) (r1 : List (S47)) (r2 : Bool) (w : World) (h : spec_Lex.f k a0 = some (r1, r2)) :
  Calls Tryd.prog 22 #[.string a0] w fun e w' => ∃ v0_ : Value, e = .returned (.tuple #[v0_, .bool r2]) ∧ Kd.R k47 47 w' w.heap.size (fun _ => True) v0_ r1 ∧ Below w.heap.size w w' := by
 have hu47 := Tryd.underlying47
 have HB := mk0 (Below.refl w.heap.size w)
 have H : ((some (([] : List (S47)) : List (S47))).bind fun y151 => (if (a0.size : Int) > 3000 then (some (y151,false)) else (spec_Lex.l0 k a0 y151 0))) = some (r1,r2) := h
 clear h
 obtain ⟨y151,hy151⟩ : ∃ y_ : List (S47),y_ = (([] : List (S47))) := ⟨_,rfl⟩
 replace H : (if (a0.size : Int) > 3000 then (some (y151,false)) else (spec_Lex.l0 k a0 y151 0)) = some (r1,r2) := by first|(rw [hy151];with_reducible exact H)|(have H2_ := (Option.bind_some _ _).symm.trans H;rw [hy151];with_reducible exact H2_)|(have H2_ := (Option.bind_some _ _).symm.trans H;with_reducible exact H2_)|with_reducible exact H|(rw [hy151];exact H)|exact H
 have Ny151 := mk0 hy151
 clear hy151
 by_cases c2 : (a0.size : Int) > 3000
 ·rw [if_pos c2] at H
  have c2b0 : decide (3000 < (a0.size : Int)) = true := decide_eq_true c2
  have c2b1 : decide (3000 < a0.size) = true := decide_eq_true (by omega)
  clear c2
  simp only [Option.some.injEq,Prod.mk.injEq] at H
  obtain ⟨rfl,rfl⟩ := H
  go_enter Tryd.func22,Tryd.ntmps22
  go_wp2_with (first|((with_reducible refine gate_dst (N := 8) rfl ?_);(try (refine gate_guard (by rfl) ?_;dsimp only));refine Kd.R_lit k47 _ 47 ?hg (N := 8) ?hd (xs := ([] : List (S47))) (inner := []) (ok := fun _ => True) (okp := fun _ => True) ?hr ?hp (fun _ hk => hk) trivial (Below.refl _ _) (Nat.le_refl _) (by simp) ?_;(case hd => rfl);(case hg => rfl);(case hr => first|(go_simp;done)|(go_simp;rfl));(case hp => exact (Reps.none _ _));intro v152 w3 ho4 hb hg_ hnew_;clear hg_ hnew_;(first|rw [← Ny151.out] at ho4|(simp only [Int.reduceToNat] at ho4;rw [← Ny151.out] at ho4));have q_ := qB (by repeat (first|(with_reducible first|exact HB.out|apply bA|apply bN|apply bD)|exact HB.out)) hb;have n0_ := mk0 (Kd.R_lower ho4 (below_size q_));have n1_ := mk0 (below_step q_ hb);clear HB;have HO153 := n0_;have HB := n1_;clear q_ n0_ n1_;clear hb ho4))
  go_ret2
  exact ⟨_,by first|rfl|(simp [errW_none,errW_some] <;> rfl)|(simp [*,errW_none,errW_some] <;> rfl),by refine rX ?_;exact HO153.out,by repeat (first|(with_reducible first|exact HB.out|apply bA|apply bN|apply bD)|exact HB.out)⟩
 ·rw [if_neg c2] at H
  have c2b0 : decide (3000 < (a0.size : Int)) = false := decide_eq_false c2
  have c2b1 : decide (3000 < a0.size) = false := decide_eq_false (by omega)
  clear c2
  have H' := mk0 H
  clear H
  go_enter Tryd.func22,Tryd.ntmps22
  go_wp2_with (first|((with_reducible refine gate_dst (N := 8) rfl ?_);(try (refine gate_guard (by rfl) ?_;dsimp only));refine Kd.R_lit k47 _ 47 ?hg (N := 8) ?hd (xs := ([] : List (S47))) (inner := []) (ok := fun _ => True) (okp := fun _ => True) ?hr ?hp (fun _ hk => hk) trivial (Below.refl _ _) (Nat.le_refl _) (by simp) ?_;(case hd => rfl);(case hg => rfl);(case hr => first|(go_simp;done)|(go_simp;rfl));(case hp => exact (Reps.none _ _));intro v152 w5 ho6 hb hg_ hnew_;clear hg_ hnew_;(first|rw [← Ny151.out] at ho6|(simp only [Int.reduceToNat] at ho6;rw [← Ny151.out] at ho6));have q_ := qB (by repeat (first|(with_reducible first|exact HB.out|apply bA|apply bN|apply bD)|exact HB.out)) hb;have n0_ := mk0 (Kd.R_lower ho6 (below_size q_));have n1_ := mk0 (below_step q_ hb);clear HB;have HO153 := n0_;have HB := n1_;clear q_ n0_ n1_;clear hb ho6))
  go_loopg [4,5] k (fun kq v4 v5 w' => ∃ (x4_1 : List (S47)) (x5_1 : Int),v5 = .int .i64 x5_1 ∧ Aside0 (spec_Lex.l0 kq a0 x4_1 x5_1 = some (r1,r2)) ∧ Aside0 (kq ≤ k) ∧ Aside0 (Kd.R k47 47 w' w.heap.size (fun _ => True) v4 x4_1) ∧ Aside0 (Below w.heap.size w w'))
  case atStart => exact ⟨(y151),(0),(by first|rfl|(simp;done)|(simp [*];done)),H',⟨Nat.le_refl _⟩,⟨by refine rX ?_;exact HO153.out⟩,⟨by repeat (first|(with_reducible first|exact HB.out|apply bA|apply bN|apply bD)|exact HB.out)⟩⟩
  case round =>
   clear H'
   try clear c2
   try clear c2b0
   try clear c2b1
   try clear p2
   obtain ⟨x4_1,x5_1,rfl,HA,HK1,HO_4,HB⟩ := hrel
   cases gk with
     |zero => exact absurd HA.out (by simp [spec_Lex.l0])
     |succ k1 =>
    have H := HA.out
    clear HA
    simp only [spec_Lex.l0] at H
    by_cases c7 : x5_1 < (a0.size : Int)
    ·rw [if_pos c7] at H
     have c7b0 : decide (x5_1 < (a0.size : Int)) = true := decide_eq_true c7
     clear c7
     have HC8 := mk0 H
     clear H
     go_upto_region 6 with (fail)
     go_cut [26] (fun v26 wc => ∃ (kq : Nat) (x26_7 : Bool),v26 = .bool x26_7 ∧ Aside0 (spec_Lex.j1 kq a0 x4_1 x5_1 x26_7 = some (r1,r2)) ∧ Aside0 (kq ≤ k1) ∧ Aside0 (Kd.R k47 47 wc w.heap.size (fun _ => True) u4 x4_1) ∧ Aside0 (Below w.heap.size w wc))
     case first =>
      have H := HC8.out
      clear HC8
      by_cases c9 : 0 ≤ x5_1
      ·rw [if_pos c9] at H
       have c9b0 : decide (0 ≤ x5_1) = true := decide_eq_true c9
       clear c9
       (first|rw [c9b0]|(simp only [i64_w,i32_w];rw [c9b0])|skip)
       by_cases c11 : (bt a0 x5_1) = 32
       ·rw [if_pos c11] at H
        have c11b0 : ((bt a0 x5_1) == 32) = true := beq_iff_eq.mpr c11
        have c11b1 : ((bt a0 x5_1) != 32) = false := bne_eq_false_iff_eq.mpr c11
        clear c11
        have H' := mk0 H
        clear H
        have p10 : 0 ≤ (x5_1 : Int) := of_decide_eq_true (by first|(with_reducible assumption)|assumption)
        have q10 : x5_1 < (a0.size : Int) := of_decide_eq_true (by first|(with_reducible assumption)|assumption)
        have hx10 := bt_at a0 x5_1
        replace p10 := eq_true p10
        replace q10 := eq_true q10
        go_wp2
        go_meet
        case rel => exact ⟨_,(true),(by first|rfl|(simp;done)|(simp [*];done)),H',⟨by have := HK1.out;first|omega|exact Nat.le_refl _⟩,⟨by refine rX ?_;exact HO_4.out⟩,⟨by repeat (first|(with_reducible first|exact HB.out|apply bA|apply bN|apply bD)|exact HB.out)⟩⟩
       ·rw [if_neg c11] at H
        have c11b0 : ((bt a0 x5_1) == 32) = false := beq_eq_false_iff_ne.mpr c11
        have c11b1 : ((bt a0 x5_1) != 32) = true := bne_iff_ne.mpr c11
        have H' := mk0 H
        clear H
        have p10 : 0 ≤ (x5_1 : Int) := of_decide_eq_true (by first|(with_reducible assumption)|assumption)
        have q10 : x5_1 < (a0.size : Int) := of_decide_eq_true (by first|(with_reducible assumption)|assumption)
        have hx10 := bt_at a0 x5_1
        replace p10 := eq_true p10
        replace q10 := eq_true q10
        have p12 : 0 ≤ (x5_1 : Int) := of_decide_eq_true (by first|(with_reducible assumption)|assumption)
        have q12 : x5_1 < (a0.size : Int) := of_decide_eq_true (by first|(with_reducible assumption)|assumption)
        have hx12 := bt_at a0 x5_1
        replace p12 := eq_true p12
        replace q12 := eq_true q12
        go_wp2
        go_meet
        case rel => exact ⟨_,(((bt a0 x5_1) == 10)),(by first|rfl|(simp;done)|(simp [*];done)),H',⟨by have := HK1.out;first|omega|exact Nat.le_refl _⟩,⟨by refine rX ?_;exact HO_4.out⟩,⟨by repeat (first|(with_reducible first|exact HB.out|apply bA|apply bN|apply bD)|exact HB.out)⟩⟩
      ·rw [if_neg c9] at H
       exact absurd H (by simp)
     case rest =>
      clear HC8
      try clear c1
      try clear p1
      try clear q1
      try clear hx1
      try clear c2
      try clear c2b0
      try clear c2b1
      try clear p2
      try clear c7
      try clear c7b0
      try clear c9
      try clear c9b0
      try clear p10
      try clear q10
      try clear hx10
      try clear c11
      try clear c11b0
      try clear c11b1
      try clear p12
      try clear q12
      try clear hx12
      try clear p10
      try clear p12
      try clear p2
      try clear q10
      try clear q12
      obtain ⟨kq,x26_7,rfl,HA,HJ7,HO_4,HB⟩ := hcut
      cases kq with
           |zero => exact absurd HA.out (by simp [spec_Lex.j1])
           |succ kj7 =>
       have H := HA.out
       clear HA
       simp only [spec_Lex.j1] at H
       by_cases c13 : x26_7 = true
       ·subst c13
        rw [if_pos rfl] at H
        have H' := mk0 H
        clear H
        go_wp2
        go_roundg kj7
        case measure => have := HK1.out;have := HJ7.out;omega
        case rel => exact ⟨(x4_1),(wrap64 (x5_1 + 1)),(by first|rfl|(simp;done)|(simp [*];done)),H',⟨by have := HK1.out;have := HJ7.out;omega⟩,⟨by refine rX ?_;exact HO_4.out⟩,⟨by repeat (first|(with_reducible first|exact HB.out|apply bA|apply bN|apply bD)|exact HB.out)⟩⟩
       ·replace c13 := Bool.eq_false_iff.mpr c13
        subst c13
        rw [if_neg (show ¬ (false = true) by decide)] at H
        replace H := Option.bind_eq_some_iff.mp H
        obtain ⟨⟨t154,t155,t156,t157⟩,A140,H⟩ := H
        replace H : (if t154 = 0 then (some ((([] : List (S47))),false)) else (if (x4_1.length : Int) ≥ 600 then (some ((([] : List (S47))),false)) else (if x4_1.length < 4398046511104 then (spec_Lex.l0 kj7 a0 (x4_1 ++ [(⟨t154,t155,t156⟩ : S47)]) t157) else (none)))) = some (r1,r2) := H
        have A14 := mk0 A140
        clear A140
        by_cases c15 : t154 = 0
        ·rw [if_pos c15] at H
         have c15b0 : (t154 == 0) = true := beq_iff_eq.mpr c15
         have c15b1 : (t154 != 0) = false := bne_eq_false_iff_eq.mpr c15
         clear c15
         obtain ⟨y159,hy159⟩ : ∃ y_ : List (S47),y_ = (([] : List (S47))) := ⟨_,rfl⟩
         replace H : (some (y159,false)) = some (r1,r2) := by first|(rw [hy159];with_reducible exact H)|(have H2_ := (Option.bind_some _ _).symm.trans H;rw [hy159];with_reducible exact H2_)|(have H2_ := (Option.bind_some _ _).symm.trans H;with_reducible exact H2_)|with_reducible exact H|(rw [hy159];exact H)|exact H
         have Ny159 := mk0 hy159
         clear hy159
         simp only [Option.some.injEq,Prod.mk.injEq] at H
         obtain ⟨rfl,rfl⟩ := H
         go_wp2_with (first|((with_reducible refine gate_callee (f := 45) rfl ?_);refine goesL_ (some 32) rfl rfl Tryd.func45 (by kernel_rfl) rfl #[.string a0,.int .i64 x5_1] rfl (by (try simp only [List.map_toArray,List.map_cons,List.map_nil]);first|done|rfl) ?_;(with_reducible refine (spec_l2Next.calls kj7 a0 x5_1 t154 t155 t156 t157 _ A14.out).mono ?_);rintro e w16 ⟨rfl,hb⟩;refine ⟨_,rfl,?_⟩;have n0_ := mk0 (Kd.R_below (by exact rX HO_4.out) hb);have n1_ := mk0 (below_step (by repeat (first|(with_reducible first|exact HB.out|apply bA|apply bN|apply bD)|exact HB.out)) hb);clear HO_4;clear HB;have HO_4 := n0_;have HB := n1_;clear n0_ n1_;(try clear hb);(try clear hb2);(try clear hk);(try clear hi))|((with_reducible refine gate_dst (N := 6) rfl ?_);(try (refine gate_guard (by rfl) ?_;dsimp only));refine box_event ?hg (N := 6) ?hd (cs := #[.int .i64 0,.string (⟨#[]⟩ : ByteArray),.int .i64 0]) (t := 47) ?hr ?_;(case hd => rfl);(case hg => rfl);(case hr => first|(go_simp;done)|(go_simp;rfl));intro gb158 hg w17 hbox hb;have q_ := qB (by repeat (first|(with_reducible first|exact HB.out|apply bA|apply bN|apply bD)|exact HB.out)) hb;have n0_ := mk0 (Kd.R_below (Kd.R_elderB (by exact rX HO_4.out) gb158 (Nat.le_of_eq hg.symm)) hb);have n1_ := mk0 (below_step q_ hb);have n2_ := mk0 (hbox);have n3_ := mk0 ((by rw [hg];exact (below_size q_) : w.heap.size ≤ gb158));have n4_ := n3_;clear HO_4;clear HB;have HO_4 := n0_;have HB := n1_;have BK158 := n2_;have GW158 := n3_;have GE158 := n4_;clear q_ n0_ n1_ n2_ n3_ n4_;clear hb hbox hg;have z18 := bc3 BK158.out)|((with_reducible refine gate_dst (N := 43) rfl ?_);(try (refine gate_guard (by rfl) ?_;dsimp only));refine Kd.R_lit k47 _ 47 ?hg (N := 43) ?hd (xs := ([] : List (S47))) (inner := []) (ok := fun _ => True) (okp := fun _ => True) ?hr ?hp (fun _ hk => hk) trivial (Below.refl _ _) (Nat.le_refl _) (by simp) ?_;(case hd => rfl);(case hg => rfl);(case hr => first|(go_simp;done)|(go_simp;rfl));(case hp => exact (Reps.none _ _));intro v160 w19 ho20 hb hg_ hnew_;clear hg_ hnew_;(first|rw [← Ny159.out] at ho20|(simp only [Int.reduceToNat] at ho20;rw [← Ny159.out] at ho20));have q_ := qB (by repeat (first|(with_reducible first|exact HB.out|apply bA|apply bN|apply bD|refine bS ?_ GE158.out)|exact HB.out)) hb;have n0_ := mk0 (Kd.R_elder' (by exact rX (Kd.R_mono (Kd.R_far (p := ⟨gb158,2,none⟩) (Kd.R_far (p := ⟨gb158,1,none⟩) (Kd.R_far (p := ⟨gb158,0,none⟩) (Kd.R_mono HO_4.out (fun k_ hk => (⟨hk,hk.2⟩ : _ ∧ k_ ≠ gb158))) (fun _ hk => hk.2) (.int .i64 t154)) (fun _ hk => hk.2) (.string t155)) (fun _ hk => hk.2) (.int .i64 t156)) (fun _ h_ => h_.1))) (Kd.R_base ho20) hb);have n1_ := mk0 (Kd.R_lower (Kd.R_newB (Kd.R_new' ho20 (Kd.R_lt (by exact rX (Kd.R_mono (Kd.R_far (p := ⟨gb158,2,none⟩) (Kd.R_far (p := ⟨gb158,1,none⟩) (Kd.R_far (p := ⟨gb158,0,none⟩) (Kd.R_mono HO_4.out (fun k_ hk => (⟨hk,hk.2⟩ : _ ∧ k_ ≠ gb158))) (fun _ hk => hk.2) (.int .i64 t154)) (fun _ hk => hk.2) (.string t155)) (fun _ hk => hk.2) (.int .i64 t156)) (fun _ h_ => h_.1))))) (g := gb158) (o := .cells #[.int .i64 t154,.string t155,.int .i64 t156] 47 (0,0)) (by refine kX ?_;refine blk_put (cs := #[.int .i64 t154,.string t155,.int .i64 0]) ?_ 2 _ rfl;refine kX ?_;refine blk_put (cs := #[.int .i64 t154,.string (⟨#[]⟩ : ByteArray),.int .i64 0]) ?_ 1 _ rfl;refine kX ?_;refine blk_put (cs := #[.int .i64 0,.string (⟨#[]⟩ : ByteArray),.int .i64 0]) ?_ 0 _ rfl;exact kX BK158.out)) (below_size q_));have n2_ := mk0 (blk_below (g := gb158) (o := .cells #[.int .i64 t154,.string t155,.int .i64 t156] 47 (0,0)) (by refine kX ?_;refine blk_put (cs := #[.int .i64 t154,.string t155,.int .i64 0]) ?_ 2 _ rfl;refine kX ?_;refine blk_put (cs := #[.int .i64 t154,.string (⟨#[]⟩ : ByteArray),.int .i64 0]) ?_ 1 _ rfl;refine kX ?_;refine blk_put (cs := #[.int .i64 0,.string (⟨#[]⟩ : ByteArray),.int .i64 0]) ?_ 0 _ rfl;exact kX BK158.out) hb);have n3_ := mk0 (below_step q_ hb);clear HO_4;clear BK158;clear HB;have HO_4 := n0_;have HO161 := n1_;have BK158 := n2_;have HB := n3_;clear q_ n0_ n1_ n2_ n3_;clear hb ho20))
         go_ret2
         exact ⟨_,by first|rfl|(simp [errW_none,errW_some] <;> rfl)|(simp [*,errW_none,errW_some] <;> rfl),by refine rX ?_;exact Kd.R_mono HO161.out (fun _ hk => trivial),by repeat (first|(with_reducible first|exact HB.out|apply bA|apply bN|apply bD|refine bS ?_ GE158.out)|exact HB.out)⟩
        ·rw [if_neg c15] at H
         have c15b0 : (t154 == 0) = false := beq_eq_false_iff_ne.mpr c15
         have c15b1 : (t154 != 0) = true := bne_iff_ne.mpr c15
         by_cases c21 : (x4_1.length : Int) ≥ 600
         ·rw [if_pos c21] at H
          have c21b0 : decide (600 ≤ (x4_1.length : Int)) = true := decide_eq_true c21
          have c21b1 : decide (600 ≤ x4_1.length) = true := decide_eq_true (by omega)
          clear c21
          obtain ⟨y162,hy162⟩ : ∃ y_ : List (S47),y_ = (([] : List (S47))) := ⟨_,rfl⟩
          replace H : (some (y162,false)) = some (r1,r2) := by first|(rw [hy162];with_reducible exact H)|(have H2_ := (Option.bind_some _ _).symm.trans H;rw [hy162];with_reducible exact H2_)|(have H2_ := (Option.bind_some _ _).symm.trans H;with_reducible exact H2_)|with_reducible exact H|(rw [hy162];exact H)|exact H
          have Ny162 := mk0 hy162
          clear hy162
          simp only [Option.some.injEq,Prod.mk.injEq] at H
          obtain ⟨rfl,rfl⟩ := H
          go_wp2_with (first|((with_reducible refine gate_callee (f := 45) rfl ?_);refine goesL_ (some 32) rfl rfl Tryd.func45 (by kernel_rfl) rfl #[.string a0,.int .i64 x5_1] rfl (by (try simp only [List.map_toArray,List.map_cons,List.map_nil]);first|done|rfl) ?_;(with_reducible refine (spec_l2Next.calls kj7 a0 x5_1 t154 t155 t156 t157 _ A14.out).mono ?_);rintro e w22 ⟨rfl,hb⟩;refine ⟨_,rfl,?_⟩;have n0_ := mk0 (Kd.R_below (by exact rX HO_4.out) hb);have n1_ := mk0 (below_step (by repeat (first|(with_reducible first|exact HB.out|apply bA|apply bN|apply bD)|exact HB.out)) hb);clear HO_4;clear HB;have HO_4 := n0_;have HB := n1_;clear n0_ n1_;(try clear hb);(try clear hb2);(try clear hk);(try clear hi))|((with_reducible refine gate_dst (N := 6) rfl ?_);(try (refine gate_guard (by rfl) ?_;dsimp only));refine box_event ?hg (N := 6) ?hd (cs := #[.int .i64 0,.string (⟨#[]⟩ : ByteArray),.int .i64 0]) (t := 47) ?hr ?_;(case hd => rfl);(case hg => rfl);(case hr => first|(go_simp;done)|(go_simp;rfl));intro gb158 hg w23 hbox hb;have q_ := qB (by repeat (first|(with_reducible first|exact HB.out|apply bA|apply bN|apply bD)|exact HB.out)) hb;have n0_ := mk0 (Kd.R_below (Kd.R_elderB (by exact rX HO_4.out) gb158 (Nat.le_of_eq hg.symm)) hb);have n1_ := mk0 (below_step q_ hb);have n2_ := mk0 (hbox);have n3_ := mk0 ((by rw [hg];exact (below_size q_) : w.heap.size ≤ gb158));have n4_ := n3_;clear HO_4;clear HB;have HO_4 := n0_;have HB := n1_;have BK158 := n2_;have GW158 := n3_;have GE158 := n4_;clear q_ n0_ n1_ n2_ n3_ n4_;clear hb hbox hg;have z24 := bc3 BK158.out;obtain ⟨Ao25,co25,eo25⟩ := Kd.R_slice HO_4.out;subst eo25)|((with_reducible refine gate_dst (N := 43) rfl ?_);(try (refine gate_guard (by rfl) ?_;dsimp only));refine Kd.R_lit k47 _ 47 ?hg (N := 43) ?hd (xs := ([] : List (S47))) (inner := []) (ok := fun _ => True) (okp := fun _ => True) ?hr ?hp (fun _ hk => hk) trivial (Below.refl _ _) (Nat.le_refl _) (by simp) ?_;(case hd => rfl);(case hg => rfl);(case hr => first|(go_simp;done)|(go_simp;rfl));(case hp => exact (Reps.none _ _));intro v163 w26 ho27 hb hg_ hnew_;clear hg_ hnew_;(first|rw [← Ny162.out] at ho27|(simp only [Int.reduceToNat] at ho27;rw [← Ny162.out] at ho27));have q_ := qB (by repeat (first|(with_reducible first|exact HB.out|apply bA|apply bN|apply bD|refine bS ?_ GE158.out)|exact HB.out)) hb;have n0_ := mk0 (Kd.R_elder' (by exact rX (Kd.R_mono (Kd.R_far (p := ⟨gb158,2,none⟩) (Kd.R_far (p := ⟨gb158,1,none⟩) (Kd.R_far (p := ⟨gb158,0,none⟩) (Kd.R_mono HO_4.out (fun k_ hk => (⟨hk,hk.2⟩ : _ ∧ k_ ≠ gb158))) (fun _ hk => hk.2) (.int .i64 t154)) (fun _ hk => hk.2) (.string t155)) (fun _ hk => hk.2) (.int .i64 t156)) (fun _ h_ => h_.1))) (Kd.R_base ho27) hb);have n1_ := mk0 (Kd.R_lower (Kd.R_newB (Kd.R_new' ho27 (Kd.R_lt (by exact rX (Kd.R_mono (Kd.R_far (p := ⟨gb158,2,none⟩) (Kd.R_far (p := ⟨gb158,1,none⟩) (Kd.R_far (p := ⟨gb158,0,none⟩) (Kd.R_mono HO_4.out (fun k_ hk => (⟨hk,hk.2⟩ : _ ∧ k_ ≠ gb158))) (fun _ hk => hk.2) (.int .i64 t154)) (fun _ hk => hk.2) (.string t155)) (fun _ hk => hk.2) (.int .i64 t156)) (fun _ h_ => h_.1))))) (g := gb158) (o := .cells #[.int .i64 t154,.string t155,.int .i64 t156] 47 (0,0)) (by refine kX ?_;refine blk_put (cs := #[.int .i64 t154,.string t155,.int .i64 0]) ?_ 2 _ rfl;refine kX ?_;refine blk_put (cs := #[.int .i64 t154,.string (⟨#[]⟩ : ByteArray),.int .i64 0]) ?_ 1 _ rfl;refine kX ?_;refine blk_put (cs := #[.int .i64 0,.string (⟨#[]⟩ : ByteArray),.int .i64 0]) ?_ 0 _ rfl;exact kX BK158.out)) (below_size q_));have n2_ := mk0 (blk_below (g := gb158) (o := .cells #[.int .i64 t154,.string t155,.int .i64 t156] 47 (0,0)) (by refine kX ?_;refine blk_put (cs := #[.int .i64 t154,.string t155,.int .i64 0]) ?_ 2 _ rfl;refine kX ?_;refine blk_put (cs := #[.int .i64 t154,.string (⟨#[]⟩ : ByteArray),.int .i64 0]) ?_ 1 _ rfl;refine kX ?_;refine blk_put (cs := #[.int .i64 0,.string (⟨#[]⟩ : ByteArray),.int .i64 0]) ?_ 0 _ rfl;exact kX BK158.out) hb);have n3_ := mk0 (below_step q_ hb);clear HO_4;clear BK158;clear HB;have HO_4 := n0_;have HO164 := n1_;have BK158 := n2_;have HB := n3_;clear q_ n0_ n1_ n2_ n3_;clear hb ho27))
          go_ret2
          exact ⟨_,by first|rfl|(simp [errW_none,errW_some] <;> rfl)|(simp [*,errW_none,errW_some] <;> rfl),by refine rX ?_;exact Kd.R_mono HO164.out (fun _ hk => trivial),by repeat (first|(with_reducible first|exact HB.out|apply bA|apply bN|apply bD|refine bS ?_ GE158.out)|exact HB.out)⟩
         ·rw [if_neg c21] at H
          have c21b0 : decide (600 ≤ (x4_1.length : Int)) = false := decide_eq_false c21
          have c21b1 : decide (600 ≤ x4_1.length) = false := decide_eq_false (by omega)
          clear c21
          by_cases c28 : x4_1.length < 4398046511104
          ·rw [if_pos c28] at H
           have LMc28 := mk0 c28
           clear c28
           obtain ⟨y165,hy165⟩ : ∃ y_ : List (S47),y_ = (x4_1 ++ [(⟨t154,t155,t156⟩ : S47)]) := ⟨_,rfl⟩
           replace H : (spec_Lex.l0 kj7 a0 y165 t157) = some (r1,r2) := by first|(rw [hy165];with_reducible exact H)|(have H2_ := (Option.bind_some _ _).symm.trans H;rw [hy165];with_reducible exact H2_)|(have H2_ := (Option.bind_some _ _).symm.trans H;with_reducible exact H2_)|with_reducible exact H|(rw [hy165];exact H)|exact H
           have Ny165 := mk0 hy165
           clear hy165
           have H' := mk0 H
           clear H
           go_wp2_with (first|((with_reducible refine gate_callee (f := 45) rfl ?_);refine goesL_ (some 32) rfl rfl Tryd.func45 (by kernel_rfl) rfl #[.string a0,.int .i64 x5_1] rfl (by (try simp only [List.map_toArray,List.map_cons,List.map_nil]);first|done|rfl) ?_;(with_reducible refine (spec_l2Next.calls kj7 a0 x5_1 t154 t155 t156 t157 _ A14.out).mono ?_);rintro e w29 ⟨rfl,hb⟩;refine ⟨_,rfl,?_⟩;have n0_ := mk0 (Kd.R_below (by exact rX HO_4.out) hb);have n1_ := mk0 (below_step (by repeat (first|(with_reducible first|exact HB.out|apply bA|apply bN|apply bD)|exact HB.out)) hb);clear HO_4;clear HB;have HO_4 := n0_;have HB := n1_;clear n0_ n1_;(try clear hb);(try clear hb2);(try clear hk);(try clear hi))|((with_reducible refine gate_dst (N := 6) rfl ?_);(try (refine gate_guard (by rfl) ?_;dsimp only));refine box_event ?hg (N := 6) ?hd (cs := #[.int .i64 0,.string (⟨#[]⟩ : ByteArray),.int .i64 0]) (t := 47) ?hr ?_;(case hd => rfl);(case hg => rfl);(case hr => first|(go_simp;done)|(go_simp;rfl));intro gb158 hg w30 hbox hb;have q_ := qB (by repeat (first|(with_reducible first|exact HB.out|apply bA|apply bN|apply bD)|exact HB.out)) hb;have n0_ := mk0 (Kd.R_below (Kd.R_elderB (by exact rX HO_4.out) gb158 (Nat.le_of_eq hg.symm)) hb);have n1_ := mk0 (below_step q_ hb);have n2_ := mk0 (hbox);have n3_ := mk0 ((by rw [hg];exact (below_size q_) : w.heap.size ≤ gb158));have n4_ := n3_;clear HO_4;clear HB;have HO_4 := n0_;have HB := n1_;have BK158 := n2_;have GW158 := n3_;have GE158 := n4_;clear q_ n0_ n1_ n2_ n3_ n4_;clear hb hbox hg;have z31 := bc3 BK158.out;obtain ⟨Ao32,co32,eo32⟩ := Kd.R_slice HO_4.out;subst eo32)|((with_reducible refine gate_builtin (b := .append) (xs := #[.tmp 44,.tmp 46]) rfl ?_);(try (refine gate_guard (by rfl) ?_;dsimp only));at_builtin;refine Kd.R_append k47 (w0 := w) w.heap.size rfl (.tmp 44) (.tmp 46) 30 47 (.agg #[(.int .i64 0),(.string ⟨#[]⟩),(.int .i64 0)]) 32 rfl Tryd.underlying30 info47 rfl (by decide) (by omega) (.slice Ao32 x4_1.length co32) x4_1 (⟨t154,t155,t156⟩ : S47) [.int .i64 t154,.string t155,.int .i64 t156] (fun k_ => k_ ≠ gb158) (fun _ => False) rfl (by first|(go_simp;done)|(go_simp;rfl)) ?aP (fun _ hk => hk.elim) ?aF ?aO ?aB ?aS ?aL ?_;(case aP => exact k47_mkM _ _ _ (⟨t154,t155,t156⟩ : S47));(case aB => exact (by repeat (first|(with_reducible first|exact HB.out|apply bA|apply bN|apply bD|refine bS ?_ GE158.out)|exact HB.out)));(case aF => exact (fun k_ hk => Kd.freshB (g := gb158) (o := .cells #[.int .i64 t154,.string t155,.int .i64 t156] 47 (0,0)) (by refine kX ?_;refine blk_put (cs := #[.int .i64 t154,.string t155,.int .i64 0]) ?_ 2 _ rfl;refine kX ?_;refine blk_put (cs := #[.int .i64 t154,.string (⟨#[]⟩ : ByteArray),.int .i64 0]) ?_ 1 _ rfl;refine kX ?_;refine blk_put (cs := #[.int .i64 0,.string (⟨#[]⟩ : ByteArray),.int .i64 0]) ?_ 0 _ rfl;exact kX BK158.out) k_ hk));(case aO => exact (by refine rX ?_;exact Kd.R_mono (Kd.R_far (p := ⟨gb158,2,none⟩) (Kd.R_far (p := ⟨gb158,1,none⟩) (Kd.R_far (p := ⟨gb158,0,none⟩) (Kd.R_mono HO_4.out (fun k_ hk => (⟨hk,hk.2⟩ : _ ∧ k_ ≠ gb158))) (fun _ hk => hk.2) (.int .i64 t154)) (fun _ hk => hk.2) (.string t155)) (fun _ hk => hk.2) (.int .i64 t156)) (fun _ hk => hk.1.2)));(case aS => exact (below_size (by repeat (first|(with_reducible first|exact HB.out|apply bA|apply bN|apply bD|refine bS ?_ GE158.out)|exact HB.out))));(case aL => have := LMc28.out;omega);intro v166 w33 ho hb hg hat;rw [← Ny165.out] at ho;have n0_ := mk0 (blk_grown (g := gb158) (o := .cells #[.int .i64 t154,.string t155,.int .i64 t156] 47 (0,0)) (by refine kX ?_;refine blk_put (cs := #[.int .i64 t154,.string t155,.int .i64 0]) ?_ 2 _ rfl;refine kX ?_;refine blk_put (cs := #[.int .i64 t154,.string (⟨#[]⟩ : ByteArray),.int .i64 0]) ?_ 1 _ rfl;refine kX ?_;refine blk_put (cs := #[.int .i64 0,.string (⟨#[]⟩ : ByteArray),.int .i64 0]) ?_ 0 _ rfl;exact kX BK158.out) hg (Kd.R_away HO_4.out (fun _ hk => hk.2)));have n1_ := mk0 (hb);have n2_ := mk0 (ho);clear BK158;clear HB;clear HO_4;have BK158 := n0_;have HB := n1_;have HO167 := n2_;clear n0_ n1_ n2_;clear ho hb hg hat))
           go_roundg kj7
           case measure => have := HK1.out;have := HJ7.out;omega
           case rel => exact ⟨(y165),(t157),(by first|rfl|(simp;done)|(simp [*];done)),H',⟨by have := HK1.out;have := HJ7.out;omega⟩,⟨by refine rX ?_;exact Kd.R_mono HO167.out (fun _ hk => trivial)⟩,⟨by repeat (first|(with_reducible first|exact HB.out|apply bA|apply bN|apply bD|refine bS ?_ GE158.out)|exact HB.out)⟩⟩
          ·rw [if_neg c28] at H
           exact absurd H (by simp)
    ·rw [if_neg c7] at H
     have c7b0 : decide (x5_1 < (a0.size : Int)) = false := decide_eq_false c7
     clear c7
     simp only [Option.some.injEq,Prod.mk.injEq] at H
     obtain ⟨rfl,rfl⟩ := H
     go_wp2
     go_ret2
     exact ⟨_,by first|rfl|(simp [errW_none,errW_some] <;> rfl)|(simp [*,errW_none,errW_some] <;> rfl),by refine rX ?_;exact HO_4.out,by repeat (first|(with_reducible first|exact HB.out|apply bA|apply bN|apply bD)|exact HB.out)⟩

/-! ### impl_inRange: function 34 -/
def impl_inRange.f (a0 : Int) (a1 : Int) (a2 : Int) : Option (Bool) := if a0 ≥ a1 then (some (decide (a0 ≤ a2))) else (some false)
set_option maxHeartbeats 8000000 in
set_option maxRecDepth 100000 in
theorem impl_inRange.calls (a0 : Int) (a1 : Int) (a2 : Int) (r : Bool) (w : World) (h : impl_inRange.f a0 a1 a2 = some r) :
  Calls Tryd.prog 34 #[.int .i64 a0, .int .i64 a1, .int .i64 a2] w fun e w' => e = .returned (.bool r) ∧ Drawn0 w w' := by
 have H : (if a0 ≥ a1 then (some (decide (a0 ≤ a2))) else (some false)) = some r := h
 clear h
 by_cases c4 : a0 ≥ a1
 ·rw [if_pos c4] at H
  have c4b0 : decide (a1 ≤ a0) = true := decide_eq_true c4
  clear c4
  obtain rfl := Option.some.inj H
  go_enter Tryd.func34,Tryd.ntmps34
  go_wp2
  go_ret
  exact ⟨by first|rfl|(simp;done)|(simp [*];done),by repeat (first|exact Drawn0.refl _|apply Drawn0.step)⟩
 ·rw [if_neg c4] at H
  have c4b0 : decide (a1 ≤ a0) = false := decide_eq_false c4
  clear c4
  obtain rfl := Option.some.inj H
  go_enter Tryd.func34,Tryd.ntmps34
  go_wp2
  go_ret
  exact ⟨by first|rfl|(simp;done)|(simp [*];done),by repeat (first|exact Drawn0.refl _|apply Drawn0.step)⟩

/-! ### impl_isWord: function 35 -/
def impl_isWord.f (a0 : Int) : Option (Bool) := (impl_inRange.f a0 (-2147483648) 2147483647).bind fun t168 => (some t168)
set_option maxHeartbeats 8000000 in
set_option maxRecDepth 100000 in
theorem impl_isWord.calls (a0 : Int) (r : Bool) (w : World) (h : impl_isWord.f a0 = some r) :
  Calls Tryd.prog 35 #[.int .i64 a0] w fun e w' => e = .returned (.bool r) ∧ Drawn0 w w' := by
 have H : ((impl_inRange.f a0 (-2147483648) 2147483647).bind fun t168 => (some t168)) = some r := h
 clear h
 obtain ⟨t168,A2,H⟩ := bindA H
 obtain rfl := Option.some.inj H
 go_enter Tryd.func35,Tryd.ntmps35
 go_wp2_with (first|((with_reducible refine gate_callee (f := 34) rfl ?_);refine goesL_ (some 4) rfl rfl Tryd.func34 (by kernel_rfl) rfl #[.int .i64 a0,.int .i64 (-2147483648),.int .i64 2147483647] rfl (by (try simp only [List.map_toArray,List.map_cons,List.map_nil]);first|done|rfl) ?_;(with_reducible refine (impl_inRange.calls a0 (-2147483648) 2147483647 t168 _ A2.out).mono ?_);rintro e w' ⟨rfl,⟨nd,rfl⟩⟩;refine ⟨_,rfl,?_⟩))
 go_ret
 exact ⟨by first|rfl|(simp;done)|(simp [*];done),by repeat (first|exact Drawn0.refl _|apply Drawn0.step)⟩

/-! ### impl_ParseNum: function 12 -/
def impl_ParseNum.l0 : Nat → ByteArray → Int → Int → Option (Int × Bool)
 |0,_,_,_ => none
 |k + 1,x0,x4,x5 => if x5 < (x0.size : Int) then (if 0 ≤ x5 then (if (bt x0 x5) < 48 then (some (0,false)) else (if (bt x0 x5) > 57 then (some (0,false)) else (impl_ParseNum.l0 k x0 (wrap64 ((wrap64 (x4 * 10)) + (((bt x0 x5) - 48) % 256))) (wrap64 (x5 + 1))))) else (none)) else ((impl_NumText.f x4).bind fun t170 => (if t170.toList = x0.toList then ((impl_isWord.f x4).bind fun t171 => (if t171 = true then (some (x4,true)) else (some (0,false)))) else (some (0,false))))
def impl_ParseNum.f (k : Nat) (a0 : ByteArray) : Option (Int × Bool) := (impl_inRange.f (a0.size : Int) 1 10).bind fun t169 => (if t169 = true then (impl_ParseNum.l0 k a0 0 0) else (some (0,false)))
theorem impl_ParseNum.mono_l : ∀ k, (∀ y0 y1 y2, LeO (impl_ParseNum.l0 k y0 y1 y2) (impl_ParseNum.l0 (k + 1) y0 y1 y2))
 | 0 => fun _ _ _ r h => by simp [impl_ParseNum.l0] at h
 | k + 1 => by
  have ih0 := impl_ParseNum.mono_l k
  ·intro y0 y1 y2
   unfold impl_ParseNum.l0
   repeat' first
   | (with_reducible exact ih0 _ _ _)
   | (with_reducible exact LeO.refl _)
   | (with_reducible exact LeO.none _)
   | (with_reducible refine LeO.ite ?_ ?_)
   | (with_reducible refine LeO.bind ?_ (fun _ => ?_))
   | exact ih0 _ _ _
   | exact LeO.none _
   | refine LeO.ite ?_ ?_
   | refine LeO.bind ?_ (fun _ => ?_)
theorem impl_ParseNum.mono : ∀ a0 k, LeO (impl_ParseNum.f k a0) (impl_ParseNum.f (k + 1) a0) := by
 intro a0 k
 have ih0 := impl_ParseNum.mono_l k
 unfold impl_ParseNum.f
 repeat' first
   | (with_reducible exact ih0 _ _ _)
   | (with_reducible exact LeO.refl _)
   | (with_reducible exact LeO.none _)
   | (with_reducible refine LeO.ite ?_ ?_)
   | (with_reducible refine LeO.bind ?_ (fun _ => ?_))
   | exact ih0 _ _ _
   | exact LeO.none _
   | refine LeO.ite ?_ ?_
   | refine LeO.bind ?_ (fun _ => ?_)
set_option maxHeartbeats 8000000 in
set_option maxRecDepth 100000 in
theorem impl_ParseNum.calls (k : Nat) (a0 : ByteArray) (r1 : Int) (r2 : Bool) (w : World) (hT : TabW w) (h : impl_ParseNum.f k a0 = some (r1, r2)) :
  Calls Tryd.prog 12 #[.string a0] w fun e w' => e = .returned (.tuple #[.int .i64 r1, .bool r2]) ∧ Below w.heap.size w w' := by
 have HB := mk0 (Below.refl w.heap.size w)
 have HT := mk0 hT
 clear hT
 have H : ((impl_inRange.f (a0.size : Int) 1 10).bind fun t169 => (if t169 = true then (impl_ParseNum.l0 k a0 0 0) else (some (0,false)))) = some (r1,r2) := h
 clear h
 obtain ⟨t169,A2,H⟩ := bindA H
 by_cases c3 : t169 = true
 ·subst c3
  rw [if_pos rfl] at H
  have H' := mk0 H
  clear H
  go_enter Tryd.func12,Tryd.ntmps12
  go_wp2_with (first|((with_reducible refine gate_callee (f := 34) rfl ?_);refine goesL_ (some 8) rfl rfl Tryd.func34 (by kernel_rfl) rfl #[.int .i64 (a0.size : Int),.int .i64 1,.int .i64 10] rfl (by (try simp only [List.map_toArray,List.map_cons,List.map_nil]);first|done|rfl) ?_;(with_reducible refine (impl_inRange.calls (a0.size : Int) 1 10 true _ A2.out).mono ?_);rintro e w' ⟨rfl,⟨nd,rfl⟩⟩;refine ⟨_,rfl,?_⟩))
  go_loopg [4,5] k (fun kq v4 v5 w' => ∃ (x4_1 : Int) (x5_1 : Int),v4 = .int .i64 x4_1 ∧ v5 = .int .i64 x5_1 ∧ Aside0 (impl_ParseNum.l0 kq a0 x4_1 x5_1 = some (r1,r2)) ∧ Aside0 (kq ≤ k) ∧ Aside0 (Below w.heap.size w w'))
  case atStart => exact ⟨(0),(0),(by first|rfl|(simp;done)|(simp [*];done)),(by first|rfl|(simp;done)|(simp [*];done)),H',⟨Nat.le_refl _⟩,⟨by repeat (first|(with_reducible first|exact HB.out|apply bA|apply bN|apply bD)|exact HB.out)⟩⟩
  case round =>
   clear H'
   try clear c1
   try clear p2
   try clear c3
   obtain ⟨x4_1,x5_1,rfl,rfl,HA,HK1,HB⟩ := hrel
   cases gk with
     |zero => exact absurd HA.out (by simp [impl_ParseNum.l0])
     |succ k1 =>
    have H := HA.out
    clear HA
    simp only [impl_ParseNum.l0] at H
    by_cases c4 : x5_1 < (a0.size : Int)
    ·rw [if_pos c4] at H
     have c4b0 : decide (x5_1 < (a0.size : Int)) = true := decide_eq_true c4
     clear c4
     by_cases c5 : 0 ≤ x5_1
     ·rw [if_pos c5] at H
      have c5b0 : decide (0 ≤ x5_1) = true := decide_eq_true c5
      clear c5
      by_cases c7 : (bt a0 x5_1) < 48
      ·rw [if_pos c7] at H
       have c7b0 : decide ((bt a0 x5_1) < 48) = true := decide_eq_true c7
       clear c7
       simp only [Option.some.injEq,Prod.mk.injEq] at H
       obtain ⟨rfl,rfl⟩ := H
       have p6 : 0 ≤ (x5_1 : Int) := of_decide_eq_true (by first|(with_reducible assumption)|assumption)
       have q6 : x5_1 < (a0.size : Int) := of_decide_eq_true (by first|(with_reducible assumption)|assumption)
       have hx6 := bt_at a0 x5_1
       replace p6 := eq_true p6
       replace q6 := eq_true q6
       go_wp2
       go_ret2
       exact ⟨by first|rfl|(simp [errW_none,errW_some] <;> rfl)|(simp [*,errW_none,errW_some] <;> rfl),by repeat (first|(with_reducible first|exact HB.out|apply bA|apply bN|apply bD)|exact HB.out)⟩
      ·rw [if_neg c7] at H
       have c7b0 : decide ((bt a0 x5_1) < 48) = false := decide_eq_false c7
       clear c7
       by_cases c9 : (bt a0 x5_1) > 57
       ·rw [if_pos c9] at H
        have c9b0 : decide (57 < (bt a0 x5_1)) = true := decide_eq_true c9
        clear c9
        simp only [Option.some.injEq,Prod.mk.injEq] at H
        obtain ⟨rfl,rfl⟩ := H
        have p6 : 0 ≤ (x5_1 : Int) := of_decide_eq_true (by first|(with_reducible assumption)|assumption)
        have q6 : x5_1 < (a0.size : Int) := of_decide_eq_true (by first|(with_reducible assumption)|assumption)
        have hx6 := bt_at a0 x5_1
        replace p6 := eq_true p6
        replace q6 := eq_true q6
        have p8 : 0 ≤ (x5_1 : Int) := of_decide_eq_true (by first|(with_reducible assumption)|assumption)
        have q8 : x5_1 < (a0.size : Int) := of_decide_eq_true (by first|(with_reducible assumption)|assumption)
        have hx8 := bt_at a0 x5_1
        replace p8 := eq_true p8
        replace q8 := eq_true q8
        go_wp2
        go_ret2
        exact ⟨by first|rfl|(simp [errW_none,errW_some] <;> rfl)|(simp [*,errW_none,errW_some] <;> rfl),by repeat (first|(with_reducible first|exact HB.out|apply bA|apply bN|apply bD)|exact HB.out)⟩
       ·rw [if_neg c9] at H
        have c9b0 : decide (57 < (bt a0 x5_1)) = false := decide_eq_false c9
        clear c9
        have H' := mk0 H
        clear H
        have p6 : 0 ≤ (x5_1 : Int) := of_decide_eq_true (by first|(with_reducible assumption)|assumption)
        have q6 : x5_1 < (a0.size : Int) := of_decide_eq_true (by first|(with_reducible assumption)|assumption)
        have hx6 := bt_at a0 x5_1
        replace p6 := eq_true p6
        replace q6 := eq_true q6
        have p8 : 0 ≤ (x5_1 : Int) := of_decide_eq_true (by first|(with_reducible assumption)|assumption)
        have q8 : x5_1 < (a0.size : Int) := of_decide_eq_true (by first|(with_reducible assumption)|assumption)
        have hx8 := bt_at a0 x5_1
        replace p8 := eq_true p8
        replace q8 := eq_true q8
        have p10 : 0 ≤ (x5_1 : Int) := of_decide_eq_true (by first|(with_reducible assumption)|assumption)
        have q10 : x5_1 < (a0.size : Int) := of_decide_eq_true (by first|(with_reducible assumption)|assumption)
        have hx10 := bt_at a0 x5_1
        replace p10 := eq_true p10
        replace q10 := eq_true q10
        go_wp2
        go_roundg k1
        case measure => have := HK1.out;omega
        case rel => exact ⟨(wrap64 ((wrap64 (x4_1 * 10)) + (((bt a0 x5_1) - 48) % 256))),(wrap64 (x5_1 + 1)),(by first|rfl|(simp;done)|(simp [*];done)),(by first|rfl|(simp;done)|(simp [*];done)),H',⟨by have := HK1.out;omega⟩,⟨by repeat (first|(with_reducible first|exact HB.out|apply bA|apply bN|apply bD)|exact HB.out)⟩⟩
     ·rw [if_neg c5] at H
      exact absurd H (by simp)
    ·rw [if_neg c4] at H
     have c4b0 : decide (x5_1 < (a0.size : Int)) = false := decide_eq_false c4
     clear c4
     obtain ⟨t170,A11,H⟩ := bindA H
     by_cases c12 : t170.toList = a0.toList
     ·rw [if_pos c12] at H
      have c12b0 : (t170.toList == a0.toList) = true := beq_iff_eq.mpr c12
      have c12b1 : (t170.toList != a0.toList) = false := bne_eq_false_iff_eq.mpr c12
      clear c12
      obtain ⟨t171,A13,H⟩ := bindA H
      by_cases c14 : t171 = true
      ·subst c14
       rw [if_pos rfl] at H
       simp only [Option.some.injEq,Prod.mk.injEq] at H
       obtain ⟨rfl,rfl⟩ := H
       go_wp2_with (first|((with_reducible refine gate_callee (f := 10) rfl ?_);refine goesL_ (some 35) rfl rfl Tryd.func10 (by kernel_rfl) rfl #[.int .i64 x4_1] rfl (by (try simp only [List.map_toArray,List.map_cons,List.map_nil]);first|done|rfl) ?_;(with_reducible refine (impl_NumText.calls (hT := ?hT_) x4_1 t170 _ A11.out).mono ?_);(case hT_ => exact tabB HT.out (by repeat (first|(with_reducible first|exact HB.out|apply bA|apply bN|apply bD)|exact HB.out)));rintro e w15 ⟨rfl,hb⟩;refine ⟨_,rfl,?_⟩;have n0_ := mk0 (below_step (by repeat (first|(with_reducible first|exact HB.out|apply bA|apply bN|apply bD)|exact HB.out)) hb);clear HB;have HB := n0_;clear n0_;(try clear hb);(try clear hb2);(try clear hk);(try clear hi))|(go_at_call 35;(with_reducible refine (impl_isWord.calls x4_1 true _ A13.out).mono ?_);rintro e w' ⟨rfl,⟨nd,rfl⟩⟩))
       go_ret2
       exact ⟨by first|rfl|(simp [errW_none,errW_some] <;> rfl)|(simp [*,errW_none,errW_some] <;> rfl),by repeat (first|(with_reducible first|exact HB.out|apply bA|apply bN|apply bD)|exact HB.out)⟩
      ·replace c14 := Bool.eq_false_iff.mpr c14
       subst c14
       rw [if_neg (show ¬ (false = true) by decide)] at H
       simp only [Option.some.injEq,Prod.mk.injEq] at H
       obtain ⟨rfl,rfl⟩ := H
       go_wp2_with (first|((with_reducible refine gate_callee (f := 10) rfl ?_);refine goesL_ (some 35) rfl rfl Tryd.func10 (by kernel_rfl) rfl #[.int .i64 x4_1] rfl (by (try simp only [List.map_toArray,List.map_cons,List.map_nil]);first|done|rfl) ?_;(with_reducible refine (impl_NumText.calls (hT := ?hT_) x4_1 t170 _ A11.out).mono ?_);(case hT_ => exact tabB HT.out (by repeat (first|(with_reducible first|exact HB.out|apply bA|apply bN|apply bD)|exact HB.out)));rintro e w16 ⟨rfl,hb⟩;refine ⟨_,rfl,?_⟩;have n0_ := mk0 (below_step (by repeat (first|(with_reducible first|exact HB.out|apply bA|apply bN|apply bD)|exact HB.out)) hb);clear HB;have HB := n0_;clear n0_;(try clear hb);(try clear hb2);(try clear hk);(try clear hi))|(go_at_call 35;(with_reducible refine (impl_isWord.calls x4_1 false _ A13.out).mono ?_);rintro e w' ⟨rfl,⟨nd,rfl⟩⟩))
       go_ret2
       exact ⟨by first|rfl|(simp [errW_none,errW_some] <;> rfl)|(simp [*,errW_none,errW_some] <;> rfl),by repeat (first|(with_reducible first|exact HB.out|apply bA|apply bN|apply bD)|exact HB.out)⟩
     ·rw [if_neg c12] at H
      have c12b0 : (t170.toList == a0.toList) = false := beq_eq_false_iff_ne.mpr c12
      have c12b1 : (t170.toList != a0.toList) = true := bne_iff_ne.mpr c12
      simp only [Option.some.injEq,Prod.mk.injEq] at H
      obtain ⟨rfl,rfl⟩ := H
      go_wp2_with (first|((with_reducible refine gate_callee (f := 10) rfl ?_);refine goesL_ (some 35) rfl rfl Tryd.func10 (by kernel_rfl) rfl #[.int .i64 x4_1] rfl (by (try simp only [List.map_toArray,List.map_cons,List.map_nil]);first|done|rfl) ?_;(with_reducible refine (impl_NumText.calls (hT := ?hT_) x4_1 t170 _ A11.out).mono ?_);(case hT_ => exact tabB HT.out (by repeat (first|(with_reducible first|exact HB.out|apply bA|apply bN|apply bD)|exact HB.out)));rintro e w17 ⟨rfl,hb⟩;refine ⟨_,rfl,?_⟩;have n0_ := mk0 (below_step (by repeat (first|(with_reducible first|exact HB.out|apply bA|apply bN|apply bD)|exact HB.out)) hb);clear HB;have HB := n0_;clear n0_;(try clear hb);(try clear hb2);(try clear hk);(try clear hi)))
      go_ret2
      exact ⟨by first|rfl|(simp [errW_none,errW_some] <;> rfl)|(simp [*,errW_none,errW_some] <;> rfl),by repeat (first|(with_reducible first|exact HB.out|apply bA|apply bN|apply bD)|exact HB.out)⟩
 ·replace c3 := Bool.eq_false_iff.mpr c3
  subst c3
  rw [if_neg (show ¬ (false = true) by decide)] at H
  simp only [Option.some.injEq,Prod.mk.injEq] at H
  obtain ⟨rfl,rfl⟩ := H
  go_enter Tryd.func12,Tryd.ntmps12
  go_wp2_with (first|((with_reducible refine gate_callee (f := 34) rfl ?_);refine goesL_ (some 8) rfl rfl Tryd.func34 (by kernel_rfl) rfl #[.int .i64 (a0.size : Int),.int .i64 1,.int .i64 10] rfl (by (try simp only [List.map_toArray,List.map_cons,List.map_nil]);first|done|rfl) ?_;(with_reducible refine (impl_inRange.calls (a0.size : Int) 1 10 false _ A2.out).mono ?_);rintro e w' ⟨rfl,⟨nd,rfl⟩⟩;refine ⟨_,rfl,?_⟩))
  go_ret2
  exact ⟨by first|rfl|(simp [errW_none,errW_some] <;> rfl)|(simp [*,errW_none,errW_some] <;> rfl),by repeat (first|(with_reducible first|exact HB.out|apply bA|apply bN|apply bD)|exact HB.out)⟩

/-! ### impl_isLetter: function 50 -/
def impl_isLetter.f (a0 : Int) : Option (Bool) := if a0 ≥ 97 then (some (decide (a0 ≤ 122))) else (some false)
set_option maxHeartbeats 8000000 in
set_option maxRecDepth 100000 in
theorem impl_isLetter.calls (a0 : Int) (r : Bool) (w : World) (h : impl_isLetter.f a0 = some r) :
  Calls Tryd.prog 50 #[.int .u8 a0] w fun e w' => e = .returned (.bool r) ∧ Drawn0 w w' := by
 have H : (if a0 ≥ 97 then (some (decide (a0 ≤ 122))) else (some false)) = some r := h
 clear h
 by_cases c2 : a0 ≥ 97
 ·rw [if_pos c2] at H
  have c2b0 : decide (97 ≤ a0) = true := decide_eq_true c2
  clear c2
  obtain rfl := Option.some.inj H
  go_enter Tryd.func50,Tryd.ntmps50
  go_wp2
  go_ret
  exact ⟨by first|rfl|(simp;done)|(simp [*];done),by repeat (first|exact Drawn0.refl _|apply Drawn0.step)⟩
 ·rw [if_neg c2] at H
  have c2b0 : decide (97 ≤ a0) = false := decide_eq_false c2
  clear c2
  obtain rfl := Option.some.inj H
  go_enter Tryd.func50,Tryd.ntmps50
  go_wp2
  go_ret
  exact ⟨by first|rfl|(simp;done)|(simp [*];done),by repeat (first|exact Drawn0.refl _|apply Drawn0.step)⟩

/-! ### impl_isKept: function 51 -/
def impl_isKept.f (a0 : ByteArray) : Option (Bool) := if a0.toList = ([97,114,114,97,121] : List UInt8) then (some true) else (if a0.toList = ([102,111,114] : List UInt8) then (some true) else (if a0.toList = ([116,111] : List UInt8) then (some true) else (if a0.toList = ([112,114,105,110,116] : List UInt8) then (some true) else (if a0.toList = ([109,105,110] : List UInt8) then (some true) else (if a0.toList = ([109,97,120] : List UInt8) then (some true) else (some false))))))
set_option maxHeartbeats 8000000 in
set_option maxRecDepth 100000 in
theorem impl_isKept.calls (a0 : ByteArray) (r : Bool) (w : World) (h : impl_isKept.f a0 = some r) :
  Calls Tryd.prog 51 #[.string a0] w fun e w' => e = .returned (.bool r) ∧ Drawn0 w w' := by
 have H : (if a0.toList = ([97,114,114,97,121] : List UInt8) then (some true) else (if a0.toList = ([102,111,114] : List UInt8) then (some true) else (if a0.toList = ([116,111] : List UInt8) then (some true) else (if a0.toList = ([112,114,105,110,116] : List UInt8) then (some true) else (if a0.toList = ([109,105,110] : List UInt8) then (some true) else (if a0.toList = ([109,97,120] : List UInt8) then (some true) else (some false))))))) = some r := h
 clear h
 by_cases c2 : a0.toList = ([97,114,114,97,121] : List UInt8)
 ·rw [if_pos c2] at H
  have c2b0 : (a0.toList == ([97,114,114,97,121] : List UInt8)) = true := beq_iff_eq.mpr c2
  have c2b1 : (a0.toList != ([97,114,114,97,121] : List UInt8)) = false := bne_eq_false_iff_eq.mpr c2
  clear c2
  obtain rfl := Option.some.inj H
  go_enter Tryd.func51,Tryd.ntmps51
  go_wp2
  go_ret
  exact ⟨by first|rfl|(simp;done)|(simp [*];done),by repeat (first|exact Drawn0.refl _|apply Drawn0.step)⟩
 ·rw [if_neg c2] at H
  have c2b0 : (a0.toList == ([97,114,114,97,121] : List UInt8)) = false := beq_eq_false_iff_ne.mpr c2
  have c2b1 : (a0.toList != ([97,114,114,97,121] : List UInt8)) = true := bne_iff_ne.mpr c2
  by_cases c3 : a0.toList = ([102,111,114] : List UInt8)
  ·rw [if_pos c3] at H
   have c3b0 : (a0.toList == ([102,111,114] : List UInt8)) = true := beq_iff_eq.mpr c3
   have c3b1 : (a0.toList != ([102,111,114] : List UInt8)) = false := bne_eq_false_iff_eq.mpr c3
   clear c3
   obtain rfl := Option.some.inj H
   go_enter Tryd.func51,Tryd.ntmps51
   go_wp2
   go_ret
   exact ⟨by first|rfl|(simp;done)|(simp [*];done),by repeat (first|exact Drawn0.refl _|apply Drawn0.step)⟩
  ·rw [if_neg c3] at H
   have c3b0 : (a0.toList == ([102,111,114] : List UInt8)) = false := beq_eq_false_iff_ne.mpr c3
   have c3b1 : (a0.toList != ([102,111,114] : List UInt8)) = true := bne_iff_ne.mpr c3
   by_cases c4 : a0.toList = ([116,111] : List UInt8)
   ·rw [if_pos c4] at H
    have c4b0 : (a0.toList == ([116,111] : List UInt8)) = true := beq_iff_eq.mpr c4
    have c4b1 : (a0.toList != ([116,111] : List UInt8)) = false := bne_eq_false_iff_eq.mpr c4
    clear c4
    obtain rfl := Option.some.inj H
    go_enter Tryd.func51,Tryd.ntmps51
    go_wp2
    go_ret
    exact ⟨by first|rfl|(simp;done)|(simp [*];done),by repeat (first|exact Drawn0.refl _|apply Drawn0.step)⟩
   ·rw [if_neg c4] at H
    have c4b0 : (a0.toList == ([116,111] : List UInt8)) = false := beq_eq_false_iff_ne.mpr c4
    have c4b1 : (a0.toList != ([116,111] : List UInt8)) = true := bne_iff_ne.mpr c4
    by_cases c5 : a0.toList = ([112,114,105,110,116] : List UInt8)
    ·rw [if_pos c5] at H
     have c5b0 : (a0.toList == ([112,114,105,110,116] : List UInt8)) = true := beq_iff_eq.mpr c5
     have c5b1 : (a0.toList != ([112,114,105,110,116] : List UInt8)) = false := bne_eq_false_iff_eq.mpr c5
     clear c5
     obtain rfl := Option.some.inj H
     go_enter Tryd.func51,Tryd.ntmps51
     go_wp2
     go_ret
     exact ⟨by first|rfl|(simp;done)|(simp [*];done),by repeat (first|exact Drawn0.refl _|apply Drawn0.step)⟩
    ·rw [if_neg c5] at H
     have c5b0 : (a0.toList == ([112,114,105,110,116] : List UInt8)) = false := beq_eq_false_iff_ne.mpr c5
     have c5b1 : (a0.toList != ([112,114,105,110,116] : List UInt8)) = true := bne_iff_ne.mpr c5
     by_cases c6 : a0.toList = ([109,105,110] : List UInt8)
     ·rw [if_pos c6] at H
      have c6b0 : (a0.toList == ([109,105,110] : List UInt8)) = true := beq_iff_eq.mpr c6
      have c6b1 : (a0.toList != ([109,105,110] : List UInt8)) = false := bne_eq_false_iff_eq.mpr c6
      clear c6
      obtain rfl := Option.some.inj H
      go_enter Tryd.func51,Tryd.ntmps51
      go_wp2
      go_ret
      exact ⟨by first|rfl|(simp;done)|(simp [*];done),by repeat (first|exact Drawn0.refl _|apply Drawn0.step)⟩
     ·rw [if_neg c6] at H
      have c6b0 : (a0.toList == ([109,105,110] : List UInt8)) = false := beq_eq_false_iff_ne.mpr c6
      have c6b1 : (a0.toList != ([109,105,110] : List UInt8)) = true := bne_iff_ne.mpr c6
      by_cases c7 : a0.toList = ([109,97,120] : List UInt8)
      ·rw [if_pos c7] at H
       have c7b0 : (a0.toList == ([109,97,120] : List UInt8)) = true := beq_iff_eq.mpr c7
       have c7b1 : (a0.toList != ([109,97,120] : List UInt8)) = false := bne_eq_false_iff_eq.mpr c7
       clear c7
       obtain rfl := Option.some.inj H
       go_enter Tryd.func51,Tryd.ntmps51
       go_wp2
       go_ret
       exact ⟨by first|rfl|(simp;done)|(simp [*];done),by repeat (first|exact Drawn0.refl _|apply Drawn0.step)⟩
      ·rw [if_neg c7] at H
       have c7b0 : (a0.toList == ([109,97,120] : List UInt8)) = false := beq_eq_false_iff_ne.mpr c7
       have c7b1 : (a0.toList != ([109,97,120] : List UInt8)) = true := bne_iff_ne.mpr c7
       obtain rfl := Option.some.inj H
       go_enter Tryd.func51,Tryd.ntmps51
       go_wp2
       go_ret
       exact ⟨by first|rfl|(simp;done)|(simp [*];done),by repeat (first|exact Drawn0.refl _|apply Drawn0.step)⟩

/-! ### impl_NameOk: function 30 -/
def impl_NameOk.l0 : Nat → ByteArray → Int → Option (Bool)
 |0,_,_ => none
 |k + 1,x0,x3 => if x3 < (x0.size : Int) then (if 0 ≤ x3 then ((impl_isLetter.f (bt x0 x3)).bind fun t172 => (if t172 = true then (impl_NameOk.l0 k x0 (wrap64 (x3 + 1))) else (some false))) else (none)) else ((impl_inRange.f (x0.size : Int) 1 6).bind fun t173 => (if t173 = true then ((impl_isKept.f x0).bind fun t174 => (some (!t174))) else (some false)))
def impl_NameOk.f (k : Nat) (a0 : ByteArray) : Option (Bool) := impl_NameOk.l0 k a0 0
theorem impl_NameOk.mono_l : ∀ k, (∀ y0 y1, LeO (impl_NameOk.l0 k y0 y1) (impl_NameOk.l0 (k + 1) y0 y1))
 | 0 => fun _ _ r h => by simp [impl_NameOk.l0] at h
 | k + 1 => by
  have ih0 := impl_NameOk.mono_l k
  ·intro y0 y1
   unfold impl_NameOk.l0
   repeat' first
   | (with_reducible exact ih0 _ _)
   | (with_reducible exact LeO.refl _)
   | (with_reducible exact LeO.none _)
   | (with_reducible refine LeO.ite ?_ ?_)
   | (with_reducible refine LeO.bind ?_ (fun _ => ?_))
   | exact ih0 _ _
   | exact LeO.none _
   | refine LeO.ite ?_ ?_
   | refine LeO.bind ?_ (fun _ => ?_)
theorem impl_NameOk.mono : ∀ a0 k, LeO (impl_NameOk.f k a0) (impl_NameOk.f (k + 1) a0) := by
 intro a0 k
 have ih0 := impl_NameOk.mono_l k
 unfold impl_NameOk.f
 repeat' first
   | (with_reducible exact ih0 _ _)
   | (with_reducible exact LeO.refl _)
   | (with_reducible exact LeO.none _)
   | (with_reducible refine LeO.ite ?_ ?_)
   | (with_reducible refine LeO.bind ?_ (fun _ => ?_))
   | exact ih0 _ _
   | exact LeO.none _
   | refine LeO.ite ?_ ?_
   | refine LeO.bind ?_ (fun _ => ?_)
set_option maxHeartbeats 8000000 in
set_option maxRecDepth 100000 in
theorem impl_NameOk.calls (k : Nat) (a0 : ByteArray) (r : Bool) (w : World) (h : impl_NameOk.f k a0 = some r) :
  Calls Tryd.prog 30 #[.string a0] w fun e w' => e = .returned (.bool r) ∧ Drawn0 w w' := by
 have H : (impl_NameOk.l0 k a0 0) = some r := h
 clear h
 have H' := mk0 H
 clear H
 go_enter Tryd.func30,Tryd.ntmps30
 go_wp2
 go_loopg [3] k (fun kq v3 w' => ∃ (x3_1 : Int),v3 = .int .i64 x3_1 ∧ Aside0 (impl_NameOk.l0 kq a0 x3_1 = some r) ∧ Aside0 (kq ≤ k) ∧ Drawn0 w w')
 case atStart => exact ⟨(0),(by first|rfl|(simp;done)|(simp [*];done)),H',⟨Nat.le_refl _⟩,by repeat (first|exact Drawn0.refl _|apply Drawn0.step)⟩
 case round =>
  clear H'
  obtain ⟨x3_1,rfl,HA,HK1,⟨m1,rfl⟩⟩ := hrel
  cases gk with
   |zero => exact absurd HA.out (by simp [impl_NameOk.l0])
   |succ k1 =>
   have H := HA.out
   clear HA
   simp only [impl_NameOk.l0] at H
   by_cases c2 : x3_1 < (a0.size : Int)
   ·rw [if_pos c2] at H
    have c2b0 : decide (x3_1 < (a0.size : Int)) = true := decide_eq_true c2
    clear c2
    by_cases c3 : 0 ≤ x3_1
    ·rw [if_pos c3] at H
     have c3b0 : decide (0 ≤ x3_1) = true := decide_eq_true c3
     clear c3
     obtain ⟨t172,A5,H⟩ := bindA H
     by_cases c6 : t172 = true
     ·subst c6
      rw [if_pos rfl] at H
      have H' := mk0 H
      clear H
      have p4 : 0 ≤ (x3_1 : Int) := of_decide_eq_true (by first|(with_reducible assumption)|assumption)
      have q4 : x3_1 < (a0.size : Int) := of_decide_eq_true (by first|(with_reducible assumption)|assumption)
      have hx4 := bt_at a0 x3_1
      replace p4 := eq_true p4
      replace q4 := eq_true q4
      go_wp2_with (first|((with_reducible refine gate_callee (f := 50) rfl ?_);refine goesL_ (some 13) rfl rfl Tryd.func50 (by kernel_rfl) rfl #[.int .u8 (bt a0 x3_1)] rfl (by (try simp only [List.map_toArray,List.map_cons,List.map_nil]);first|done|rfl) ?_;(with_reducible refine (impl_isLetter.calls (bt a0 x3_1) true _ A5.out).mono ?_);rintro e w' ⟨rfl,⟨nd,rfl⟩⟩;refine ⟨_,rfl,?_⟩))
      go_roundg k1
      case measure => have := HK1.out;omega
      case rel => exact ⟨(wrap64 (x3_1 + 1)),(by first|rfl|(simp;done)|(simp [*];done)),H',⟨by have := HK1.out;omega⟩,by repeat (first|exact Drawn0.refl _|apply Drawn0.step)⟩
     ·replace c6 := Bool.eq_false_iff.mpr c6
      subst c6
      rw [if_neg (show ¬ (false = true) by decide)] at H
      obtain rfl := Option.some.inj H
      have p4 : 0 ≤ (x3_1 : Int) := of_decide_eq_true (by first|(with_reducible assumption)|assumption)
      have q4 : x3_1 < (a0.size : Int) := of_decide_eq_true (by first|(with_reducible assumption)|assumption)
      have hx4 := bt_at a0 x3_1
      replace p4 := eq_true p4
      replace q4 := eq_true q4
      go_wp2_with (first|((with_reducible refine gate_callee (f := 50) rfl ?_);refine goesL_ (some 13) rfl rfl Tryd.func50 (by kernel_rfl) rfl #[.int .u8 (bt a0 x3_1)] rfl (by (try simp only [List.map_toArray,List.map_cons,List.map_nil]);first|done|rfl) ?_;(with_reducible refine (impl_isLetter.calls (bt a0 x3_1) false _ A5.out).mono ?_);rintro e w' ⟨rfl,⟨nd,rfl⟩⟩;refine ⟨_,rfl,?_⟩))
      go_ret
      exact ⟨by first|rfl|(simp;done)|(simp [*];done),by repeat (first|exact Drawn0.refl _|apply Drawn0.step)⟩
    ·rw [if_neg c3] at H
     exact absurd H (by simp)
   ·rw [if_neg c2] at H
    have c2b0 : decide (x3_1 < (a0.size : Int)) = false := decide_eq_false c2
    clear c2
    obtain ⟨t173,A7,H⟩ := bindA H
    refine Or.elim (Classical.em (t173 = true)) (fun c8 => ?yes1) (fun c8 => ?no1)
    case' yes1 =>
     subst c8
     rw [if_pos rfl] at H
     obtain ⟨t174,A9,H⟩ := bindA H
     obtain rfl := Option.some.inj H
    case' no1 =>
     replace c8 := Bool.eq_false_iff.mpr c8
     subst c8
     rw [if_neg (show ¬ (false = true) by decide)] at H
     obtain rfl := Option.some.inj H
    all_goals
     go_wp2_with (first|((with_reducible refine gate_callee (f := 34) rfl ?_);refine goesL_ (some 17) rfl rfl Tryd.func34 (by kernel_rfl) rfl #[.int .i64 (a0.size : Int),.int .i64 1,.int .i64 6] rfl (by (try simp only [List.map_toArray,List.map_cons,List.map_nil]);first|done|rfl) ?_;(with_reducible refine (impl_inRange.calls (a0.size : Int) 1 6 _ _ A7.out).mono ?_);rintro e w' ⟨rfl,⟨nd,rfl⟩⟩;refine ⟨_,rfl,?_⟩)|(go_at_call 51;(with_reducible refine (impl_isKept.calls a0 t174 _ A9.out).mono ?_);rintro e w' ⟨rfl,⟨nd,rfl⟩⟩))
     go_ret
     exact ⟨by first|rfl|(simp;done)|(simp [*];done),by repeat (first|exact Drawn0.refl _|apply Drawn0.step)⟩
end Go.Proofs.YtpencchkfbekdaaDoor.PFnLex
