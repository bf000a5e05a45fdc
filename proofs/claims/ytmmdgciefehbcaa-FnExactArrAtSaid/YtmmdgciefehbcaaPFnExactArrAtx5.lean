-- The functions of a law as plain Lean functions, each with its contract: written by a program of this session.
import Derived.Test.YtmmdgciefehbcaaPFnExactArrAtx0
import Derived.Test.YtmmdgciefehbcaaPFnExactArrAtx1
import Derived.Test.YtmmdgciefehbcaaPFnExactArrAtx2
import Derived.Test.YtmmdgciefehbcaaPFnExactArrAtx3
import Derived.Test.YtmmdgciefehbcaaPFnExactArrAtx4
namespace Go.Proofs.Ytmmdgciefehbcaa.PFnExactArrAt
open Go.RowKit Go.Proofs.YtmmdgciefehbcaaW.PrintWords Go.Proofs.YtmmdgciefehbcaaW.PrintLast Go.Proofs.YtmmdgciefehbcaaW.PrintMore
attribute [local go_sem] max2_int min2_int max_two min_two max_three min_three max_four min_four   -- for this text's walks alone
set_option linter.unusedVariables false
set_option linter.unusedSimpArgs false

/-! ### laws_eqArrS: function 68 -/
def laws_eqArrS.l0 : Nat → List (S98) → List (S98) → Int → Option (Bool)
 | 0, _, _, _ => none
 | k + 1, x0, x1, x5 => if x5 < (x0.length : Int) then (if 0 ≤ x5 then (if x5 < (x1.length : Int) then ((laws_eqArr.f ((rd_T98 x0 x5).f0) ((rd_T98 x0 x5).f1) ((rd_T98 x1 x5).f0) ((rd_T98 x1 x5).f1)).bind fun t241 => (if t241 = true then (laws_eqArrS.l0 k x0 x1 (wrap64 (x5 + 1))) else (some false))) else (none)) else (none)) else (some true)
def laws_eqArrS.f (k : Nat) (l0 : List (S98)) (l1 : List (S98)) : Option (Bool) := if (l0.length : Int) = (l1.length : Int) then (laws_eqArrS.l0 k l0 l1 0) else (some false)
theorem laws_eqArrS.mono_l : ∀ k, (∀ y0 y1 y2, LeO (laws_eqArrS.l0 k y0 y1 y2) (laws_eqArrS.l0 (k + 1) y0 y1 y2))
 | 0 => fun _ _ _ r h => by simp [laws_eqArrS.l0] at h
 | k + 1 => by
  have ih0 := laws_eqArrS.mono_l k
  ·intro y0 y1 y2
   unfold laws_eqArrS.l0
   repeat' first
   | (with_reducible exact ih0 _ _ _)
   | (with_reducible exact LeO.refl _)
   | (with_reducible exact LeO.none _)
   | (with_reducible refine LeO.ite ?_ ?_)
   | (with_reducible refine LeO.bind ?_ (fun _ => ?_))
   | exact ih0 _ _ _
   | exact LeO.none _
   | refine LeO.ite ?_ ?_
   | refine LeO.bind ?_ (fun _ => ?_)
theorem laws_eqArrS.mono : ∀ a0 a1 k, LeO (laws_eqArrS.f k a0 a1) (laws_eqArrS.f (k + 1) a0 a1) := by
 intro a0 a1 k
 have ih0 := laws_eqArrS.mono_l k
 unfold laws_eqArrS.f
 repeat' first
   | (with_reducible exact ih0 _ _ _)
   | (with_reducible exact LeO.refl _)
   | (with_reducible exact LeO.none _)
   | (with_reducible refine LeO.ite ?_ ?_)
   | (with_reducible refine LeO.bind ?_ (fun _ => ?_))
   | exact ih0 _ _ _
   | exact LeO.none _
   | refine LeO.ite ?_ ?_
   | refine LeO.bind ?_ (fun _ => ?_)
def laws_eqArrS.T6 : Bool × List (List Nat × List Nat) := (true, [([], []), ([], []), ([0, 1], [0, 1]), ([2], [2]), ([], []), ([], []), ([4, 5], [4, 5]), ([6], [6]), ([3, 7], [3, 7]), ([8], [8])])
def laws_eqArrS.B6 : List Nat := [0, 0, 3, 7, 0, 0, 48, 112, 255, 511]
theorem laws_eqArrS.tab6 : rtab .any (opsOf Try.f68 6) = laws_eqArrS.T6 := by kernel_rfl
theorem laws_eqArrS.bits6 : waitsOk laws_eqArrS.T6.2 laws_eqArrS.B6 = true := by kernel_rfl
set_option maxHeartbeats 8000000 in
set_option maxRecDepth 100000 in
theorem laws_eqArrS.calls (k : Nat) (A0 : Option Addr) (c0 : Nat) (l0 : List (S98)) (A1 : Option Addr) (c1 : Nat) (l1 : List (S98)) (r : Bool) (w : World) (hr0 : Kd.C k98 w A0 l0.length l0) (hc0 : l0.length ≤ c0) (hr1 : Kd.C k98 w A1 l1.length l1) (hc1 : l1.length ≤ c1) (h : laws_eqArrS.f k l0 l1 = some r) :
  Calls Try.prog 68 #[.slice A0 l0.length c0, .slice A1 l1.length c1] w fun e w' => e = .returned (.bool r) ∧ Below w.heap.size w w' := by
 have hu98 := Try.underlying98
 have HR0 := mk0 hr0
 have HC0 := mk0 hc0
 clear hr0 hc0
 have HR1 := mk0 hr1
 have HC1 := mk0 hc1
 clear hr1 hc1
 have HB := mk0 (Below.refl w.heap.size w)
 have H : (if (l0.length : Int) = (l1.length : Int) then (laws_eqArrS.l0 k l0 l1 0) else (some false)) = some r := h
 clear h
 by_cases c3 : (l0.length : Int) = (l1.length : Int)
 ·rw [if_pos c3] at H
  have c3b0 : ((l0.length : Int) == (l1.length : Int)) = true := beq_iff_eq.mpr c3
  have c3b1 : ((l0.length : Int) != (l1.length : Int)) = false := bne_eq_false_iff_eq.mpr c3
  have c3b2 : (l0.length == l1.length) = true := by first|simpa using c3|(simp at c3 ⊢;omega)
  clear c3
  have H' := mk0 H
  clear H
  go_enter Try.func68,Try.ntmps68
  go_wp2
  go_loopg [5] k (fun kq v5 w' => ∃ (x5_1 : Int),v5 = .int .i64 x5_1 ∧ Aside0 (laws_eqArrS.l0 kq l0 l1 x5_1 = some r) ∧ Aside0 (kq ≤ k) ∧ Aside0 (Below w.heap.size w w'))
  case atStart => exact ⟨(0),(by first|rfl|(simp;done)|(simp [*];done)),H',⟨Nat.le_refl _⟩,⟨by repeat (first|(with_reducible first|exact HB.out|apply bA|apply bN|apply bD)|exact HB.out)⟩⟩
  case round =>
   clear H'
   try clear c1
   try clear p2
   try clear c3
   try clear c3b0
   try clear c3b1
   try clear c3b2
   obtain ⟨x5_1,rfl,HA,HK1,HB⟩ := hrel
   cases gk with
     |zero => exact absurd HA.out (by simp [laws_eqArrS.l0])
     |succ k1 =>
    have H := HA.out
    clear HA
    simp only [laws_eqArrS.l0] at H
    by_cases c4 : x5_1 < (l0.length : Int)
    ·rw [if_pos c4] at H
     have c4b0 : decide (x5_1 < (l0.length : Int)) = true := decide_eq_true c4
     clear c4
     by_cases c5 : 0 ≤ x5_1
     ·rw [if_pos c5] at H
      have c5b0 : decide (0 ≤ x5_1) = true := decide_eq_true c5
      clear c5
      by_cases c6 : x5_1 < (l1.length : Int)
      ·rw [if_pos c6] at H
       have c6b0 : decide (x5_1 < (l1.length : Int)) = true := decide_eq_true c6
       clear c6
       obtain ⟨t241,A7,H⟩ := bindA H
       by_cases c8 : t241 = true
       ·subst c8
        rw [if_pos rfl] at H
        have H' := mk0 H
        clear H
        try go_wp2
        have n0_ := mk0 (bD HB.out)
        clear HB
        have HB := n0_
        clear n0_
        have p239 : 0 ≤ (x5_1 : Int) := of_decide_eq_true (by first|(with_reducible assumption)|assumption)
        have q239 : x5_1 < (l0.length : Int) := of_decide_eq_true (by first|(with_reducible assumption)|assumption)
        obtain ⟨ad239,e239,hx239_0,hx239_1⟩ := at_T98 HR0.out x5_1 p239 q239
        have hw239_1 := hx239_1
        have hw239_0 := hx239_0
        cases e239
        replace hx239_0 := hbc HB.out hx239_0
        replace hx239_1 := hbc HB.out hx239_1
        replace p239 := eq_true p239
        replace q239 := eq_true q239
        have p240 : 0 ≤ (x5_1 : Int) := of_decide_eq_true (by first|(with_reducible assumption)|assumption)
        have q240 : x5_1 < (l1.length : Int) := of_decide_eq_true (by first|(with_reducible assumption)|assumption)
        obtain ⟨ad240,e240,hx240_0,hx240_1⟩ := at_T98 HR1.out x5_1 p240 q240
        have hw240_1 := hx240_1
        have hw240_0 := hx240_0
        cases e240
        replace hx240_0 := hbc HB.out hx240_0
        replace hx240_1 := hbc HB.out hx240_1
        replace p240 := eq_true p240
        replace q240 := eq_true q240
        refine start_ (n := 10) (S := fun w' => w'.cell? (ad239.add ((x5_1).toNat * 2)) = some (.string ((rd_T98 l0 x5_1).f0)) ∧ w'.cell? ⟨(ad239.add ((x5_1).toNat * 2)).block,(ad239.add ((x5_1).toNat * 2)).off + 1,none⟩ = some (.int .i64 ((rd_T98 l0 x5_1).f1)) ∧ w'.cell? (ad240.add ((x5_1).toNat * 2)) = some (.string ((rd_T98 l1 x5_1).f0)) ∧ w'.cell? ⟨(ad240.add ((x5_1).toNat * 2)).block,(ad240.add ((x5_1).toNat * 2)).off + 1,none⟩ = some (.int .i64 ((rd_T98 l1 x5_1).f1))) (ds := []) #[false,false,false,false,false,false,false,false,false,false] (by kernel_rfl) rfl rfl ⟨((HB.out.cell (World.block_lt_of_cell? w _ hw239_0)).trans hw239_0),((HB.out.cell (World.block_lt_of_cell? w _ hw239_1)).trans hw239_1),((HB.out.cell (World.block_lt_of_cell? w _ hw240_0)).trans hw240_0),((HB.out.cell (World.block_lt_of_cell? w _ hw240_1)).trans hw240_1)⟩ (fun hHeld => ?_);refine with_tabW laws_eqArrS.tab6 laws_eqArrS.bits6 (fun HT_ HW_ => ?_)
        generalize wr.drew = w9 at HB hx239_0 hx239_1 hx240_0 hx240_1 hHeld ⊢
        refine pure_ (i := 0) (N := some 17) (v := ?_) (a' := ?_) #[true,false,false,false,false,false,false,false,false,false] rfl rfl (any_of HT_.out (by kernel_rfl)) (fun _ _ _ h => h) (Or.inl ⟨by rfl,?_⟩) ?_ ?_
        rotate_left
        ·intro w'
         go_simp
         with_reducible rfl
        rotate_left
        ·simp only [Act.put,List.setIfInBounds_toArray,List.set_cons_zero,List.set_cons_succ,i64_w,i32_w]
         rfl
        refine pure_ (i := 1) (N := some 18) (v := ?_) (a' := ?_) #[true,true,false,false,false,false,false,false,false,false] rfl rfl (any_of HT_.out (by kernel_rfl)) (fun _ _ _ h => h) (Or.inl ⟨by rfl,?_⟩) ?_ ?_
        rotate_left
        ·intro w'
         go_simp
         with_reducible rfl
        rotate_left
        ·simp only [Act.put,List.setIfInBounds_toArray,List.set_cons_zero,List.set_cons_succ,i64_w,i32_w]
         rfl
        refine pure_ (i := 2) (N := some 19) (v := ?_) (a' := ?_) #[true,true,true,false,false,false,false,false,false,false] rfl rfl (any_of HT_.out (by kernel_rfl)) (fun _ _ _ h => h) (Or.inl ⟨by rfl,?_⟩) ?_ ?_
        rotate_left
        ·intro w'
         go_simp
         with_reducible rfl
        rotate_left
        ·simp only [Act.put,List.setIfInBounds_toArray,List.set_cons_zero,List.set_cons_succ,i64_w,i32_w]
         rfl
        refine pure_ (i := 4) (N := some 21) (v := ?_) (a' := ?_) #[true,true,true,false,true,false,false,false,false,false] rfl rfl (any_of HT_.out (by kernel_rfl)) (fun _ _ _ h => h) (Or.inl ⟨by rfl,?_⟩) ?_ ?_
        rotate_left
        ·intro w'
         go_simp
         with_reducible rfl
        rotate_left
        ·simp only [Act.put,List.setIfInBounds_toArray,List.set_cons_zero,List.set_cons_succ,i64_w,i32_w]
         rfl
        refine pure_ (i := 5) (N := some 22) (v := ?_) (a' := ?_) #[true,true,true,false,true,true,false,false,false,false] rfl rfl (any_of HT_.out (by kernel_rfl)) (fun _ _ _ h => h) (Or.inl ⟨by rfl,?_⟩) ?_ ?_
        rotate_left
        ·intro w'
         go_simp
         with_reducible rfl
        rotate_left
        ·simp only [Act.put,List.setIfInBounds_toArray,List.set_cons_zero,List.set_cons_succ,i64_w,i32_w]
         rfl
        refine pure_ (i := 6) (N := some 23) (v := ?_) (a' := ?_) #[true,true,true,false,true,true,true,false,false,false] rfl rfl (any_of HT_.out (by kernel_rfl)) (fun _ _ _ h => h) (Or.inl ⟨by rfl,?_⟩) ?_ ?_
        rotate_left
        ·intro w'
         go_simp
         with_reducible rfl
        rotate_left
        ·simp only [Act.put,List.setIfInBounds_toArray,List.set_cons_zero,List.set_cons_succ,i64_w,i32_w]
         rfl
        refine take_ (i := 3) (N := some 20) (v := ?_) (a' := ?_) #[true,true,true,true,true,true,true,false,false,false] rfl rfl (take_ofW HT_.out HW_.out (by kernel_rfl)) (fun _ _ _ h => h) (Or.inl ⟨by rfl,?_⟩) hHeld ?_ ?_
        rotate_left
        ·rintro w' ⟨s0,s1,s2,s3⟩
         go_simp
         with_reducible rfl
        rotate_left
        ·simp only [Act.put,List.setIfInBounds_toArray,List.set_cons_zero,List.set_cons_succ,i64_w,i32_w]
         rfl
        refine take_ (i := 7) (N := some 24) (v := ?_) (a' := ?_) #[true,true,true,true,true,true,true,true,false,false] rfl rfl (take_ofW HT_.out HW_.out (by kernel_rfl)) (fun _ _ _ h => h) (Or.inl ⟨by rfl,?_⟩) hHeld ?_ ?_
        rotate_left
        ·rintro w' ⟨s0,s1,s2,s3⟩
         go_simp
         with_reducible rfl
        rotate_left
        ·simp only [Act.put,List.setIfInBounds_toArray,List.set_cons_zero,List.set_cons_succ,i64_w,i32_w]
         rfl
        refine one_ (i := 8) (N := some 25) #[true,true,true,true,true,true,true,true,true,false] rfl rfl (one_of HT_.out (by kernel_rfl)) (by decide) (fun K hK => ?_)
        refine goes_ Try.func86 (by kernel_rfl) rfl #[.agg #[.string ((rd_T98 l0 x5_1).f0),.int .i64 ((rd_T98 l0 x5_1).f1)],.agg #[.string ((rd_T98 l1 x5_1).f0),.int .i64 ((rd_T98 l1 x5_1).f1)]] (by rfl) rfl rfl (by (try simp only [List.map_toArray,List.map_cons,List.map_nil]);first|done|rfl) ?_
        with_reducible refine (laws_eqArr.calls ((rd_T98 l0 x5_1).f0) ((rd_T98 l0 x5_1).f1) ((rd_T98 l1 x5_1).f0) ((rd_T98 l1 x5_1).f1) true _ A7.out).mono ?_
        rintro e w10 ⟨rfl,hb⟩
        refine ⟨_,rfl,?_⟩
        have n0_ := mk0 (below_step (by repeat (first|(with_reducible first|exact HB.out|apply bA|apply bN|apply bD)|exact HB.out)) hb)
        clear HB
        have HB := n0_
        clear n0_
        (try clear hb)
        (try clear hb2)
        (try clear hk)
        (try clear hi)
        refine hK.out _ _ ⟨((HB.out.cell (World.block_lt_of_cell? w _ hw239_0)).trans hw239_0),((HB.out.cell (World.block_lt_of_cell? w _ hw239_1)).trans hw239_1),((HB.out.cell (World.block_lt_of_cell? w _ hw240_0)).trans hw240_0),((HB.out.cell (World.block_lt_of_cell? w _ hw240_1)).trans hw240_1)⟩ (fun hHeld => ?_)
        clear hK K
        refine norm_ (a' := ?_) ?_ ?_
        rotate_left
        ·show Act.put _ (some 25) _ = _
         simp only [Act.put,List.setIfInBounds_toArray,List.set_cons_zero,List.set_cons_succ,i64_w,i32_w]
         rfl
        refine pure_ (i := 9) (N := some 26) (v := ?_) (a' := ?_) #[true,true,true,true,true,true,true,true,true,true] rfl rfl (any_of HT_.out (by kernel_rfl)) (fun _ _ _ h => h) (Or.inl ⟨by rfl,?_⟩) ?_ ?_
        rotate_left
        ·intro w'
         go_simp
         with_reducible rfl
        rotate_left
        ·simp only [Act.put,List.setIfInBounds_toArray,List.set_cons_zero,List.set_cons_succ,i64_w,i32_w]
         rfl
        refine done_ (done_of HT_.out (by kernel_rfl)) ?_
        try go_wp2
        go_roundg k1
        case measure => have := HK1.out;omega
        case rel => exact ⟨(wrap64 (x5_1 + 1)),(by first|rfl|(simp;done)|(simp [*];done)),H',⟨by have := HK1.out;omega⟩,⟨by repeat (first|(with_reducible first|exact HB.out|apply bA|apply bN|apply bD)|exact HB.out)⟩⟩
       ·replace c8 := Bool.eq_false_iff.mpr c8
        subst c8
        rw [if_neg (show ¬ (false = true) by decide)] at H
        obtain rfl := Option.some.inj H
        try go_wp2
        have n0_ := mk0 (bD HB.out)
        clear HB
        have HB := n0_
        clear n0_
        have p239 : 0 ≤ (x5_1 : Int) := of_decide_eq_true (by first|(with_reducible assumption)|assumption)
        have q239 : x5_1 < (l0.length : Int) := of_decide_eq_true (by first|(with_reducible assumption)|assumption)
        obtain ⟨ad239,e239,hx239_0,hx239_1⟩ := at_T98 HR0.out x5_1 p239 q239
        have hw239_1 := hx239_1
        have hw239_0 := hx239_0
        cases e239
        replace hx239_0 := hbc HB.out hx239_0
        replace hx239_1 := hbc HB.out hx239_1
        replace p239 := eq_true p239
        replace q239 := eq_true q239
        have p240 : 0 ≤ (x5_1 : Int) := of_decide_eq_true (by first|(with_reducible assumption)|assumption)
        have q240 : x5_1 < (l1.length : Int) := of_decide_eq_true (by first|(with_reducible assumption)|assumption)
        obtain ⟨ad240,e240,hx240_0,hx240_1⟩ := at_T98 HR1.out x5_1 p240 q240
        have hw240_1 := hx240_1
        have hw240_0 := hx240_0
        cases e240
        replace hx240_0 := hbc HB.out hx240_0
        replace hx240_1 := hbc HB.out hx240_1
        replace p240 := eq_true p240
        replace q240 := eq_true q240
        refine start_ (n := 10) (S := fun w' => w'.cell? (ad239.add ((x5_1).toNat * 2)) = some (.string ((rd_T98 l0 x5_1).f0)) ∧ w'.cell? ⟨(ad239.add ((x5_1).toNat * 2)).block,(ad239.add ((x5_1).toNat * 2)).off + 1,none⟩ = some (.int .i64 ((rd_T98 l0 x5_1).f1)) ∧ w'.cell? (ad240.add ((x5_1).toNat * 2)) = some (.string ((rd_T98 l1 x5_1).f0)) ∧ w'.cell? ⟨(ad240.add ((x5_1).toNat * 2)).block,(ad240.add ((x5_1).toNat * 2)).off + 1,none⟩ = some (.int .i64 ((rd_T98 l1 x5_1).f1))) (ds := []) #[false,false,false,false,false,false,false,false,false,false] (by kernel_rfl) rfl rfl ⟨((HB.out.cell (World.block_lt_of_cell? w _ hw239_0)).trans hw239_0),((HB.out.cell (World.block_lt_of_cell? w _ hw239_1)).trans hw239_1),((HB.out.cell (World.block_lt_of_cell? w _ hw240_0)).trans hw240_0),((HB.out.cell (World.block_lt_of_cell? w _ hw240_1)).trans hw240_1)⟩ (fun hHeld => ?_);refine with_tabW laws_eqArrS.tab6 laws_eqArrS.bits6 (fun HT_ HW_ => ?_)
        generalize wr.drew = w11 at HB hx239_0 hx239_1 hx240_0 hx240_1 hHeld ⊢
        refine pure_ (i := 0) (N := some 17) (v := ?_) (a' := ?_) #[true,false,false,false,false,false,false,false,false,false] rfl rfl (any_of HT_.out (by kernel_rfl)) (fun _ _ _ h => h) (Or.inl ⟨by rfl,?_⟩) ?_ ?_
        rotate_left
        ·intro w'
         go_simp
         with_reducible rfl
        rotate_left
        ·simp only [Act.put,List.setIfInBounds_toArray,List.set_cons_zero,List.set_cons_succ,i64_w,i32_w]
         rfl
        refine pure_ (i := 1) (N := some 18) (v := ?_) (a' := ?_) #[true,true,false,false,false,false,false,false,false,false] rfl rfl (any_of HT_.out (by kernel_rfl)) (fun _ _ _ h => h) (Or.inl ⟨by rfl,?_⟩) ?_ ?_
        rotate_left
        ·intro w'
         go_simp
         with_reducible rfl
        rotate_left
        ·simp only [Act.put,List.setIfInBounds_toArray,List.set_cons_zero,List.set_cons_succ,i64_w,i32_w]
         rfl
        refine pure_ (i := 2) (N := some 19) (v := ?_) (a' := ?_) #[true,true,true,false,false,false,false,false,false,false] rfl rfl (any_of HT_.out (by kernel_rfl)) (fun _ _ _ h => h) (Or.inl ⟨by rfl,?_⟩) ?_ ?_
        rotate_left
        ·intro w'
         go_simp
         with_reducible rfl
        rotate_left
        ·simp only [Act.put,List.setIfInBounds_toArray,List.set_cons_zero,List.set_cons_succ,i64_w,i32_w]
         rfl
        refine pure_ (i := 4) (N := some 21) (v := ?_) (a' := ?_) #[true,true,true,false,true,false,false,false,false,false] rfl rfl (any_of HT_.out (by kernel_rfl)) (fun _ _ _ h => h) (Or.inl ⟨by rfl,?_⟩) ?_ ?_
        rotate_left
        ·intro w'
         go_simp
         with_reducible rfl
        rotate_left
        ·simp only [Act.put,List.setIfInBounds_toArray,List.set_cons_zero,List.set_cons_succ,i64_w,i32_w]
         rfl
        refine pure_ (i := 5) (N := some 22) (v := ?_) (a' := ?_) #[true,true,true,false,true,true,false,false,false,false] rfl rfl (any_of HT_.out (by kernel_rfl)) (fun _ _ _ h => h) (Or.inl ⟨by rfl,?_⟩) ?_ ?_
        rotate_left
        ·intro w'
         go_simp
         with_reducible rfl
        rotate_left
        ·simp only [Act.put,List.setIfInBounds_toArray,List.set_cons_zero,List.set_cons_succ,i64_w,i32_w]
         rfl
        refine pure_ (i := 6) (N := some 23) (v := ?_) (a' := ?_) #[true,true,true,false,true,true,true,false,false,false] rfl rfl (any_of HT_.out (by kernel_rfl)) (fun _ _ _ h => h) (Or.inl ⟨by rfl,?_⟩) ?_ ?_
        rotate_left
        ·intro w'
         go_simp
         with_reducible rfl
        rotate_left
        ·simp only [Act.put,List.setIfInBounds_toArray,List.set_cons_zero,List.set_cons_succ,i64_w,i32_w]
         rfl
        refine take_ (i := 3) (N := some 20) (v := ?_) (a' := ?_) #[true,true,true,true,true,true,true,false,false,false] rfl rfl (take_ofW HT_.out HW_.out (by kernel_rfl)) (fun _ _ _ h => h) (Or.inl ⟨by rfl,?_⟩) hHeld ?_ ?_
        rotate_left
        ·rintro w' ⟨s0,s1,s2,s3⟩
         go_simp
         with_reducible rfl
        rotate_left
        ·simp only [Act.put,List.setIfInBounds_toArray,List.set_cons_zero,List.set_cons_succ,i64_w,i32_w]
         rfl
        refine take_ (i := 7) (N := some 24) (v := ?_) (a' := ?_) #[true,true,true,true,true,true,true,true,false,false] rfl rfl (take_ofW HT_.out HW_.out (by kernel_rfl)) (fun _ _ _ h => h) (Or.inl ⟨by rfl,?_⟩) hHeld ?_ ?_
        rotate_left
        ·rintro w' ⟨s0,s1,s2,s3⟩
         go_simp
         with_reducible rfl
        rotate_left
        ·simp only [Act.put,List.setIfInBounds_toArray,List.set_cons_zero,List.set_cons_succ,i64_w,i32_w]
         rfl
        refine one_ (i := 8) (N := some 25) #[true,true,true,true,true,true,true,true,true,false] rfl rfl (one_of HT_.out (by kernel_rfl)) (by decide) (fun K hK => ?_)
        refine goes_ Try.func86 (by kernel_rfl) rfl #[.agg #[.string ((rd_T98 l0 x5_1).f0),.int .i64 ((rd_T98 l0 x5_1).f1)],.agg #[.string ((rd_T98 l1 x5_1).f0),.int .i64 ((rd_T98 l1 x5_1).f1)]] (by rfl) rfl rfl (by (try simp only [List.map_toArray,List.map_cons,List.map_nil]);first|done|rfl) ?_
        with_reducible refine (laws_eqArr.calls ((rd_T98 l0 x5_1).f0) ((rd_T98 l0 x5_1).f1) ((rd_T98 l1 x5_1).f0) ((rd_T98 l1 x5_1).f1) false _ A7.out).mono ?_
        rintro e w12 ⟨rfl,hb⟩
        refine ⟨_,rfl,?_⟩
        have n0_ := mk0 (below_step (by repeat (first|(with_reducible first|exact HB.out|apply bA|apply bN|apply bD)|exact HB.out)) hb)
        clear HB
        have HB := n0_
        clear n0_
        (try clear hb)
        (try clear hb2)
        (try clear hk)
        (try clear hi)
        refine hK.out _ _ ⟨((HB.out.cell (World.block_lt_of_cell? w _ hw239_0)).trans hw239_0),((HB.out.cell (World.block_lt_of_cell? w _ hw239_1)).trans hw239_1),((HB.out.cell (World.block_lt_of_cell? w _ hw240_0)).trans hw240_0),((HB.out.cell (World.block_lt_of_cell? w _ hw240_1)).trans hw240_1)⟩ (fun hHeld => ?_)
        clear hK K
        refine norm_ (a' := ?_) ?_ ?_
        rotate_left
        ·show Act.put _ (some 25) _ = _
         simp only [Act.put,List.setIfInBounds_toArray,List.set_cons_zero,List.set_cons_succ,i64_w,i32_w]
         rfl
        refine pure_ (i := 9) (N := some 26) (v := ?_) (a' := ?_) #[true,true,true,true,true,true,true,true,true,true] rfl rfl (any_of HT_.out (by kernel_rfl)) (fun _ _ _ h => h) (Or.inl ⟨by rfl,?_⟩) ?_ ?_
        rotate_left
        ·intro w'
         go_simp
         with_reducible rfl
        rotate_left
        ·simp only [Act.put,List.setIfInBounds_toArray,List.set_cons_zero,List.set_cons_succ,i64_w,i32_w]
         rfl
        refine done_ (done_of HT_.out (by kernel_rfl)) ?_
        try go_wp2
        go_ret
        exact ⟨by first|rfl|(simp [errW_none,errW_some] <;> rfl)|(simp [*,errW_none,errW_some] <;> rfl),by repeat (first|(with_reducible first|exact HB.out|apply bA|apply bN|apply bD)|exact HB.out)⟩
      ·rw [if_neg c6] at H
       exact absurd H (by simp)
     ·rw [if_neg c5] at H
      exact absurd H (by simp)
    ·rw [if_neg c4] at H
     have c4b0 : decide (x5_1 < (l0.length : Int)) = false := decide_eq_false c4
     clear c4
     obtain rfl := Option.some.inj H
     go_wp2
     go_ret
     exact ⟨by first|rfl|(simp [errW_none,errW_some] <;> rfl)|(simp [*,errW_none,errW_some] <;> rfl),by repeat (first|(with_reducible first|exact HB.out|apply bA|apply bN|apply bD)|exact HB.out)⟩
 ·rw [if_neg c3] at H
  have c3b0 : ((l0.length : Int) == (l1.length : Int)) = false := beq_eq_false_iff_ne.mpr c3
  have c3b1 : ((l0.length : Int) != (l1.length : Int)) = true := bne_iff_ne.mpr c3
  have c3b2 : (l0.length == l1.length) = false := by first|simpa using c3|(simp at c3 ⊢;omega)
  obtain rfl := Option.some.inj H
  go_enter Try.func68,Try.ntmps68
  go_wp2
  go_ret
  exact ⟨by first|rfl|(simp [errW_none,errW_some] <;> rfl)|(simp [*,errW_none,errW_some] <;> rfl),by repeat (first|(with_reducible first|exact HB.out|apply bA|apply bN|apply bD)|exact HB.out)⟩

/-! ### laws_eqProg: function 33 -/
def laws_eqProg.f (k : Nat) (l0_0 : List (S98)) (l0_1 : List (S50)) (l1_0 : List (S98)) (l1_1 : List (S50)) : Option (Bool) := (laws_eqArrS.f k l0_0 l1_0).bind fun t244 => (if t244 = true then ((laws_eqStmtS.f k l0_1 l1_1).bind fun t245 => (if t245 = true then (some true) else (some false))) else (some false))
theorem laws_eqProg.mono : ∀ a0 a1 a2 a3 k, LeO (laws_eqProg.f k a0 a1 a2 a3) (laws_eqProg.f (k + 1) a0 a1 a2 a3) := by
 intro a0 a1 a2 a3 k
 unfold laws_eqProg.f
 repeat' first
   | (with_reducible exact laws_eqArrS.mono _ _ _)
   | (with_reducible exact laws_eqStmtS.mono _ _ _)
   | (with_reducible exact LeO.refl _)
   | (with_reducible exact LeO.none _)
   | (with_reducible refine LeO.ite ?_ ?_)
   | (with_reducible refine LeO.bind ?_ (fun _ => ?_))
   | exact laws_eqArrS.mono _ _ _
   | exact laws_eqStmtS.mono _ _ _
   | exact LeO.none _
   | refine LeO.ite ?_ ?_
   | refine LeO.bind ?_ (fun _ => ?_)
set_option maxHeartbeats 8000000 in
set_option maxRecDepth 100000 in
theorem laws_eqProg.calls (k : Nat) (A0_0 : Option Addr) (c0_0 : Nat) (l0_0 : List (S98)) (A0_1 : Option Addr) (c0_1 : Nat) (l0_1 : List (S50)) (A1_0 : Option Addr) (c1_0 : Nat) (l1_0 : List (S98)) (A1_1 : Option Addr) (c1_1 : Nat) (l1_1 : List (S50)) (r : Bool) (w : World) (hr0_0 : Kd.C k98 w A0_0 l0_0.length l0_0) (hc0_0 : l0_0.length ≤ c0_0) (hr0_1 : Kd.C k50 w A0_1 l0_1.length l0_1) (hc0_1 : l0_1.length ≤ c0_1) (hr1_0 : Kd.C k98 w A1_0 l1_0.length l1_0) (hc1_0 : l1_0.length ≤ c1_0) (hr1_1 : Kd.C k50 w A1_1 l1_1.length l1_1) (hc1_1 : l1_1.length ≤ c1_1) (h : laws_eqProg.f k l0_0 l0_1 l1_0 l1_1 = some r) :
  Calls Try.prog 33 #[.agg #[.slice A0_0 l0_0.length c0_0, .slice A0_1 l0_1.length c0_1], .agg #[.slice A1_0 l1_0.length c1_0, .slice A1_1 l1_1.length c1_1]] w fun e w' => e = .returned (.bool r) ∧ Below w.heap.size w w' := by
 have hu62 := Try.underlying62
 have HR0_0 := mk0 hr0_0
 have HC0_0 := mk0 hc0_0
 clear hr0_0 hc0_0
 have HR0_1 := mk0 hr0_1
 have HC0_1 := mk0 hc0_1
 clear hr0_1 hc0_1
 have HR1_0 := mk0 hr1_0
 have HC1_0 := mk0 hc1_0
 clear hr1_0 hc1_0
 have HR1_1 := mk0 hr1_1
 have HC1_1 := mk0 hc1_1
 clear hr1_1 hc1_1
 have HB := mk0 (Below.refl w.heap.size w)
 have H : ((laws_eqArrS.f k l0_0 l1_0).bind fun t244 => (if t244 = true then ((laws_eqStmtS.f k l0_1 l1_1).bind fun t245 => (if t245 = true then (some true) else (some false))) else (some false))) = some r := h
 clear h
 obtain ⟨t244,A3,H⟩ := bindA H
 by_cases c4 : t244 = true
 ·subst c4
  rw [if_pos rfl] at H
  obtain ⟨t245,A5,H⟩ := bindA H
  by_cases c6 : t245 = true
  ·subst c6
   rw [if_pos rfl] at H
   obtain rfl := Option.some.inj H
   go_enter Try.func33,Try.ntmps33
   go_wp2_with (first|((with_reducible refine gate_dst (N := 2) rfl ?_);refine box_event ?hg (N := 2) ?hd (cs := #[.slice A0_0 l0_0.length c0_0,.slice A0_1 l0_1.length c0_1]) (t := 62) ?hr ?_;(case hd => rfl);(case hg => rfl);(case hr => first|(go_simp;done)|(go_simp;rfl));intro gb242 hg w7 hbox hb;have q_ := qB (by repeat (first|(with_reducible first|exact HB.out|apply bA|apply bN|apply bD)|exact HB.out)) hb;have n0_ := mk0 (below_step q_ hb);have n1_ := mk0 (hbox);have n2_ := mk0 (below_size2 q_ hg);have n3_ := n2_;clear HB;have HB := n0_;have BK242 := n1_;have GW242 := n2_;have GE242 := n3_;clear q_ n0_ n1_ n2_ n3_ hb hbox hg)|((with_reducible refine gate_dst (N := 3) rfl ?_);refine box_event ?hg (N := 3) ?hd (cs := #[.slice A1_0 l1_0.length c1_0,.slice A1_1 l1_1.length c1_1]) (t := 62) ?hr ?_;(case hd => rfl);(case hg => rfl);(case hr => first|(go_simp;done)|(go_simp;rfl));intro gb243 hg w8 hbox hb;have q_ := qB (by repeat (first|(with_reducible first|exact HB.out|apply bA|apply bN|apply bD|refine bS ?_ GE242.out)|exact HB.out)) hb;have n0_ := mk0 (blk_below (by exact kX BK242.out) hb);have n1_ := mk0 (below_step q_ hb);have n2_ := mk0 (hbox);have n3_ := mk0 (below_size2 q_ hg);have n4_ := n3_;have n5_ := mk0 ((by rw [hg];exact Nat.ne_of_lt (blk_lt (by exact kX BK242.out)) : gb242 ≠ gb243));have n6_ := mk0 ((by rw [hg];exact Nat.ne_of_gt (blk_lt (by exact kX BK242.out)) : gb243 ≠ gb242));clear BK242 HB;have BK242 := n0_;have HB := n1_;have BK243 := n2_;have GW243 := n3_;have GE243 := n4_;have NB242_243 := n5_;have NB243_242 := n6_;clear q_ n0_ n1_ n2_ n3_ n4_ n5_ n6_ hb hbox hg;have hnb9 := NB242_243.out;have hnc9 := NB243_242.out;have z10 := bc2 BK242.out;have z11 := bc2 BK243.out)|((with_reducible refine gate_callee (f := 68) rfl ?_);refine goesL_ (some 9) rfl rfl Try.func68 (by kernel_rfl) rfl #[.slice A0_0 l0_0.length c0_0,.slice A1_0 l1_0.length c1_0] rfl (by (try simp only [List.map_toArray,List.map_cons,List.map_nil]);first|done|rfl) ?_;(with_reducible refine (laws_eqArrS.calls k _ _ l0_0 _ _ l1_0 true _ ?side1 ?side2 ?side3 ?side4 A3.out).mono ?_);(case side1 => repeat (first|exact (Kd.C_below HR0_0.out HB.out)|(with_reducible refine cA ?_ _)|(with_reducible refine cN ?_ _)|(with_reducible refine cD ?_)));(case side2 => exact HC0_0.out);(case side3 => repeat (first|exact (Kd.C_below HR1_0.out HB.out)|(with_reducible refine cA ?_ _)|(with_reducible refine cN ?_ _)|(with_reducible refine cD ?_)));(case side4 => exact HC1_0.out);rintro e w12 ⟨rfl,hb⟩;refine ⟨_,rfl,?_⟩;have n0_ := mk0 (blk_below (by exact kX BK242.out) hb);have n1_ := mk0 (blk_below (by exact kX BK243.out) hb);have n2_ := mk0 (below_step (by repeat (first|(with_reducible first|exact HB.out|apply bA|apply bN|apply bD|refine bS ?_ GE242.out|refine bS ?_ GE243.out)|exact HB.out)) hb);clear BK242 BK243 HB;have BK242 := n0_;have BK243 := n1_;have HB := n2_;clear n0_ n1_ n2_;(try clear hb);(try clear hb2);(try clear hk);(try clear hi);have z13 := bc2 BK242.out;have z14 := bc2 BK243.out)|((with_reducible refine gate_callee (f := 61) rfl ?_);refine goesL_ (some 15) rfl rfl Try.func61 (by kernel_rfl) rfl #[.slice A0_1 l0_1.length c0_1,.slice A1_1 l1_1.length c1_1] rfl (by (try simp only [List.map_toArray,List.map_cons,List.map_nil]);first|done|rfl) ?_;(with_reducible refine (laws_eqStmtS.calls k _ _ l0_1 _ _ l1_1 true _ ?side1 ?side2 ?side3 ?side4 A5.out).mono ?_);(case side1 => repeat (first|exact (Kd.C_below HR0_1.out HB.out)|(with_reducible refine cA ?_ _)|(with_reducible refine cN ?_ _)|(with_reducible refine cD ?_)));(case side2 => exact HC0_1.out);(case side3 => repeat (first|exact (Kd.C_below HR1_1.out HB.out)|(with_reducible refine cA ?_ _)|(with_reducible refine cN ?_ _)|(with_reducible refine cD ?_)));(case side4 => exact HC1_1.out);rintro e w15 ⟨rfl,hb⟩;refine ⟨_,rfl,?_⟩;have n0_ := mk0 (blk_below (by exact kX BK242.out) hb);have n1_ := mk0 (blk_below (by exact kX BK243.out) hb);have n2_ := mk0 (below_step (by repeat (first|(with_reducible first|exact HB.out|apply bA|apply bN|apply bD|refine bS ?_ GE242.out|refine bS ?_ GE243.out)|exact HB.out)) hb);clear BK242 BK243 HB;have BK242 := n0_;have BK243 := n1_;have HB := n2_;clear n0_ n1_ n2_;(try clear hb);(try clear hb2);(try clear hk);(try clear hi)))
   go_ret
   exact ⟨by first|rfl|(simp [errW_none,errW_some] <;> rfl)|(simp [*,errW_none,errW_some] <;> rfl),by repeat (first|(with_reducible first|exact HB.out|apply bA|apply bN|apply bD|refine bS ?_ GE242.out|refine bS ?_ GE243.out)|exact HB.out)⟩
  ·replace c6 := Bool.eq_false_iff.mpr c6
   subst c6
   rw [if_neg (show ¬ (false = true) by decide)] at H
   obtain rfl := Option.some.inj H
   go_enter Try.func33,Try.ntmps33
   go_wp2_with (first|((with_reducible refine gate_dst (N := 2) rfl ?_);refine box_event ?hg (N := 2) ?hd (cs := #[.slice A0_0 l0_0.length c0_0,.slice A0_1 l0_1.length c0_1]) (t := 62) ?hr ?_;(case hd => rfl);(case hg => rfl);(case hr => first|(go_simp;done)|(go_simp;rfl));intro gb242 hg w16 hbox hb;have q_ := qB (by repeat (first|(with_reducible first|exact HB.out|apply bA|apply bN|apply bD)|exact HB.out)) hb;have n0_ := mk0 (below_step q_ hb);have n1_ := mk0 (hbox);have n2_ := mk0 (below_size2 q_ hg);have n3_ := n2_;clear HB;have HB := n0_;have BK242 := n1_;have GW242 := n2_;have GE242 := n3_;clear q_ n0_ n1_ n2_ n3_ hb hbox hg)|((with_reducible refine gate_dst (N := 3) rfl ?_);refine box_event ?hg (N := 3) ?hd (cs := #[.slice A1_0 l1_0.length c1_0,.slice A1_1 l1_1.length c1_1]) (t := 62) ?hr ?_;(case hd => rfl);(case hg => rfl);(case hr => first|(go_simp;done)|(go_simp;rfl));intro gb243 hg w17 hbox hb;have q_ := qB (by repeat (first|(with_reducible first|exact HB.out|apply bA|apply bN|apply bD|refine bS ?_ GE242.out)|exact HB.out)) hb;have n0_ := mk0 (blk_below (by exact kX BK242.out) hb);have n1_ := mk0 (below_step q_ hb);have n2_ := mk0 (hbox);have n3_ := mk0 (below_size2 q_ hg);have n4_ := n3_;have n5_ := mk0 ((by rw [hg];exact Nat.ne_of_lt (blk_lt (by exact kX BK242.out)) : gb242 ≠ gb243));have n6_ := mk0 ((by rw [hg];exact Nat.ne_of_gt (blk_lt (by exact kX BK242.out)) : gb243 ≠ gb242));clear BK242 HB;have BK242 := n0_;have HB := n1_;have BK243 := n2_;have GW243 := n3_;have GE243 := n4_;have NB242_243 := n5_;have NB243_242 := n6_;clear q_ n0_ n1_ n2_ n3_ n4_ n5_ n6_ hb hbox hg;have hnb18 := NB242_243.out;have hnc18 := NB243_242.out;have z19 := bc2 BK242.out;have z20 := bc2 BK243.out)|((with_reducible refine gate_callee (f := 68) rfl ?_);refine goesL_ (some 9) rfl rfl Try.func68 (by kernel_rfl) rfl #[.slice A0_0 l0_0.length c0_0,.slice A1_0 l1_0.length c1_0] rfl (by (try simp only [List.map_toArray,List.map_cons,List.map_nil]);first|done|rfl) ?_;(with_reducible refine (laws_eqArrS.calls k _ _ l0_0 _ _ l1_0 true _ ?side1 ?side2 ?side3 ?side4 A3.out).mono ?_);(case side1 => repeat (first|exact (Kd.C_below HR0_0.out HB.out)|(with_reducible refine cA ?_ _)|(with_reducible refine cN ?_ _)|(with_reducible refine cD ?_)));(case side2 => exact HC0_0.out);(case side3 => repeat (first|exact (Kd.C_below HR1_0.out HB.out)|(with_reducible refine cA ?_ _)|(with_reducible refine cN ?_ _)|(with_reducible refine cD ?_)));(case side4 => exact HC1_0.out);rintro e w21 ⟨rfl,hb⟩;refine ⟨_,rfl,?_⟩;have n0_ := mk0 (blk_below (by exact kX BK242.out) hb);have n1_ := mk0 (blk_below (by exact kX BK243.out) hb);have n2_ := mk0 (below_step (by repeat (first|(with_reducible first|exact HB.out|apply bA|apply bN|apply bD|refine bS ?_ GE242.out|refine bS ?_ GE243.out)|exact HB.out)) hb);clear BK242 BK243 HB;have BK242 := n0_;have BK243 := n1_;have HB := n2_;clear n0_ n1_ n2_;(try clear hb);(try clear hb2);(try clear hk);(try clear hi);have z22 := bc2 BK242.out;have z23 := bc2 BK243.out)|((with_reducible refine gate_callee (f := 61) rfl ?_);refine goesL_ (some 15) rfl rfl Try.func61 (by kernel_rfl) rfl #[.slice A0_1 l0_1.length c0_1,.slice A1_1 l1_1.length c1_1] rfl (by (try simp only [List.map_toArray,List.map_cons,List.map_nil]);first|done|rfl) ?_;(with_reducible refine (laws_eqStmtS.calls k _ _ l0_1 _ _ l1_1 false _ ?side1 ?side2 ?side3 ?side4 A5.out).mono ?_);(case side1 => repeat (first|exact (Kd.C_below HR0_1.out HB.out)|(with_reducible refine cA ?_ _)|(with_reducible refine cN ?_ _)|(with_reducible refine cD ?_)));(case side2 => exact HC0_1.out);(case side3 => repeat (first|exact (Kd.C_below HR1_1.out HB.out)|(with_reducible refine cA ?_ _)|(with_reducible refine cN ?_ _)|(with_reducible refine cD ?_)));(case side4 => exact HC1_1.out);rintro e w24 ⟨rfl,hb⟩;refine ⟨_,rfl,?_⟩;have n0_ := mk0 (blk_below (by exact kX BK242.out) hb);have n1_ := mk0 (blk_below (by exact kX BK243.out) hb);have n2_ := mk0 (below_step (by repeat (first|(with_reducible first|exact HB.out|apply bA|apply bN|apply bD|refine bS ?_ GE242.out|refine bS ?_ GE243.out)|exact HB.out)) hb);clear BK242 BK243 HB;have BK242 := n0_;have BK243 := n1_;have HB := n2_;clear n0_ n1_ n2_;(try clear hb);(try clear hb2);(try clear hk);(try clear hi)))
   go_ret
   exact ⟨by first|rfl|(simp [errW_none,errW_some] <;> rfl)|(simp [*,errW_none,errW_some] <;> rfl),by repeat (first|(with_reducible first|exact HB.out|apply bA|apply bN|apply bD|refine bS ?_ GE242.out|refine bS ?_ GE243.out)|exact HB.out)⟩
 ·replace c4 := Bool.eq_false_iff.mpr c4
  subst c4
  rw [if_neg (show ¬ (false = true) by decide)] at H
  obtain rfl := Option.some.inj H
  go_enter Try.func33,Try.ntmps33
  go_wp2_with (first|((with_reducible refine gate_dst (N := 2) rfl ?_);refine box_event ?hg (N := 2) ?hd (cs := #[.slice A0_0 l0_0.length c0_0,.slice A0_1 l0_1.length c0_1]) (t := 62) ?hr ?_;(case hd => rfl);(case hg => rfl);(case hr => first|(go_simp;done)|(go_simp;rfl));intro gb242 hg w25 hbox hb;have q_ := qB (by repeat (first|(with_reducible first|exact HB.out|apply bA|apply bN|apply bD)|exact HB.out)) hb;have n0_ := mk0 (below_step q_ hb);have n1_ := mk0 (hbox);have n2_ := mk0 (below_size2 q_ hg);have n3_ := n2_;clear HB;have HB := n0_;have BK242 := n1_;have GW242 := n2_;have GE242 := n3_;clear q_ n0_ n1_ n2_ n3_ hb hbox hg)|((with_reducible refine gate_dst (N := 3) rfl ?_);refine box_event ?hg (N := 3) ?hd (cs := #[.slice A1_0 l1_0.length c1_0,.slice A1_1 l1_1.length c1_1]) (t := 62) ?hr ?_;(case hd => rfl);(case hg => rfl);(case hr => first|(go_simp;done)|(go_simp;rfl));intro gb243 hg w26 hbox hb;have q_ := qB (by repeat (first|(with_reducible first|exact HB.out|apply bA|apply bN|apply bD|refine bS ?_ GE242.out)|exact HB.out)) hb;have n0_ := mk0 (blk_below (by exact kX BK242.out) hb);have n1_ := mk0 (below_step q_ hb);have n2_ := mk0 (hbox);have n3_ := mk0 (below_size2 q_ hg);have n4_ := n3_;have n5_ := mk0 ((by rw [hg];exact Nat.ne_of_lt (blk_lt (by exact kX BK242.out)) : gb242 ≠ gb243));have n6_ := mk0 ((by rw [hg];exact Nat.ne_of_gt (blk_lt (by exact kX BK242.out)) : gb243 ≠ gb242));clear BK242 HB;have BK242 := n0_;have HB := n1_;have BK243 := n2_;have GW243 := n3_;have GE243 := n4_;have NB242_243 := n5_;have NB243_242 := n6_;clear q_ n0_ n1_ n2_ n3_ n4_ n5_ n6_ hb hbox hg;have hnb27 := NB242_243.out;have hnc27 := NB243_242.out;have z28 := bc2 BK242.out;have z29 := bc2 BK243.out)|((with_reducible refine gate_callee (f := 68) rfl ?_);refine goesL_ (some 9) rfl rfl Try.func68 (by kernel_rfl) rfl #[.slice A0_0 l0_0.length c0_0,.slice A1_0 l1_0.length c1_0] rfl (by (try simp only [List.map_toArray,List.map_cons,List.map_nil]);first|done|rfl) ?_;(with_reducible refine (laws_eqArrS.calls k _ _ l0_0 _ _ l1_0 false _ ?side1 ?side2 ?side3 ?side4 A3.out).mono ?_);(case side1 => repeat (first|exact (Kd.C_below HR0_0.out HB.out)|(with_reducible refine cA ?_ _)|(with_reducible refine cN ?_ _)|(with_reducible refine cD ?_)));(case side2 => exact HC0_0.out);(case side3 => repeat (first|exact (Kd.C_below HR1_0.out HB.out)|(with_reducible refine cA ?_ _)|(with_reducible refine cN ?_ _)|(with_reducible refine cD ?_)));(case side4 => exact HC1_0.out);rintro e w30 ⟨rfl,hb⟩;refine ⟨_,rfl,?_⟩;have n0_ := mk0 (blk_below (by exact kX BK242.out) hb);have n1_ := mk0 (blk_below (by exact kX BK243.out) hb);have n2_ := mk0 (below_step (by repeat (first|(with_reducible first|exact HB.out|apply bA|apply bN|apply bD|refine bS ?_ GE242.out|refine bS ?_ GE243.out)|exact HB.out)) hb);clear BK242 BK243 HB;have BK242 := n0_;have BK243 := n1_;have HB := n2_;clear n0_ n1_ n2_;(try clear hb);(try clear hb2);(try clear hk);(try clear hi)))
  go_ret
  exact ⟨by first|rfl|(simp [errW_none,errW_some] <;> rfl)|(simp [*,errW_none,errW_some] <;> rfl),by repeat (first|(with_reducible first|exact HB.out|apply bA|apply bN|apply bD|refine bS ?_ GE242.out|refine bS ?_ GE243.out)|exact HB.out)⟩

/-! ### laws_FnExactArrAt: function 8 -/
def laws_FnExactArrAt.f (k : Nat) (l0_0 : List (S117)) (l0_1 : List (S45)) (a1 : ByteArray) : Option (Bool) := if (a1.size : Int) > 1048576 then (some true) else ((laws_szProg.f k l0_0 l0_1 1048576).bind fun t247 => (if t247 < 0 then (some true) else ((laws_toProg.f k l0_0 l0_1).bind fun bt248 => ((spec_ArrAt.f k bt248.1 bt248.2 a1).bind fun t254 => ((laws_toProg.f k l0_0 l0_1).bind fun bt255 => ((impl_ArrAt.f k bt255.1 bt255.2 a1).bind fun t262 => (if t262 = t254 then ((laws_toProg.f k l0_0 l0_1).bind fun bt263 => ((laws_eqProg.f k bt255.1 bt255.2 bt263.1 bt263.2).bind fun t269 => (if t269 = true then (some true) else (none)))) else (none))))))))
theorem laws_FnExactArrAt.mono : ∀ a0 a1 a2 k, LeO (laws_FnExactArrAt.f k a0 a1 a2) (laws_FnExactArrAt.f (k + 1) a0 a1 a2) := by
 intro a0 a1 a2 k
 unfold laws_FnExactArrAt.f
 repeat' first
   | (with_reducible exact impl_ArrAt.mono _ _ _ _)
   | (with_reducible exact laws_eqProg.mono _ _ _ _ _)
   | (with_reducible exact laws_szProg.mono _ _ _ _)
   | (with_reducible exact laws_toProg.mono _ _ _)
   | (with_reducible exact spec_ArrAt.mono _ _ _ _)
   | (with_reducible exact LeO.refl _)
   | (with_reducible exact LeO.none _)
   | (with_reducible refine LeO.ite ?_ ?_)
   | (with_reducible refine LeO.bind ?_ (fun _ => ?_))
   | exact impl_ArrAt.mono _ _ _ _
   | exact laws_eqProg.mono _ _ _ _ _
   | exact laws_szProg.mono _ _ _ _
   | exact laws_toProg.mono _ _ _
   | exact spec_ArrAt.mono _ _ _ _
   | exact LeO.none _
   | refine LeO.ite ?_ ?_
   | refine LeO.bind ?_ (fun _ => ?_)
set_option maxHeartbeats 8000000 in
set_option maxRecDepth 100000 in
theorem laws_FnExactArrAt.calls (k : Nat) (A0_0 : Option Addr) (c0_0 : Nat) (l0_0 : List (S117)) (A0_1 : Option Addr) (c0_1 : Nat) (l0_1 : List (S45)) (a1 : ByteArray) (r : Bool) (w : World) (hr0_0 : Kd.C k117 w A0_0 l0_0.length l0_0) (hc0_0 : l0_0.length ≤ c0_0) (hr0_1 : Kd.C k45 w A0_1 l0_1.length l0_1) (hc0_1 : l0_1.length ≤ c0_1) (h : laws_FnExactArrAt.f k l0_0 l0_1 a1 = some r) :
  Calls Try.prog 8 #[.agg #[.slice A0_0 l0_0.length c0_0, .slice A0_1 l0_1.length c0_1], .string a1] w fun e w' => e = .returned (.bool r) ∧ Below w.heap.size w w' := by
 have hu57 := Try.underlying57
 have hu62 := Try.underlying62
 have HR0_0 := mk0 hr0_0
 have HC0_0 := mk0 hc0_0
 clear hr0_0 hc0_0
 have HR0_1 := mk0 hr0_1
 have HC0_1 := mk0 hc0_1
 clear hr0_1 hc0_1
 have HB := mk0 (Below.refl w.heap.size w)
 have H : (if (a1.size : Int) > 1048576 then (some true) else ((laws_szProg.f k l0_0 l0_1 1048576).bind fun t247 => (if t247 < 0 then (some true) else ((laws_toProg.f k l0_0 l0_1).bind fun bt248 => ((spec_ArrAt.f k bt248.1 bt248.2 a1).bind fun t254 => ((laws_toProg.f k l0_0 l0_1).bind fun bt255 => ((impl_ArrAt.f k bt255.1 bt255.2 a1).bind fun t262 => (if t262 = t254 then ((laws_toProg.f k l0_0 l0_1).bind fun bt263 => ((laws_eqProg.f k bt255.1 bt255.2 bt263.1 bt263.2).bind fun t269 => (if t269 = true then (some true) else (none)))) else (none))))))))) = some r := h
 clear h
 refine Or.elim (Classical.em ((a1.size : Int) > 1048576)) (fun c3 => ?yes25) (fun c3 => ?no25)
 case' yes25 =>
  rw [if_pos c3] at H
  have c3b0 : decide (1048576 < (a1.size : Int)) = true := decide_eq_true c3
  have c3b1 : decide (1048576 < a1.size) = true := decide_eq_true (by omega)
  clear c3
  obtain rfl := Option.some.inj H
 case' no25 =>
  rw [if_neg c3] at H
  have c3b0 : decide (1048576 < (a1.size : Int)) = false := decide_eq_false c3
  have c3b1 : decide (1048576 < a1.size) = false := decide_eq_false (by omega)
  clear c3
  obtain ⟨t247,A5,H⟩ := bindA H
  refine Or.elim (Classical.em (t247 < 0)) (fun c6 => ?yes26) (fun c6 => ?no26)
  case' yes26 =>
   rw [if_pos c6] at H
   have c6b0 : decide (t247 < 0) = true := decide_eq_true c6
   clear c6
   obtain rfl := Option.some.inj H
  case' no26 =>
   rw [if_neg c6] at H
   have c6b0 : decide (t247 < 0) = false := decide_eq_false c6
   clear c6
   replace H := Option.bind_eq_some_iff.mp H
   obtain ⟨⟨t248,t251⟩,A100,H⟩ := H
   replace H : ((spec_ArrAt.f k t248 t251 a1).bind fun t254 => ((laws_toProg.f k l0_0 l0_1).bind fun bt255 => ((impl_ArrAt.f k bt255.1 bt255.2 a1).bind fun t262 => (if t262 = t254 then ((laws_toProg.f k l0_0 l0_1).bind fun bt263 => ((laws_eqProg.f k bt255.1 bt255.2 bt263.1 bt263.2).bind fun t269 => (if t269 = true then (some true) else (none)))) else (none))))) = some r := H
   have A10 := mk0 A100
   clear A100
   obtain ⟨t254,A11,H⟩ := bindA H
   replace H := Option.bind_eq_some_iff.mp H
   obtain ⟨⟨t255,t258⟩,A120,H⟩ := H
   replace H : ((impl_ArrAt.f k t255 t258 a1).bind fun t262 => (if t262 = t254 then ((laws_toProg.f k l0_0 l0_1).bind fun bt263 => ((laws_eqProg.f k t255 t258 bt263.1 bt263.2).bind fun t269 => (if t269 = true then (some true) else (none)))) else (none))) = some r := H
   have A12 := mk0 A120
   clear A120
   obtain ⟨t262,A13,H⟩ := bindA H
   by_cases c14 : t262 = t254
   ·rw [if_pos c14] at H
    have c14b0 : (t262 == t254) = true := beq_iff_eq.mpr c14
    have c14b1 : (t262 != t254) = false := bne_eq_false_iff_eq.mpr c14
    clear c14
    replace H := Option.bind_eq_some_iff.mp H
    obtain ⟨⟨t263,t266⟩,A150,H⟩ := H
    replace H : ((laws_eqProg.f k t255 t258 t263 t266).bind fun t269 => (if t269 = true then (some true) else (none))) = some r := H
    have A15 := mk0 A150
    clear A150
    obtain ⟨t269,A16,H⟩ := bindA H
    by_cases c17 : t269 = true
    ·subst c17
     rw [if_pos rfl] at H
     obtain rfl := Option.some.inj H
     go_enter Try.func8,Try.ntmps8
     try go_wp2_with (first|((with_reducible refine gate_dst (N := 2) rfl ?_);refine box_event ?hg (N := 2) ?hd (cs := #[.slice A0_0 l0_0.length c0_0,.slice A0_1 l0_1.length c0_1]) (t := 57) ?hr ?_;(case hd => rfl);(case hg => rfl);(case hr => first|(go_simp;done)|(go_simp;rfl));intro gb246 hg w18 hbox hb;have q_ := qB (by repeat (first|(with_reducible first|exact HB.out|apply bA|apply bN|apply bD)|exact HB.out)) hb;have n0_ := mk0 (below_step q_ hb);have n1_ := mk0 (hbox);have n2_ := mk0 (below_size2 q_ hg);have n3_ := n2_;clear HB;have HB := n0_;have BK246 := n1_;have GW246 := n2_;have GE246 := n3_;clear q_ n0_ n1_ n2_ n3_ hb hbox hg;have z19 := bc2 BK246.out)|((with_reducible refine gate_callee (f := 29) rfl ?_);refine goesL_ (some 14) rfl rfl Try.func29 (by kernel_rfl) rfl #[.agg #[.slice A0_0 l0_0.length c0_0,.slice A0_1 l0_1.length c0_1],.int .i64 1048576] rfl (by (try simp only [List.map_toArray,List.map_cons,List.map_nil]);first|done|rfl) ?_;(with_reducible refine (laws_szProg.calls k _ _ l0_0 _ _ l0_1 1048576 t247 _ ?side1 ?side2 ?side3 ?side4 A5.out).mono ?_);(case side1 => repeat (first|exact (Kd.C_below HR0_0.out HB.out)|(with_reducible refine cA ?_ _)|(with_reducible refine cN ?_ _)|(with_reducible refine cD ?_)));(case side2 => exact HC0_0.out);(case side3 => repeat (first|exact (Kd.C_below HR0_1.out HB.out)|(with_reducible refine cA ?_ _)|(with_reducible refine cN ?_ _)|(with_reducible refine cD ?_)));(case side4 => exact HC0_1.out);rintro e w20 ⟨rfl,hb⟩;refine ⟨_,rfl,?_⟩;have n0_ := mk0 (blk_below (by exact kX BK246.out) hb);have n1_ := mk0 (below_step (by repeat (first|(with_reducible first|exact HB.out|apply bA|apply bN|apply bD|refine bS ?_ GE246.out)|exact HB.out)) hb);clear BK246 HB;have BK246 := n0_;have HB := n1_;clear n0_ n1_;(try clear hb);(try clear hb2);(try clear hk);(try clear hi);have z21 := bc2 BK246.out)|((with_reducible refine gate_callee (f := 31) rfl ?_);refine goesL_ (some 18) rfl rfl Try.func31 (by kernel_rfl) rfl #[.agg #[.slice A0_0 l0_0.length c0_0,.slice A0_1 l0_1.length c0_1]] rfl (by (try simp only [List.map_toArray,List.map_cons,List.map_nil]);first|done|rfl) ?_;(with_reducible refine (laws_toProg.calls k _ _ l0_0 _ _ l0_1 t248 t251 _ ?side1 ?side2 ?side3 ?side4 A10.out).mono ?_);(case side1 => repeat (first|exact (Kd.C_below HR0_0.out HB.out)|(with_reducible refine cA ?_ _)|(with_reducible refine cN ?_ _)|(with_reducible refine cD ?_)));(case side2 => exact HC0_0.out);(case side3 => repeat (first|exact (Kd.C_below HR0_1.out HB.out)|(with_reducible refine cA ?_ _)|(with_reducible refine cN ?_ _)|(with_reducible refine cD ?_)));(case side4 => exact HC0_1.out);rintro e w22 ⟨v249,v252,rfl,ho0,ho1,hb⟩;refine ⟨_,rfl,?_⟩;have q_ := qB (by repeat (first|(with_reducible first|exact HB.out|apply bA|apply bN|apply bD|refine bS ?_ GE246.out)|exact HB.out)) hb;have n0_ := mk0 (Kd.R_lower ho0 (below_size q_));have n1_ := mk0 (Kd.R_lower ho1 (below_size q_));have n2_ := mk0 (blk_below (by exact kX BK246.out) hb);have n3_ := mk0 (below_step q_ hb);clear BK246 HB;have HO250 := n0_;have HO253 := n1_;have BK246 := n2_;have HB := n3_;clear q_ n0_ n1_ n2_ n3_;(try clear hb);(try clear hb2);(try clear hk);(try clear hi);(try clear ho0);(try clear ho1);obtain ⟨Ao23,co23,eo23⟩ := Kd.R_slice HO250.out;subst eo23;obtain ⟨Ao24,co24,eo24⟩ := Kd.R_slice HO253.out;subst eo24)|((with_reducible refine gate_callee (f := 30) rfl ?_);refine goesL_ (some 20) rfl rfl Try.func30 (by kernel_rfl) rfl #[.agg #[.slice Ao23 t248.length co23,.slice Ao24 t251.length co24],.string a1] rfl (by (try simp only [List.map_toArray,List.map_cons,List.map_nil]);first|done|rfl) ?_;(with_reducible refine (spec_ArrAt.calls k _ _ t248 _ _ t251 a1 t254 _ ?side1 ?side2 ?side3 ?side4 A11.out).mono ?_);(case side1 => repeat (first|exact (Kd.R_reads' HO250.out).2.2|(with_reducible refine cA ?_ _)|(with_reducible refine cN ?_ _)|(with_reducible refine cD ?_)));(case side2 => exact (Kd.R_reads' HO250.out).2.1);(case side3 => repeat (first|exact (Kd.R_reads' HO253.out).2.2|(with_reducible refine cA ?_ _)|(with_reducible refine cN ?_ _)|(with_reducible refine cD ?_)));(case side4 => exact (Kd.R_reads' HO253.out).2.1);rintro e w25 ⟨rfl,hb⟩;refine ⟨_,rfl,?_⟩;have n0_ := mk0 (Kd.R_below (by exact rX HO250.out) hb);have n1_ := mk0 (Kd.R_below (by exact rX HO253.out) hb);have n2_ := mk0 (blk_below (by exact kX BK246.out) hb);have n3_ := mk0 (below_step (by repeat (first|(with_reducible first|exact HB.out|apply bA|apply bN|apply bD|refine bS ?_ GE246.out)|exact HB.out)) hb);clear HO250 HO253 BK246 HB;have HO250 := n0_;have HO253 := n1_;have BK246 := n2_;have HB := n3_;clear n0_ n1_ n2_ n3_;(try clear hb);(try clear hb2);(try clear hk);(try clear hi);have z26 := bc2 BK246.out;clear HO250 HO253)|((with_reducible refine gate_callee (f := 31) rfl ?_);refine goesL_ (some 22) rfl rfl Try.func31 (by kernel_rfl) rfl #[.agg #[.slice A0_0 l0_0.length c0_0,.slice A0_1 l0_1.length c0_1]] rfl (by (try simp only [List.map_toArray,List.map_cons,List.map_nil]);first|done|rfl) ?_;(with_reducible refine (laws_toProg.calls k _ _ l0_0 _ _ l0_1 t255 t258 _ ?side1 ?side2 ?side3 ?side4 A12.out).mono ?_);(case side1 => repeat (first|exact (Kd.C_below HR0_0.out HB.out)|(with_reducible refine cA ?_ _)|(with_reducible refine cN ?_ _)|(with_reducible refine cD ?_)));(case side2 => exact HC0_0.out);(case side3 => repeat (first|exact (Kd.C_below HR0_1.out HB.out)|(with_reducible refine cA ?_ _)|(with_reducible refine cN ?_ _)|(with_reducible refine cD ?_)));(case side4 => exact HC0_1.out);rintro e w27 ⟨v256,v259,rfl,ho0,ho1,hb⟩;refine ⟨_,rfl,?_⟩;have q_ := qB (by repeat (first|(with_reducible first|exact HB.out|apply bA|apply bN|apply bD|refine bS ?_ GE246.out)|exact HB.out)) hb;have n0_ := mk0 (Kd.R_lower ho0 (below_size q_));have n1_ := mk0 (Kd.R_lower ho1 (below_size q_));have n2_ := mk0 (blk_below (by exact kX BK246.out) hb);have n3_ := mk0 (below_step q_ hb);clear BK246 HB;have HO257 := n0_;have HO260 := n1_;have BK246 := n2_;have HB := n3_;clear q_ n0_ n1_ n2_ n3_;(try clear hb);(try clear hb2);(try clear hk);(try clear hi);(try clear ho0);(try clear ho1))|((with_reducible refine gate_dst (N := 7) rfl ?_);refine box_event ?hg (N := 7) ?hd (cs := #[.slice none 0 0,.slice none 0 0]) (t := 62) ?hr ?_;(case hd => rfl);(case hg => rfl);(case hr => first|(go_simp;done)|(go_simp;rfl));intro gb261 hg w28 hbox hb;have q_ := qB (by repeat (first|(with_reducible first|exact HB.out|apply bA|apply bN|apply bD|refine bS ?_ GE246.out)|exact HB.out)) hb;have n0_ := mk0 (Kd.R_below (by exact rX HO257.out) hb);have n1_ := mk0 (Kd.R_below (by exact rX HO260.out) hb);have n2_ := mk0 (blk_below (by exact kX BK246.out) hb);have n3_ := mk0 (below_step q_ hb);have n4_ := mk0 (hbox);have n5_ := mk0 ((by rw [hg];exact (below_size q_) : w.heap.size ≤ gb261));have n6_ := n5_;have n7_ := mk0 ((by rw [hg];exact Nat.ne_of_lt (blk_lt (by exact kX BK246.out)) : gb246 ≠ gb261));have n8_ := mk0 ((by rw [hg];exact Nat.ne_of_gt (blk_lt (by exact kX BK246.out)) : gb261 ≠ gb246));clear HO257 HO260 BK246 HB;have HO257 := n0_;have HO260 := n1_;have BK246 := n2_;have HB := n3_;have BK261 := n4_;have GW261 := n5_;have GE261 := n6_;have NB246_261 := n7_;have NB261_246 := n8_;clear q_ n0_ n1_ n2_ n3_ n4_ n5_ n6_ n7_ n8_ hb hbox hg;obtain ⟨Ao29,co29,eo29⟩ := Kd.R_slice HO257.out;subst eo29;have hnb30 := NB261_246.out;have hnc30 := NB246_261.out;have z31 := bc2 BK261.out;obtain ⟨Ao32,co32,eo32⟩ := Kd.R_slice HO260.out;subst eo32)|((with_reducible refine gate_callee (f := 32) rfl ?_);refine goesL_ (some 25) rfl rfl Try.func32 (by kernel_rfl) rfl #[.agg #[.slice Ao29 t255.length co29,.slice Ao32 t258.length co32],.string a1] rfl (by (try simp only [List.map_toArray,List.map_cons,List.map_nil]);first|done|rfl) ?_;(with_reducible refine (impl_ArrAt.calls k _ _ t255 _ _ t258 a1 t262 _ ?side1 ?side2 ?side3 ?side4 A13.out).mono ?_);(case side1 => refine (Kd.R_reads' (e := 98) (base := w.heap.size) (ok := fun k_ => True) (n := t255.length) (c := co29) ?_).2.2;exact (by exact rX (kM (Kd.R_far (p := ⟨gb261,1,none⟩) (Kd.R_far (p := ⟨gb261,0,none⟩) (Kd.R_types HO257.out BK261.out (by decide)) (fun _ hk => hk.2) (.slice Ao29 t255.length co29)) (fun _ hk => hk.2) (.slice Ao32 t258.length co32)))));(case side2 => exact (Kd.R_reads' HO257.out).2.1);(case side3 => refine (Kd.R_reads' (e := 50) (base := w.heap.size) (ok := fun k_ => True) (n := t258.length) (c := co32) ?_).2.2;exact (by exact rX (kM (Kd.R_far (p := ⟨gb261,1,none⟩) (Kd.R_far (p := ⟨gb261,0,none⟩) (Kd.R_types HO260.out BK261.out (by decide)) (fun _ hk => hk.2) (.slice Ao29 t255.length co29)) (fun _ hk => hk.2) (.slice Ao32 t258.length co32)))));(case side4 => exact (Kd.R_reads' HO260.out).2.1);rintro e w33 ⟨rfl,hb⟩;refine ⟨_,rfl,?_⟩;have n0_ := mk0 (Kd.R_below (by exact rX (kM (Kd.R_far (p := ⟨gb261,1,none⟩) (Kd.R_far (p := ⟨gb261,0,none⟩) (Kd.R_types HO257.out BK261.out (by decide)) (fun _ hk => hk.2) (.slice Ao29 t255.length co29)) (fun _ hk => hk.2) (.slice Ao32 t258.length co32)))) hb);have n1_ := mk0 (Kd.R_below (by exact rX (kM (Kd.R_far (p := ⟨gb261,1,none⟩) (Kd.R_far (p := ⟨gb261,0,none⟩) (Kd.R_types HO260.out BK261.out (by decide)) (fun _ hk => hk.2) (.slice Ao29 t255.length co29)) (fun _ hk => hk.2) (.slice Ao32 t258.length co32)))) hb);have n2_ := mk0 (blk_below (g := gb246) (o := .cells #[.slice A0_0 l0_0.length c0_0,.slice A0_1 l0_1.length c0_1] 57 (0,0)) (by refine kX ?_;refine blk_far ?_ NB246_261.out _;refine kX ?_;refine blk_far ?_ NB246_261.out _;exact kX BK246.out) hb);have n3_ := mk0 (blk_below (g := gb261) (o := .cells #[.slice Ao29 t255.length co29,.slice Ao32 t258.length co32] 62 (0,0)) (by refine kX ?_;refine blk_put (cs := #[.slice Ao29 t255.length co29,.slice none 0 0]) ?_ 1 _ rfl;refine kX ?_;refine blk_put (cs := #[.slice none 0 0,.slice none 0 0]) ?_ 0 _ rfl;exact kX BK261.out) hb);have n4_ := mk0 (below_step (by repeat (first|(with_reducible first|exact HB.out|apply bA|apply bN|apply bD|refine bS ?_ GE246.out|refine bS ?_ GE261.out)|exact HB.out)) hb);clear HO257 HO260 BK246 BK261 HB;have HO257 := n0_;have HO260 := n1_;have BK246 := n2_;have BK261 := n3_;have HB := n4_;clear n0_ n1_ n2_ n3_ n4_;(try clear hb);(try clear hb2);(try clear hk);(try clear hi)))
     have n0_ := mk0 (Kd.R_drew HO257.out)
     have n1_ := mk0 (Kd.R_drew HO260.out)
     have n2_ := mk0 (kD BK246.out)
     have n3_ := mk0 (kD BK261.out)
     have n4_ := mk0 (bD HB.out)
     clear HO257
     clear HO260
     clear BK246
     clear BK261
     clear HB
     have HO257 := n0_
     have HO260 := n1_
     have BK246 := n2_
     have BK261 := n3_
     have HB := n4_
     clear n0_ n1_ n2_ n3_ n4_
     refine start_ (n := 5) (S := fun w' => w'.cell? ⟨gb261,0,none⟩ = some (.slice Ao29 t255.length co29) ∧ w'.cell? ⟨gb261,1,none⟩ = some (.slice Ao32 t258.length co32) ∧ w'.cell? ⟨gb246,0,none⟩ = some (.slice A0_0 l0_0.length c0_0) ∧ w'.cell? ⟨gb246,1,none⟩ = some (.slice A0_1 l0_1.length c0_1)) (ds := []) #[false,false,false,false,false] (by kernel_rfl) rfl rfl ⟨(blk_cell BK261.out 0).trans rfl,(blk_cell BK261.out 1).trans rfl,(blk_cell BK246.out 0).trans rfl,(blk_cell BK246.out 1).trans rfl⟩ (fun hHeld => ?_)
     generalize w33.drew = w34 at HO257 HO260 BK246 BK261 HB hHeld ⊢
     refine take_ (i := 0) (N := some 29) (v := ?_) (a' := ?_) #[true,false,false,false,false] rfl rfl (by kernel_rfl) (fun _ _ _ h => h) (Or.inl ⟨by rfl,?_⟩) hHeld ?_ ?_
     rotate_left
     ·rintro w' ⟨s0,s1,s2,s3⟩
      go_simp
      with_reducible rfl
     rotate_left
     ·simp only [Act.put,List.setIfInBounds_toArray,List.set_cons_zero,List.set_cons_succ,i64_w,i32_w]
      rfl
     refine take_ (i := 1) (N := some 30) (v := ?_) (a' := ?_) #[true,true,false,false,false] rfl rfl (by kernel_rfl) (fun _ _ _ h => h) (Or.inl ⟨by rfl,?_⟩) hHeld ?_ ?_
     rotate_left
     ·rintro w' ⟨s0,s1,s2,s3⟩
      go_simp
      with_reducible rfl
     rotate_left
     ·simp only [Act.put,List.setIfInBounds_toArray,List.set_cons_zero,List.set_cons_succ,i64_w,i32_w]
      rfl
     refine one_ (i := 2) (N := some 31) #[true,true,true,false,false] rfl rfl (by kernel_rfl) (by decide) (fun K hK => ?_)
     refine goes_ Try.func31 (by kernel_rfl) rfl #[.agg #[.slice A0_0 l0_0.length c0_0,.slice A0_1 l0_1.length c0_1]] (by rfl) rfl rfl (by (try simp only [List.map_toArray,List.map_cons,List.map_nil]);first|done|rfl) ?_
     with_reducible refine (laws_toProg.calls k _ _ l0_0 _ _ l0_1 t263 t266 _ ?side1 ?side2 ?side3 ?side4 A15.out).mono ?_
     (case side1 => repeat (first|exact (Kd.C_below HR0_0.out HB.out)|(with_reducible refine cA ?_ _)|(with_reducible refine cN ?_ _)|(with_reducible refine cD ?_)))
     (case side2 => exact HC0_0.out)
     (case side3 => repeat (first|exact (Kd.C_below HR0_1.out HB.out)|(with_reducible refine cA ?_ _)|(with_reducible refine cN ?_ _)|(with_reducible refine cD ?_)))
     (case side4 => exact HC0_1.out)
     rintro e w35 ⟨v264,v267,rfl,ho0,ho1,hb⟩
     refine ⟨_,rfl,?_⟩
     have n0_ := mk0 (Kd.R_elder' (by exact rX HO257.out) (Kd.R_base ho0) hb)
     have n1_ := mk0 (Kd.R_elder' (by exact rX HO260.out) (Kd.R_base ho1) hb)
     have n2_ := mk0 (Kd.R_lower (kE ho0 (by exact rX HO257.out)) (below_size (by repeat (first|(with_reducible first|exact HB.out|apply bA|apply bN|apply bD|refine bS ?_ GE246.out|refine bS ?_ GE261.out)|exact HB.out))))
     have n3_ := mk0 (Kd.R_lower (kE ho1 (by exact rX HO260.out)) (below_size (by repeat (first|(with_reducible first|exact HB.out|apply bA|apply bN|apply bD|refine bS ?_ GE246.out|refine bS ?_ GE261.out)|exact HB.out))))
     have n4_ := mk0 (blk_below (by exact kX BK246.out) hb)
     have n5_ := mk0 (blk_below (by exact kX BK261.out) hb)
     have n6_ := mk0 (below_step (by repeat (first|(with_reducible first|exact HB.out|apply bA|apply bN|apply bD|refine bS ?_ GE246.out|refine bS ?_ GE261.out)|exact HB.out)) hb)
     clear HO257
     clear HO260
     clear BK246
     clear BK261
     clear HB
     have HO257 := n0_
     have HO260 := n1_
     have HO265 := n2_
     have HO268 := n3_
     have BK246 := n4_
     have BK261 := n5_
     have HB := n6_
     clear n0_ n1_ n2_ n3_ n4_ n5_ n6_
     (try clear hb)
     (try clear hb2)
     (try clear hk)
     (try clear hi)
     (try clear ho0)
     (try clear ho1)
     obtain ⟨Ao36,co36,eo36⟩ := Kd.R_slice HO265.out
     (first|subst eo36|(injection eo36 with f1_ f2_ f3_;have f4_ := f1_.symm;have f5_ := f3_.symm;clear f1_ f2_ f3_;subst f4_;subst f5_))
     obtain ⟨Ao37,co37,eo37⟩ := Kd.R_slice HO268.out
     (first|subst eo37|(injection eo37 with f1_ f2_ f3_;have f4_ := f1_.symm;have f5_ := f3_.symm;clear f1_ f2_ f3_;subst f4_;subst f5_))
     refine hK.out _ _ ⟨(blk_cell BK261.out 0).trans rfl,(blk_cell BK261.out 1).trans rfl,(blk_cell BK246.out 0).trans rfl,(blk_cell BK246.out 1).trans rfl⟩ (fun hHeld => ?_)
     clear hK K
     refine norm_ (a' := ?_) ?_ ?_
     rotate_left
     ·show Act.put _ (some 31) _ = _
      simp only [Act.put,List.setIfInBounds_toArray,List.set_cons_zero,List.set_cons_succ,i64_w,i32_w]
      rfl
     refine one_ (i := 3) (N := some 32) #[true,true,true,true,false] rfl rfl (by kernel_rfl) (by decide) (fun K hK => ?_)
     refine goes_ Try.func33 (by kernel_rfl) rfl #[.agg #[.slice Ao29 t255.length co29,.slice Ao32 t258.length co32],.agg #[.slice Ao36 t263.length co36,.slice Ao37 t266.length co37]] (by rfl) rfl rfl (by (try simp only [List.map_toArray,List.map_cons,List.map_nil]);first|done|rfl) ?_
     with_reducible refine (laws_eqProg.calls k _ _ t255 _ _ t258 _ _ t263 _ _ t266 true _ ?side1 ?side2 ?side3 ?side4 ?side5 ?side6 ?side7 ?side8 A16.out).mono ?_
     (case side1 => repeat (first|exact (Kd.R_reads' HO257.out).2.2|(with_reducible refine cA ?_ _)|(with_reducible refine cN ?_ _)|(with_reducible refine cD ?_)))
     (case side2 => exact (Kd.R_reads' HO257.out).2.1)
     (case side3 => repeat (first|exact (Kd.R_reads' HO260.out).2.2|(with_reducible refine cA ?_ _)|(with_reducible refine cN ?_ _)|(with_reducible refine cD ?_)))
     (case side4 => exact (Kd.R_reads' HO260.out).2.1)
     (case side5 => repeat (first|exact (Kd.R_reads' HO265.out).2.2|(with_reducible refine cA ?_ _)|(with_reducible refine cN ?_ _)|(with_reducible refine cD ?_)))
     (case side6 => exact (Kd.R_reads' HO265.out).2.1)
     (case side7 => repeat (first|exact (Kd.R_reads' HO268.out).2.2|(with_reducible refine cA ?_ _)|(with_reducible refine cN ?_ _)|(with_reducible refine cD ?_)))
     (case side8 => exact (Kd.R_reads' HO268.out).2.1)
     rintro e w38 ⟨rfl,hb⟩
     refine ⟨_,rfl,?_⟩
     have n0_ := mk0 (Kd.R_below (by exact rX HO257.out) hb)
     have n1_ := mk0 (Kd.R_below (by exact rX HO260.out) hb)
     have n2_ := mk0 (Kd.R_below (by exact rX HO265.out) hb)
     have n3_ := mk0 (Kd.R_below (by exact rX HO268.out) hb)
     have n4_ := mk0 (blk_below (by exact kX BK246.out) hb)
     have n5_ := mk0 (blk_below (by exact kX BK261.out) hb)
     have n6_ := mk0 (below_step (by repeat (first|(with_reducible first|exact HB.out|apply bA|apply bN|apply bD|refine bS ?_ GE246.out|refine bS ?_ GE261.out)|exact HB.out)) hb)
     clear HO257
     clear HO260
     clear HO265
     clear HO268
     clear BK246
     clear BK261
     clear HB
     have HO257 := n0_
     have HO260 := n1_
     have HO265 := n2_
     have HO268 := n3_
     have BK246 := n4_
     have BK261 := n5_
     have HB := n6_
     clear n0_ n1_ n2_ n3_ n4_ n5_ n6_
     (try clear hb)
     (try clear hb2)
     (try clear hk)
     (try clear hi)
     refine hK.out _ _ ⟨(blk_cell BK261.out 0).trans rfl,(blk_cell BK261.out 1).trans rfl,(blk_cell BK246.out 0).trans rfl,(blk_cell BK246.out 1).trans rfl⟩ (fun hHeld => ?_)
     clear hK K
     refine norm_ (a' := ?_) ?_ ?_
     rotate_left
     ·show Act.put _ (some 32) _ = _
      simp only [Act.put,List.setIfInBounds_toArray,List.set_cons_zero,List.set_cons_succ,i64_w,i32_w]
      rfl
     refine pure_ (i := 4) (N := some 33) (v := ?_) (a' := ?_) #[true,true,true,true,true] rfl rfl (by kernel_rfl) (fun _ _ _ h => h) (Or.inl ⟨by rfl,?_⟩) ?_ ?_
     rotate_left
     ·intro w'
      go_simp
      with_reducible rfl
     rotate_left
     ·simp only [Act.put,List.setIfInBounds_toArray,List.set_cons_zero,List.set_cons_succ,i64_w,i32_w]
      rfl
     refine done_ (by kernel_rfl) ?_
     try go_wp2
     go_ret
     exact ⟨by first|rfl|(simp [errW_none,errW_some] <;> rfl)|(simp [*,errW_none,errW_some] <;> rfl),by repeat (first|(with_reducible first|exact HB.out|apply bA|apply bN|apply bD|refine bS ?_ GE246.out|refine bS ?_ GE261.out)|exact HB.out)⟩
    ·replace c17 := Bool.eq_false_iff.mpr c17
     subst c17
     rw [if_neg (show ¬ (false = true) by decide)] at H
     exact absurd H (by simp)
   ·rw [if_neg c14] at H
    exact absurd H (by simp)
 all_goals
  go_enter Try.func8,Try.ntmps8
  go_wp2_with (first|((with_reducible refine gate_dst (N := 2) rfl ?_);refine box_event ?hg (N := 2) ?hd (cs := #[.slice A0_0 l0_0.length c0_0,.slice A0_1 l0_1.length c0_1]) (t := 57) ?hr ?_;(case hd => rfl);(case hg => rfl);(case hr => first|(go_simp;done)|(go_simp;rfl));intro gb246 hg w7 hbox hb;have q_ := qB (by repeat (first|(with_reducible first|exact HB.out|apply bA|apply bN|apply bD)|exact HB.out)) hb;have n0_ := mk0 (below_step q_ hb);have n1_ := mk0 (hbox);have n2_ := mk0 (below_size2 q_ hg);have n3_ := n2_;clear HB;have HB := n0_;have BK246 := n1_;have GW246 := n2_;have GE246 := n3_;clear q_ n0_ n1_ n2_ n3_ hb hbox hg;have z8 := bc2 BK246.out)|((with_reducible refine gate_callee (f := 29) rfl ?_);refine goesL_ (some 14) rfl rfl Try.func29 (by kernel_rfl) rfl #[.agg #[.slice A0_0 l0_0.length c0_0,.slice A0_1 l0_1.length c0_1],.int .i64 1048576] rfl (by (try simp only [List.map_toArray,List.map_cons,List.map_nil]);first|done|rfl) ?_;(with_reducible refine (laws_szProg.calls k _ _ l0_0 _ _ l0_1 1048576 t247 _ ?side1 ?side2 ?side3 ?side4 A5.out).mono ?_);(case side1 => repeat (first|exact (Kd.C_below HR0_0.out HB.out)|(with_reducible refine cA ?_ _)|(with_reducible refine cN ?_ _)|(with_reducible refine cD ?_)));(case side2 => exact HC0_0.out);(case side3 => repeat (first|exact (Kd.C_below HR0_1.out HB.out)|(with_reducible refine cA ?_ _)|(with_reducible refine cN ?_ _)|(with_reducible refine cD ?_)));(case side4 => exact HC0_1.out);rintro e w9 ⟨rfl,hb⟩;refine ⟨_,rfl,?_⟩;have n0_ := mk0 (blk_below (by exact kX BK246.out) hb);have n1_ := mk0 (below_step (by repeat (first|(with_reducible first|exact HB.out|apply bA|apply bN|apply bD|refine bS ?_ GE246.out)|exact HB.out)) hb);clear BK246 HB;have BK246 := n0_;have HB := n1_;clear n0_ n1_;(try clear hb);(try clear hb2);(try clear hk);(try clear hi)))
  go_ret
  exact ⟨by first|rfl|(simp [errW_none,errW_some] <;> rfl)|(simp [*,errW_none,errW_some] <;> rfl),by repeat (first|(with_reducible first|exact HB.out|apply bA|apply bN|apply bD|refine bS ?_ GE246.out)|exact HB.out)⟩
end Go.Proofs.Ytmmdgciefehbcaa.PFnExactArrAt
