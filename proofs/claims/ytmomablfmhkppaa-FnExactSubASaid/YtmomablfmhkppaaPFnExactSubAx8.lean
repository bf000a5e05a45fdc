-- The functions of a law as plain Lean functions, each with its contract: written by a program of this session.
import Derived.Test.YtmomablfmhkppaaPFnExactSubAx0
import Derived.Test.YtmomablfmhkppaaPFnExactSubAx1
import Derived.Test.YtmomablfmhkppaaPFnExactSubAx2
import Derived.Test.YtmomablfmhkppaaPFnExactSubAx6
import Derived.Test.YtmomablfmhkppaaPFnExactSubAx7
import Derived.Test.YtmomablfmhkppaaPFnExactSubAx8a
namespace Go.Proofs.Ytmomablfmhkppaa.PFnExactSubA
open Go.RowKit Go.Proofs.YtmomablfmhkppaaW.PrintWords Go.Proofs.YtmomablfmhkppaaW.PrintLast Go.Proofs.YtmomablfmhkppaaW.PrintMore
attribute [local go_sem] max2_int min2_int max_two min_two max_three min_three max_four min_four   -- for this text's walks alone
set_option linter.unusedVariables false
set_option linter.unusedSimpArgs false
set_option maxHeartbeats 8000000 in
set_option maxRecDepth 100000 in
theorem laws_FnExactSubA.calls (k : Nat) (a0_0 : Int) (A0_1 : Option Addr) (c0_1 : Nat) (l0_1 : List (S92)) (a1_0 : Int) (A1_1 : Option Addr) (c1_1 : Nat) (l1_1 : List (S92)) (r : Bool) (w : World) (hr0_1 : Kd.C k92 w A0_1 l0_1.length l0_1) (hc0_1 : l0_1.length ≤ c0_1) (hr1_1 : Kd.C k92 w A1_1 l1_1.length l1_1) (hc1_1 : l1_1.length ≤ c1_1) (h : laws_FnExactSubA.f k a0_0 l0_1 a1_0 l1_1 = some r) :
  Calls Try.prog 4 #[.agg #[.int .i64 a0_0, .slice A0_1 l0_1.length c0_1], .agg #[.int .i64 a1_0, .slice A1_1 l1_1.length c1_1]] w fun e w' => e = .returned (.bool r) ∧ Below w.heap.size w w' := by
 have hu24 := Try.underlying24
 have hu28 := Try.underlying28
 have HR0_1 := mk0 hr0_1
 have HC0_1 := mk0 hc0_1
 clear hr0_1 hc0_1
 have HR1_1 := mk0 hr1_1
 have HC1_1 := mk0 hc1_1
 clear hr1_1 hc1_1
 have HB := mk0 (Below.refl w.heap.size w)
 have H : ((laws_szAff.f k a0_0 l0_1 1048576).bind fun t253 => (if t253 < 0 then (some true) else ((laws_szAff.f k a1_0 l1_1 t253).bind fun t254 => (if t254 < 0 then (some true) else ((laws_toAff.f k a0_0 l0_1).bind fun bt255 => ((laws_toAff.f k a1_0 l1_1).bind fun bt259 => ((spec_SubA.f k bt255.1 bt255.2 bt259.1 bt259.2).bind fun bt263 => ((laws_toAff.f k a0_0 l0_1).bind fun bt269 => ((laws_toAff.f k a1_0 l1_1).bind fun bt274 => ((impl_SubA.f k bt269.1 bt269.2 bt274.1 bt274.2).bind fun bt279 => ((laws_eqAff.f k bt279.1 bt279.2.1 bt263.1 bt263.2.1).bind fun t285 => (if t285 = true then (laws_FnExactSubA.j0 k bt263.2.2 bt279.2.2 (bt279.2.2 != bt263.2.2) a0_0 l0_1 a1_0 l1_1 bt263.1 bt263.2.1 bt269.1 bt269.2 bt274.1 bt274.2 bt279.1 bt279.2.1) else (laws_FnExactSubA.j0 k bt263.2.2 bt279.2.2 true a0_0 l0_1 a1_0 l1_1 bt263.1 bt263.2.1 bt269.1 bt269.2 bt274.1 bt274.2 bt279.1 bt279.2.1))))))))))))) = some r := h
 clear h
 obtain ⟨t253,A3,H⟩ := bindA H
 refine Or.elim (Classical.em (t253 < 0)) (fun c4 => ?yes2) (fun c4 => ?no2)
 case' yes2 =>
  rw [if_pos c4] at H
  have c4b0 : decide (t253 < 0) = true := decide_eq_true c4
  clear c4
  obtain rfl := Option.some.inj H
 case' no2 =>
  rw [if_neg c4] at H
  have c4b0 : decide (t253 < 0) = false := decide_eq_false c4
  clear c4
  obtain ⟨t254,A10,H⟩ := bindA H
  refine Or.elim (Classical.em (t254 < 0)) (fun c11 => ?yes3) (fun c11 => ?no3)
  case' yes3 =>
   rw [if_pos c11] at H
   have c11b0 : decide (t254 < 0) = true := decide_eq_true c11
   clear c11
   obtain rfl := Option.some.inj H
  case' no3 =>
   rw [if_neg c11] at H
   have c11b0 : decide (t254 < 0) = false := decide_eq_false c11
   clear c11
   replace H := Option.bind_eq_some_iff.mp H
   obtain ⟨⟨t255,t256⟩,A190,H⟩ := H
   replace H : ((laws_toAff.f k a1_0 l1_1).bind fun bt259 => ((spec_SubA.f k t255 t256 bt259.1 bt259.2).bind fun bt263 => ((laws_toAff.f k a0_0 l0_1).bind fun bt269 => ((laws_toAff.f k a1_0 l1_1).bind fun bt274 => ((impl_SubA.f k bt269.1 bt269.2 bt274.1 bt274.2).bind fun bt279 => ((laws_eqAff.f k bt279.1 bt279.2.1 bt263.1 bt263.2.1).bind fun t285 => (if t285 = true then (laws_FnExactSubA.j0 k bt263.2.2 bt279.2.2 (bt279.2.2 != bt263.2.2) a0_0 l0_1 a1_0 l1_1 bt263.1 bt263.2.1 bt269.1 bt269.2 bt274.1 bt274.2 bt279.1 bt279.2.1) else (laws_FnExactSubA.j0 k bt263.2.2 bt279.2.2 true a0_0 l0_1 a1_0 l1_1 bt263.1 bt263.2.1 bt269.1 bt269.2 bt274.1 bt274.2 bt279.1 bt279.2.1)))))))) = some r := H
   have A19 := mk0 A190
   clear A190
   replace H := Option.bind_eq_some_iff.mp H
   obtain ⟨⟨t259,t260⟩,A200,H⟩ := H
   replace H : ((spec_SubA.f k t255 t256 t259 t260).bind fun bt263 => ((laws_toAff.f k a0_0 l0_1).bind fun bt269 => ((laws_toAff.f k a1_0 l1_1).bind fun bt274 => ((impl_SubA.f k bt269.1 bt269.2 bt274.1 bt274.2).bind fun bt279 => ((laws_eqAff.f k bt279.1 bt279.2.1 bt263.1 bt263.2.1).bind fun t285 => (if t285 = true then (laws_FnExactSubA.j0 k bt263.2.2 bt279.2.2 (bt279.2.2 != bt263.2.2) a0_0 l0_1 a1_0 l1_1 bt263.1 bt263.2.1 bt269.1 bt269.2 bt274.1 bt274.2 bt279.1 bt279.2.1) else (laws_FnExactSubA.j0 k bt263.2.2 bt279.2.2 true a0_0 l0_1 a1_0 l1_1 bt263.1 bt263.2.1 bt269.1 bt269.2 bt274.1 bt274.2 bt279.1 bt279.2.1))))))) = some r := H
   have A20 := mk0 A200
   clear A200
   replace H := Option.bind_eq_some_iff.mp H
   obtain ⟨⟨t263,t264,t267⟩,A210,H⟩ := H
   replace H : ((laws_toAff.f k a0_0 l0_1).bind fun bt269 => ((laws_toAff.f k a1_0 l1_1).bind fun bt274 => ((impl_SubA.f k bt269.1 bt269.2 bt274.1 bt274.2).bind fun bt279 => ((laws_eqAff.f k bt279.1 bt279.2.1 t263 t264).bind fun t285 => (if t285 = true then (laws_FnExactSubA.j0 k t267 bt279.2.2 (bt279.2.2 != t267) a0_0 l0_1 a1_0 l1_1 t263 t264 bt269.1 bt269.2 bt274.1 bt274.2 bt279.1 bt279.2.1) else (laws_FnExactSubA.j0 k t267 bt279.2.2 true a0_0 l0_1 a1_0 l1_1 t263 t264 bt269.1 bt269.2 bt274.1 bt274.2 bt279.1 bt279.2.1)))))) = some r := H
   have A21 := mk0 A210
   clear A210
   replace H := Option.bind_eq_some_iff.mp H
   obtain ⟨⟨t269,t270⟩,A220,H⟩ := H
   replace H : ((laws_toAff.f k a1_0 l1_1).bind fun bt274 => ((impl_SubA.f k t269 t270 bt274.1 bt274.2).bind fun bt279 => ((laws_eqAff.f k bt279.1 bt279.2.1 t263 t264).bind fun t285 => (if t285 = true then (laws_FnExactSubA.j0 k t267 bt279.2.2 (bt279.2.2 != t267) a0_0 l0_1 a1_0 l1_1 t263 t264 t269 t270 bt274.1 bt274.2 bt279.1 bt279.2.1) else (laws_FnExactSubA.j0 k t267 bt279.2.2 true a0_0 l0_1 a1_0 l1_1 t263 t264 t269 t270 bt274.1 bt274.2 bt279.1 bt279.2.1))))) = some r := H
   have A22 := mk0 A220
   clear A220
   replace H := Option.bind_eq_some_iff.mp H
   obtain ⟨⟨t274,t275⟩,A230,H⟩ := H
   replace H : ((impl_SubA.f k t269 t270 t274 t275).bind fun bt279 => ((laws_eqAff.f k bt279.1 bt279.2.1 t263 t264).bind fun t285 => (if t285 = true then (laws_FnExactSubA.j0 k t267 bt279.2.2 (bt279.2.2 != t267) a0_0 l0_1 a1_0 l1_1 t263 t264 t269 t270 t274 t275 bt279.1 bt279.2.1) else (laws_FnExactSubA.j0 k t267 bt279.2.2 true a0_0 l0_1 a1_0 l1_1 t263 t264 t269 t270 t274 t275 bt279.1 bt279.2.1)))) = some r := H
   have A23 := mk0 A230
   clear A230
   replace H := Option.bind_eq_some_iff.mp H
   obtain ⟨⟨t279,t280,t283⟩,A240,H⟩ := H
   replace H : ((laws_eqAff.f k t279 t280 t263 t264).bind fun t285 => (if t285 = true then (laws_FnExactSubA.j0 k t267 t283 (t283 != t267) a0_0 l0_1 a1_0 l1_1 t263 t264 t269 t270 t274 t275 t279 t280) else (laws_FnExactSubA.j0 k t267 t283 true a0_0 l0_1 a1_0 l1_1 t263 t264 t269 t270 t274 t275 t279 t280))) = some r := H
   have A24 := mk0 A240
   clear A240
   have HC25 := mk0 H
   clear H
   go_enter Try.func4,Try.ntmps4
   try go_wp2_with (first|((with_reducible refine gate_dst (N := 2) rfl ?_);refine box_event ?hg (N := 2) ?hd (cs := #[.int .i64 a0_0,.slice A0_1 l0_1.length c0_1]) (t := 24) ?hr ?_;(case hd => rfl);(case hg => rfl);(case hr => first|(go_simp;done)|(go_simp;rfl));intro gb251 hg w26 hbox hb;have q_ := qB (by repeat (first|(with_reducible first|exact HB.out|apply bA|apply bN|apply bD)|exact HB.out)) hb;have n0_ := mk0 (below_step q_ hb);have n1_ := mk0 (hbox);have n2_ := mk0 (below_size2 q_ hg);have n3_ := n2_;clear HB;have HB := n0_;have BK251 := n1_;have GW251 := n2_;have GE251 := n3_;clear q_ n0_ n1_ n2_ n3_;clear hb hbox hg)|((with_reducible refine gate_dst (N := 3) rfl ?_);refine box_event ?hg (N := 3) ?hd (cs := #[.int .i64 a1_0,.slice A1_1 l1_1.length c1_1]) (t := 24) ?hr ?_;(case hd => rfl);(case hg => rfl);(case hr => first|(go_simp;done)|(go_simp;rfl));intro gb252 hg w27 hbox hb;have q_ := qB (by repeat (first|(with_reducible first|exact HB.out|apply bA|apply bN|apply bD|refine bS ?_ GE251.out)|exact HB.out)) hb;have n0_ := mk0 (blk_below (by exact kX BK251.out) hb);have n1_ := mk0 (below_step q_ hb);have n2_ := mk0 (hbox);have n3_ := mk0 (below_size2 q_ hg);have n4_ := n3_;have n5_ := mk0 ((by rw [hg];exact Nat.ne_of_lt (blk_lt (by exact kX BK251.out)) : gb251 ≠ gb252));have n6_ := mk0 ((by rw [hg];exact Nat.ne_of_gt (blk_lt (by exact kX BK251.out)) : gb252 ≠ gb251));clear BK251;clear HB;have BK251 := n0_;have HB := n1_;have BK252 := n2_;have GW252 := n3_;have GE252 := n4_;have NB251_252 := n5_;have NB252_251 := n6_;clear q_ n0_ n1_ n2_ n3_ n4_ n5_ n6_;clear hb hbox hg;have hnb28 := NB251_252.out;have hnc28 := NB252_251.out;have z29 := bc2 BK251.out)|((with_reducible refine gate_callee (f := 8) rfl ?_);refine goesL_ (some 19) rfl rfl Try.func8 (by kernel_rfl) rfl #[.agg #[.int .i64 a0_0,.slice A0_1 l0_1.length c0_1],.int .i64 1048576] rfl (by (try simp only [List.map_toArray,List.map_cons,List.map_nil]);first|done|rfl) ?_;(with_reducible refine (laws_szAff.calls k a0_0 _ _ l0_1 1048576 t253 _ ?side1 ?side2 A3.out).mono ?_);(case side1 => repeat (first|exact (Kd.C_below HR0_1.out HB.out)|(with_reducible refine cA ?_ _)|(with_reducible refine cN ?_ _)|(with_reducible refine cD ?_)));(case side2 => exact HC0_1.out);rintro e w30 ⟨rfl,hb⟩;refine ⟨_,rfl,?_⟩;have n0_ := mk0 (blk_below (by exact kX BK251.out) hb);have n1_ := mk0 (blk_below (by exact kX BK252.out) hb);have n2_ := mk0 (below_step (by repeat (first|(with_reducible first|exact HB.out|apply bA|apply bN|apply bD|refine bS ?_ GE251.out|refine bS ?_ GE252.out)|exact HB.out)) hb);clear BK251;clear BK252;clear HB;have BK251 := n0_;have BK252 := n1_;have HB := n2_;clear n0_ n1_ n2_;(try clear hb);(try clear hb2);(try clear hk);(try clear hi);have z31 := bc2 BK252.out)|((with_reducible refine gate_callee (f := 8) rfl ?_);refine goesL_ (some 24) rfl rfl Try.func8 (by kernel_rfl) rfl #[.agg #[.int .i64 a1_0,.slice A1_1 l1_1.length c1_1],.int .i64 t253] rfl (by (try simp only [List.map_toArray,List.map_cons,List.map_nil]);first|done|rfl) ?_;(with_reducible refine (laws_szAff.calls k a1_0 _ _ l1_1 t253 t254 _ ?side1 ?side2 A10.out).mono ?_);(case side1 => repeat (first|exact (Kd.C_below HR1_1.out HB.out)|(with_reducible refine cA ?_ _)|(with_reducible refine cN ?_ _)|(with_reducible refine cD ?_)));(case side2 => exact HC1_1.out);rintro e w32 ⟨rfl,hb⟩;refine ⟨_,rfl,?_⟩;have n0_ := mk0 (blk_below (by exact kX BK251.out) hb);have n1_ := mk0 (blk_below (by exact kX BK252.out) hb);have n2_ := mk0 (below_step (by repeat (first|(with_reducible first|exact HB.out|apply bA|apply bN|apply bD|refine bS ?_ GE251.out|refine bS ?_ GE252.out)|exact HB.out)) hb);clear BK251;clear BK252;clear HB;have BK251 := n0_;have BK252 := n1_;have HB := n2_;clear n0_ n1_ n2_;(try clear hb);(try clear hb2);(try clear hk);(try clear hi)))
   have n0_ := mk0 (kD BK251.out)
   have n1_ := mk0 (kD BK252.out)
   have n2_ := mk0 (bD HB.out)
   clear BK251
   clear BK252
   clear HB
   have BK251 := n0_
   have BK252 := n1_
   have HB := n2_
   clear n0_ n1_ n2_
   refine start_ (n := 11) (S := fun w' => w'.cell? ⟨gb251,0,none⟩ = some (.int .i64 a0_0) ∧ w'.cell? ⟨gb251,1,none⟩ = some (.slice A0_1 l0_1.length c0_1) ∧ w'.cell? ⟨gb252,0,none⟩ = some (.int .i64 a1_0) ∧ w'.cell? ⟨gb252,1,none⟩ = some (.slice A1_1 l1_1.length c1_1)) (ds := []) #[false,false,false,false,false,false,false,false,false,false,false] (by kernel_rfl) rfl rfl ⟨(blk_cell BK251.out 0).trans rfl,(blk_cell BK251.out 1).trans rfl,(blk_cell BK252.out 0).trans rfl,(blk_cell BK252.out 1).trans rfl⟩ (fun hHeld => ?_);refine with_tabW laws_FnExactSubA.tab8 laws_FnExactSubA.bits8 (fun HT_ HW_ => ?_)
   generalize w32.drew = w33 at BK251 BK252 HB hHeld ⊢
   refine take_ (i := 0) (N := some 28) (v := ?_) (a' := ?_) #[true,false,false,false,false,false,false,false,false,false,false] rfl rfl (take_ofW HT_.out HW_.out (by kernel_rfl)) (fun _ _ _ h => h) (Or.inl ⟨by rfl,?_⟩) hHeld ?_ ?_
   rotate_left
   ·rintro w' ⟨s0,s1,s2,s3⟩
    go_simp
    with_reducible rfl
   rotate_left
   ·simp only [Act.put,List.setIfInBounds_toArray,List.set_cons_zero,List.set_cons_succ,i64_w,i32_w]
    rfl
   refine take_ (i := 2) (N := some 30) (v := ?_) (a' := ?_) #[true,false,true,false,false,false,false,false,false,false,false] rfl rfl (take_ofW HT_.out HW_.out (by kernel_rfl)) (fun _ _ _ h => h) (Or.inl ⟨by rfl,?_⟩) hHeld ?_ ?_
   rotate_left
   ·rintro w' ⟨s0,s1,s2,s3⟩
    go_simp
    with_reducible rfl
   rotate_left
   ·simp only [Act.put,List.setIfInBounds_toArray,List.set_cons_zero,List.set_cons_succ,i64_w,i32_w]
    rfl
   refine join_ (σ := Value × Value × Value × Nat) 2 #[true,true,true,true,true,true,true,true,true,false,false] (fun s_ => [(29,.agg #[.int .i64 t255,s_.1]),(31,.agg #[.int .i64 t259,s_.2.1]),(32,.tuple #[.agg #[.int .i64 t263,s_.2.2.1],.bool t267]),(6,.pointer (some ⟨s_.2.2.2,0,none⟩)),(27,.tuple #[.agg #[.int .i64 t263,s_.2.2.1],.bool t267]),(33,.agg #[.int .i64 t263,s_.2.2.1]),(34,.bool t267)]) (fun s_ w' => (w'.cell? ⟨gb251,0,none⟩ = some (.int .i64 a0_0) ∧ w'.cell? ⟨gb251,1,none⟩ = some (.slice A0_1 l0_1.length c0_1) ∧ w'.cell? ⟨gb252,0,none⟩ = some (.int .i64 a1_0) ∧ w'.cell? ⟨gb252,1,none⟩ = some (.slice A1_1 l1_1.length c1_1)) ∧ (Kd.R k70 70 w' w.heap.size (fun k_ => some k_ ≠ (s_.2.1 : Value).ownBlock ∧ some k_ ≠ (s_.2.2.1 : Value).ownBlock) s_.1 t256) ∧ (Kd.R k70 70 w' w.heap.size (fun k_ => some k_ ≠ (s_.1 : Value).ownBlock ∧ some k_ ≠ (s_.2.2.1 : Value).ownBlock) s_.2.1 t260) ∧ (Kd.R k70 70 w' w.heap.size (fun k_ => some k_ ≠ (s_.1 : Value).ownBlock ∧ some k_ ≠ (s_.2.1 : Value).ownBlock) s_.2.2.1 t264) ∧ (w'.heap[gb251]? = some (.cells #[.int .i64 a0_0,.slice A0_1 l0_1.length c0_1] 24 (0,0))) ∧ (w'.heap[gb252]? = some (.cells #[.int .i64 a1_0,.slice A1_1 l1_1.length c1_1] 24 (0,0))) ∧ (w'.heap[s_.2.2.2]? = some (.cells #[.int .i64 0,.slice none 0 0] 28 (0,0))) ∧ (w.heap.size ≤ s_.2.2.2) ∧ (w.heap.size ≤ s_.2.2.2) ∧ (gb251 ≠ s_.2.2.2) ∧ (s_.2.2.2 ≠ gb251) ∧ (gb252 ≠ s_.2.2.2) ∧ (s_.2.2.2 ≠ gb252) ∧ (Below w.heap.size w w')) ?_ ?_
   rotate_left
   ·intro hCont
    refine two_ (i := 1) (j := 8) (Ni := some 29) (Nj := some 6) #[true,true,true,false,false,false,false,false,false,false,false] #[true,false,true,false,false,false,false,false,true,false,false] rfl rfl rfl rfl (two_of HT_.out (by kernel_rfl)) (by decide) (by decide) (fun K hK => ?_) (fun K hK => ?_)
    ·skip
     refine goes_ Try.func10 (by kernel_rfl) rfl #[.agg #[.int .i64 a0_0,.slice A0_1 l0_1.length c0_1]] (by rfl) rfl rfl (by (try simp only [List.map_toArray,List.map_cons,List.map_nil]);first|done|rfl) ?_
     with_reducible refine (laws_toAff.calls k a0_0 _ _ l0_1 t255 t256 _ ?side1 ?side2 A19.out).mono ?_
     (case side1 => repeat (first|exact (Kd.C_below HR0_1.out HB.out)|(with_reducible refine cA ?_ _)|(with_reducible refine cN ?_ _)|(with_reducible refine cD ?_)))
     (case side2 => exact HC0_1.out)
     rintro e w34 ⟨v257,rfl,ho0,hb⟩
     refine ⟨_,rfl,?_⟩
     have n0_ := mk0 (Kd.R_lower ho0 (below_size (by repeat (first|(with_reducible first|exact HB.out|apply bA|apply bN|apply bD|refine bS ?_ GE251.out|refine bS ?_ GE252.out)|exact HB.out))))
     have n1_ := mk0 (blk_below (by exact kX BK251.out) hb)
     have n2_ := mk0 (blk_below (by exact kX BK252.out) hb)
     have n3_ := mk0 (below_step (by repeat (first|(with_reducible first|exact HB.out|apply bA|apply bN|apply bD|refine bS ?_ GE251.out|refine bS ?_ GE252.out)|exact HB.out)) hb)
     clear BK251
     clear BK252
     clear HB
     have HO258 := n0_
     have BK251 := n1_
     have BK252 := n2_
     have HB := n3_
     clear n0_ n1_ n2_ n3_
     (try clear hb)
     (try clear hb2)
     (try clear hk)
     (try clear hi)
     (try clear ho0)
     refine hK.out _ _ ⟨(blk_cell BK251.out 0).trans rfl,(blk_cell BK251.out 1).trans rfl,(blk_cell BK252.out 0).trans rfl,(blk_cell BK252.out 1).trans rfl⟩ (fun hHeld => ?_)
     clear hK K
     refine norm_ (a' := ?_) ?_ ?_
     rotate_left
     ·show Act.put _ (some 29) _ = _
      simp only [Act.put,List.setIfInBounds_toArray,List.set_cons_zero,List.set_cons_succ,i64_w,i32_w]
      rfl
     refine two_ (i := 3) (j := 8) (Ni := some 31) (Nj := some 6) #[true,true,true,true,false,false,false,false,false,false,false] #[true,true,true,false,false,false,false,false,true,false,false] rfl rfl rfl rfl (two_of HT_.out (by kernel_rfl)) (by decide) (by decide) (fun K hK => ?_) (fun K hK => ?_)
     ·skip
      refine goes_ Try.func10 (by kernel_rfl) rfl #[.agg #[.int .i64 a1_0,.slice A1_1 l1_1.length c1_1]] (by rfl) rfl rfl (by (try simp only [List.map_toArray,List.map_cons,List.map_nil]);first|done|rfl) ?_
      with_reducible refine (laws_toAff.calls k a1_0 _ _ l1_1 t259 t260 _ ?side1 ?side2 A20.out).mono ?_
      (case side1 => repeat (first|exact (Kd.C_below HR1_1.out HB.out)|(with_reducible refine cA ?_ _)|(with_reducible refine cN ?_ _)|(with_reducible refine cD ?_)))
      (case side2 => exact HC1_1.out)
      rintro e w35 ⟨v261,rfl,ho0,hb⟩
      refine ⟨_,rfl,?_⟩
      have n0_ := mk0 (Kd.R_elder' (by exact rX HO258.out) (Kd.R_base ho0) hb)
      have n1_ := mk0 (Kd.R_lower (Kd.R_new' ho0 (Kd.R_lt (by exact rX HO258.out))) (below_size (by repeat (first|(with_reducible first|exact HB.out|apply bA|apply bN|apply bD|refine bS ?_ GE251.out|refine bS ?_ GE252.out)|exact HB.out))))
      have n2_ := mk0 (blk_below (by exact kX BK251.out) hb)
      have n3_ := mk0 (blk_below (by exact kX BK252.out) hb)
      have n4_ := mk0 (below_step (by repeat (first|(with_reducible first|exact HB.out|apply bA|apply bN|apply bD|refine bS ?_ GE251.out|refine bS ?_ GE252.out)|exact HB.out)) hb)
      clear HO258
      clear BK251
      clear BK252
      clear HB
      have HO258 := n0_
      have HO262 := n1_
      have BK251 := n2_
      have BK252 := n3_
      have HB := n4_
      clear n0_ n1_ n2_ n3_ n4_
      (try clear hb)
      (try clear hb2)
      (try clear hk)
      (try clear hi)
      (try clear ho0)
      obtain ⟨Ao36,co36,eo36⟩ := Kd.R_slice HO258.out
      (first|subst eo36|(injection eo36 with f1_ f2_ f3_;have f4_ := f1_.symm;have f5_ := f3_.symm;clear f1_ f2_ f3_;subst f4_;subst f5_))
      obtain ⟨Ao37,co37,eo37⟩ := Kd.R_slice HO262.out
      (first|subst eo37|(injection eo37 with f1_ f2_ f3_;have f4_ := f1_.symm;have f5_ := f3_.symm;clear f1_ f2_ f3_;subst f4_;subst f5_))
      refine hK.out _ _ ⟨(blk_cell BK251.out 0).trans rfl,(blk_cell BK251.out 1).trans rfl,(blk_cell BK252.out 0).trans rfl,(blk_cell BK252.out 1).trans rfl⟩ (fun hHeld => ?_)
      clear hK K
      refine norm_ (a' := ?_) ?_ ?_
      rotate_left
      ·show Act.put _ (some 31) _ = _
       simp only [Act.put,List.setIfInBounds_toArray,List.set_cons_zero,List.set_cons_succ,i64_w,i32_w]
       rfl
      refine two_ (i := 4) (j := 8) (Ni := some 32) (Nj := some 6) #[true,true,true,true,true,false,false,false,false,false,false] #[true,true,true,true,false,false,false,false,true,false,false] rfl rfl rfl rfl (two_of HT_.out (by kernel_rfl)) (by decide) (by decide) (fun K hK => ?_) (fun K hK => ?_)
      ·skip
       refine goes_ Try.func15 (by kernel_rfl) rfl #[.agg #[.int .i64 t255,.slice Ao36 t256.length co36],.agg #[.int .i64 t259,.slice Ao37 t260.length co37]] (by rfl) rfl rfl (by (try simp only [List.map_toArray,List.map_cons,List.map_nil]);first|done|rfl) ?_
       with_reducible refine (spec_SubA.calls k t255 _ _ t256 t259 _ _ t260 t263 t264 t267 _ ?side1 ?side2 ?side3 ?side4 A21.out).mono ?_
       (case side1 => repeat (first|exact (Kd.R_reads' HO258.out).2.2|(with_reducible refine cA ?_ _)|(with_reducible refine cN ?_ _)|(with_reducible refine cD ?_)))
       (case side2 => exact (Kd.R_reads' HO258.out).2.1)
       (case side3 => repeat (first|exact (Kd.R_reads' HO262.out).2.2|(with_reducible refine cA ?_ _)|(with_reducible refine cN ?_ _)|(with_reducible refine cD ?_)))
       (case side4 => exact (Kd.R_reads' HO262.out).2.1)
       rintro e w38 ⟨v265,rfl,ho0,hb⟩
       refine ⟨_,rfl,?_⟩
       have n0_ := mk0 (Kd.R_elder' (by exact rX HO258.out) (Kd.R_base ho0) hb)
       have n1_ := mk0 (Kd.R_elder' (by exact rX HO262.out) (Kd.R_base ho0) hb)
       have n2_ := mk0 (Kd.R_lower (Kd.R_new' (Kd.R_new' ho0 (Kd.R_lt (by exact rX HO258.out))) (Kd.R_lt (by exact rX HO262.out))) (below_size (by repeat (first|(with_reducible first|exact HB.out|apply bA|apply bN|apply bD|refine bS ?_ GE251.out|refine bS ?_ GE252.out)|exact HB.out))))
       have n3_ := mk0 (blk_below (by exact kX BK251.out) hb)
       have n4_ := mk0 (blk_below (by exact kX BK252.out) hb)
       have n5_ := mk0 (below_step (by repeat (first|(with_reducible first|exact HB.out|apply bA|apply bN|apply bD|refine bS ?_ GE251.out|refine bS ?_ GE252.out)|exact HB.out)) hb)
       clear HO258
       clear HO262
       clear BK251
       clear BK252
       clear HB
       have HO258 := n0_
       have HO262 := n1_
       have HO266 := n2_
       have BK251 := n3_
       have BK252 := n4_
       have HB := n5_
       clear n0_ n1_ n2_ n3_ n4_ n5_
       (try clear hb)
       (try clear hb2)
       (try clear hk)
       (try clear hi)
       (try clear ho0)
       refine hK.out _ _ ⟨(blk_cell BK251.out 0).trans rfl,(blk_cell BK251.out 1).trans rfl,(blk_cell BK252.out 0).trans rfl,(blk_cell BK252.out 1).trans rfl⟩ (fun hHeld => ?_)
       clear hK K
       refine norm_ (a' := ?_) ?_ ?_
       rotate_left
       ·show Act.put _ (some 32) _ = _
        simp only [Act.put,List.setIfInBounds_toArray,List.set_cons_zero,List.set_cons_succ,i64_w,i32_w]
        rfl
       refine pure_ (i := 5) (N := some 27) (v := ?_) (a' := ?_) #[true,true,true,true,true,true,false,false,false,false,false] rfl rfl (any_of HT_.out (by kernel_rfl)) (fun _ _ _ h => h) (Or.inl ⟨by rfl,?_⟩) ?_ ?_
       rotate_left
       ·intro w'
        go_simp
        with_reducible rfl
       rotate_left
       ·simp only [Act.put,List.setIfInBounds_toArray,List.set_cons_zero,List.set_cons_succ,i64_w,i32_w]
        rfl
       refine pure_ (i := 6) (N := some 33) (v := ?_) (a' := ?_) #[true,true,true,true,true,true,true,false,false,false,false] rfl rfl (any_of HT_.out (by kernel_rfl)) (fun _ _ _ h => h) (Or.inl ⟨by rfl,?_⟩) ?_ ?_
       rotate_left
       ·intro w'
        go_simp
        with_reducible rfl
       rotate_left
       ·simp only [Act.put,List.setIfInBounds_toArray,List.set_cons_zero,List.set_cons_succ,i64_w,i32_w]
        rfl
       refine pure_ (i := 7) (N := some 34) (v := ?_) (a' := ?_) #[true,true,true,true,true,true,true,true,false,false,false] rfl rfl (any_of HT_.out (by kernel_rfl)) (fun _ _ _ h => h) (Or.inl ⟨by rfl,?_⟩) ?_ ?_
       rotate_left
       ·intro w'
        go_simp
        with_reducible rfl
       rotate_left
       ·simp only [Act.put,List.setIfInBounds_toArray,List.set_cons_zero,List.set_cons_succ,i64_w,i32_w]
        rfl
       refine one_ (i := 8) (N := some 6) #[true,true,true,true,true,true,true,true,true,false,false] rfl rfl (one_of HT_.out (by kernel_rfl)) (by decide) (fun K hK => ?_)
       refine box_step ?hg (N := 6) ?hd (cs := #[.int .i64 0,.slice none 0 0]) (t := 28) ?hr ?_;(case hd => rfl);(case hg => rfl);(case hr => first|(go_simp;done)|(go_simp;rfl))
       intro gb268 hg w39 hbox hb
       have n0_ := mk0 (Kd.R_below (by exact rX HO258.out) hb)
       have n1_ := mk0 (Kd.R_below (by exact rX HO262.out) hb)
       have n2_ := mk0 (Kd.R_below (by exact rX HO266.out) hb)
       have n3_ := mk0 (blk_below (by exact kX BK251.out) hb)
       have n4_ := mk0 (blk_below (by exact kX BK252.out) hb)
       have n5_ := mk0 (below_step (by repeat (first|(with_reducible first|exact HB.out|apply bA|apply bN|apply bD|refine bS ?_ GE251.out|refine bS ?_ GE252.out)|exact HB.out)) hb)
       have n6_ := mk0 (hbox)
       have n7_ := mk0 ((by rw [hg];exact (below_size (by repeat (first|(with_reducible first|exact HB.out|apply bA|apply bN|apply bD|refine bS ?_ GE251.out|refine bS ?_ GE252.out)|exact HB.out))) : w.heap.size ≤ gb268))
       have n8_ := mk0 ((by rw [hg];exact (below_size (by repeat (first|(with_reducible first|exact HB.out|apply bA|apply bN|apply bD|refine bS ?_ GE251.out|refine bS ?_ GE252.out)|exact HB.out))) : w.heap.size ≤ gb268))
       have n9_ := mk0 ((by rw [hg];exact Nat.ne_of_lt (blk_lt (by exact kX BK251.out)) : gb251 ≠ gb268))
       have n10_ := mk0 ((by rw [hg];exact Nat.ne_of_gt (blk_lt (by exact kX BK251.out)) : gb268 ≠ gb251))
       have n11_ := mk0 ((by rw [hg];exact Nat.ne_of_lt (blk_lt (by exact kX BK252.out)) : gb252 ≠ gb268))
       have n12_ := mk0 ((by rw [hg];exact Nat.ne_of_gt (blk_lt (by exact kX BK252.out)) : gb268 ≠ gb252))
       clear HO258
       clear HO262
       clear HO266
       clear BK251
       clear BK252
       clear HB
       have HO258 := n0_
       have HO262 := n1_
       have HO266 := n2_
       have BK251 := n3_
       have BK252 := n4_
       have HB := n5_
       have BK268 := n6_
       have GW268 := n7_
       have GE268 := n8_
       have NB251_268 := n9_
       have NB268_251 := n10_
       have NB252_268 := n11_
       have NB268_252 := n12_
       clear n0_ n1_ n2_ n3_ n4_ n5_ n6_ n7_ n8_ n9_ n10_ n11_ n12_
       clear hb hbox hg
       refine hK.out _ _ ⟨(blk_cell BK251.out 0).trans rfl,(blk_cell BK251.out 1).trans rfl,(blk_cell BK252.out 0).trans rfl,(blk_cell BK252.out 1).trans rfl⟩ (fun hHeld => ?_)
       clear hK K
       refine norm_ (a' := ?_) ?_ ?_
       rotate_left
       ·show Act.put _ (some 6) _ = _
        simp only [Act.put,List.setIfInBounds_toArray,List.set_cons_zero,List.set_cons_succ,i64_w,i32_w]
        rfl
       exact norm_ (by simp only [putAll,Act.put,List.setIfInBounds_toArray,List.set_cons_zero,List.set_cons_succ]) (hCont (.slice Ao36 t256.length co36,.slice Ao37 t260.length co37,v265,gb268) _ ⟨hHeld,(by refine rX ?_;exact Kd.R_mono HO258.out (fun _ hk => ⟨hk.1.2,hk.2⟩)),(by refine rX ?_;exact Kd.R_mono HO262.out (fun _ hk => ⟨hk.1.2,hk.2⟩)),(by refine rX ?_;exact Kd.R_mono HO266.out (fun _ hk => ⟨hk.1.2,hk.2⟩)),(by exact kX BK251.out),(by exact kX BK252.out),(by exact kX BK268.out),GW268.out,GE268.out,NB251_268.out,NB268_251.out,NB252_268.out,NB268_252.out,(by repeat (first|(with_reducible first|exact HB.out|apply bA|apply bN|apply bD|refine bS ?_ GE251.out|refine bS ?_ GE252.out|refine bS ?_ GE268.out)|exact HB.out))⟩)
      ·skip
       refine box_step ?hg (N := 6) ?hd (cs := #[.int .i64 0,.slice none 0 0]) (t := 28) ?hr ?_;(case hd => rfl);(case hg => rfl);(case hr => first|(go_simp;done)|(go_simp;rfl))
       intro gb268 hg w36 hbox hb
       have n0_ := mk0 (Kd.R_below (by exact rX HO258.out) hb)
       have n1_ := mk0 (Kd.R_below (by exact rX HO262.out) hb)
       have n2_ := mk0 (blk_below (by exact kX BK251.out) hb)
       have n3_ := mk0 (blk_below (by exact kX BK252.out) hb)
       have n4_ := mk0 (below_step (by repeat (first|(with_reducible first|exact HB.out|apply bA|apply bN|apply bD|refine bS ?_ GE251.out|refine bS ?_ GE252.out)|exact HB.out)) hb)
       have n5_ := mk0 (hbox)
       have n6_ := mk0 ((by rw [hg];exact (below_size (by repeat (first|(with_reducible first|exact HB.out|apply bA|apply bN|apply bD|refine bS ?_ GE251.out|refine bS ?_ GE252.out)|exact HB.out))) : w.heap.size ≤ gb268))
       have n7_ := mk0 ((by rw [hg];exact (below_size (by repeat (first|(with_reducible first|exact HB.out|apply bA|apply bN|apply bD|refine bS ?_ GE251.out|refine bS ?_ GE252.out)|exact HB.out))) : w.heap.size ≤ gb268))
       have n8_ := mk0 ((by rw [hg];exact Nat.ne_of_lt (blk_lt (by exact kX BK251.out)) : gb251 ≠ gb268))
       have n9_ := mk0 ((by rw [hg];exact Nat.ne_of_gt (blk_lt (by exact kX BK251.out)) : gb268 ≠ gb251))
       have n10_ := mk0 ((by rw [hg];exact Nat.ne_of_lt (blk_lt (by exact kX BK252.out)) : gb252 ≠ gb268))
       have n11_ := mk0 ((by rw [hg];exact Nat.ne_of_gt (blk_lt (by exact kX BK252.out)) : gb268 ≠ gb252))
       clear HO258
       clear HO262
       clear BK251
       clear BK252
       clear HB
       have HO258 := n0_
       have HO262 := n1_
       have BK251 := n2_
       have BK252 := n3_
       have HB := n4_
       have BK268 := n5_
       have GW268 := n6_
       have GE268 := n7_
       have NB251_268 := n8_
       have NB268_251 := n9_
       have NB252_268 := n10_
       have NB268_252 := n11_
       clear n0_ n1_ n2_ n3_ n4_ n5_ n6_ n7_ n8_ n9_ n10_ n11_
       clear hb hbox hg
       obtain ⟨Ao37,co37,eo37⟩ := Kd.R_slice HO258.out
       (first|subst eo37|(injection eo37 with f1_ f2_ f3_;have f4_ := f1_.symm;have f5_ := f3_.symm;clear f1_ f2_ f3_;subst f4_;subst f5_))
       obtain ⟨Ao38,co38,eo38⟩ := Kd.R_slice HO262.out
       (first|subst eo38|(injection eo38 with f1_ f2_ f3_;have f4_ := f1_.symm;have f5_ := f3_.symm;clear f1_ f2_ f3_;subst f4_;subst f5_))
       refine hK.out _ _ ⟨(blk_cell BK251.out 0).trans rfl,(blk_cell BK251.out 1).trans rfl,(blk_cell BK252.out 0).trans rfl,(blk_cell BK252.out 1).trans rfl⟩ (fun hHeld => ?_)
       clear hK K
       refine norm_ (a' := ?_) ?_ ?_
       rotate_left
       ·show Act.put _ (some 6) _ = _
        simp only [Act.put,List.setIfInBounds_toArray,List.set_cons_zero,List.set_cons_succ,i64_w,i32_w]
        rfl
       refine one_ (i := 4) (N := some 32) #[true,true,true,true,true,false,false,false,true,false,false] rfl rfl (one_of HT_.out (by kernel_rfl)) (by decide) (fun K hK => ?_)
       refine goes_ Try.func15 (by kernel_rfl) rfl #[.agg #[.int .i64 t255,.slice Ao37 t256.length co37],.agg #[.int .i64 t259,.slice Ao38 t260.length co38]] (by rfl) rfl rfl (by (try simp only [List.map_toArray,List.map_cons,List.map_nil]);first|done|rfl) ?_
       with_reducible refine (spec_SubA.calls k t255 _ _ t256 t259 _ _ t260 t263 t264 t267 _ ?side1 ?side2 ?side3 ?side4 A21.out).mono ?_
       (case side1 => repeat (first|exact (Kd.R_reads' HO258.out).2.2|(with_reducible refine cA ?_ _)|(with_reducible refine cN ?_ _)|(with_reducible refine cD ?_)))
       (case side2 => exact (Kd.R_reads' HO258.out).2.1)
       (case side3 => repeat (first|exact (Kd.R_reads' HO262.out).2.2|(with_reducible refine cA ?_ _)|(with_reducible refine cN ?_ _)|(with_reducible refine cD ?_)))
       (case side4 => exact (Kd.R_reads' HO262.out).2.1)
       rintro e w39 ⟨v265,rfl,ho0,hb⟩
       refine ⟨_,rfl,?_⟩
       have n0_ := mk0 (Kd.R_elder' (by exact rX HO258.out) (Kd.R_base ho0) hb)
       have n1_ := mk0 (Kd.R_elder' (by exact rX HO262.out) (Kd.R_base ho0) hb)
       have n2_ := mk0 (Kd.R_lower (Kd.R_new' (Kd.R_new' ho0 (Kd.R_lt (by exact rX HO258.out))) (Kd.R_lt (by exact rX HO262.out))) (below_size (by repeat (first|(with_reducible first|exact HB.out|apply bA|apply bN|apply bD|refine bS ?_ GE251.out|refine bS ?_ GE252.out|refine bS ?_ GE268.out)|exact HB.out))))
       have n3_ := mk0 (blk_below (by exact kX BK251.out) hb)
       have n4_ := mk0 (blk_below (by exact kX BK252.out) hb)
       have n5_ := mk0 (blk_below (by exact kX BK268.out) hb)
       have n6_ := mk0 (below_step (by repeat (first|(with_reducible first|exact HB.out|apply bA|apply bN|apply bD|refine bS ?_ GE251.out|refine bS ?_ GE252.out|refine bS ?_ GE268.out)|exact HB.out)) hb)
       clear HO258
       clear HO262
       clear BK251
       clear BK252
       clear BK268
       clear HB
       have HO258 := n0_
       have HO262 := n1_
       have HO266 := n2_
       have BK251 := n3_
       have BK252 := n4_
       have BK268 := n5_
       have HB := n6_
       clear n0_ n1_ n2_ n3_ n4_ n5_ n6_
       (try clear hb)
       (try clear hb2)
       (try clear hk)
       (try clear hi)
       (try clear ho0)
       refine hK.out _ _ ⟨(blk_cell BK251.out 0).trans rfl,(blk_cell BK251.out 1).trans rfl,(blk_cell BK252.out 0).trans rfl,(blk_cell BK252.out 1).trans rfl⟩ (fun hHeld => ?_)
       clear hK K
       refine norm_ (a' := ?_) ?_ ?_
       rotate_left
       ·show Act.put _ (some 32) _ = _
        simp only [Act.put,List.setIfInBounds_toArray,List.set_cons_zero,List.set_cons_succ,i64_w,i32_w]
        rfl
       refine pure_ (i := 5) (N := some 27) (v := ?_) (a' := ?_) #[true,true,true,true,true,true,false,false,true,false,false] rfl rfl (any_of HT_.out (by kernel_rfl)) (fun _ _ _ h => h) (Or.inl ⟨by rfl,?_⟩) ?_ ?_
       rotate_left
       ·intro w'
        go_simp
        with_reducible rfl
       rotate_left
       ·simp only [Act.put,List.setIfInBounds_toArray,List.set_cons_zero,List.set_cons_succ,i64_w,i32_w]
        rfl
       refine pure_ (i := 6) (N := some 33) (v := ?_) (a' := ?_) #[true,true,true,true,true,true,true,false,true,false,false] rfl rfl (any_of HT_.out (by kernel_rfl)) (fun _ _ _ h => h) (Or.inl ⟨by rfl,?_⟩) ?_ ?_
       rotate_left
       ·intro w'
        go_simp
        with_reducible rfl
       rotate_left
       ·simp only [Act.put,List.setIfInBounds_toArray,List.set_cons_zero,List.set_cons_succ,i64_w,i32_w]
        rfl
       refine pure_ (i := 7) (N := some 34) (v := ?_) (a' := ?_) #[true,true,true,true,true,true,true,true,true,false,false] rfl rfl (any_of HT_.out (by kernel_rfl)) (fun _ _ _ h => h) (Or.inl ⟨by rfl,?_⟩) ?_ ?_
       rotate_left
       ·intro w'
        go_simp
        with_reducible rfl
       rotate_left
       ·simp only [Act.put,List.setIfInBounds_toArray,List.set_cons_zero,List.set_cons_succ,i64_w,i32_w]
        rfl
       exact norm_ (by simp only [putAll,Act.put,List.setIfInBounds_toArray,List.set_cons_zero,List.set_cons_succ]) (hCont (.slice Ao37 t256.length co37,.slice Ao38 t260.length co38,v265,gb268) _ ⟨hHeld,(by refine rX ?_;exact Kd.R_mono HO258.out (fun _ hk => ⟨hk.1.2,hk.2⟩)),(by refine rX ?_;exact Kd.R_mono HO262.out (fun _ hk => ⟨hk.1.2,hk.2⟩)),(by refine rX ?_;exact Kd.R_mono HO266.out (fun _ hk => ⟨hk.1.2,hk.2⟩)),(by exact kX BK251.out),(by exact kX BK252.out),(by exact kX BK268.out),GW268.out,GE268.out,NB251_268.out,NB268_251.out,NB252_268.out,NB268_252.out,(by repeat (first|(with_reducible first|exact HB.out|apply bA|apply bN|apply bD|refine bS ?_ GE251.out|refine bS ?_ GE252.out|refine bS ?_ GE268.out)|exact HB.out))⟩)
     ·skip
      refine box_step ?hg (N := 6) ?hd (cs := #[.int .i64 0,.slice none 0 0]) (t := 28) ?hr ?_;(case hd => rfl);(case hg => rfl);(case hr => first|(go_simp;done)|(go_simp;rfl))
      intro gb268 hg w35 hbox hb
      have n0_ := mk0 (Kd.R_below (by exact rX HO258.out) hb)
      have n1_ := mk0 (blk_below (by exact kX BK251.out) hb)
      have n2_ := mk0 (blk_below (by exact kX BK252.out) hb)
      have n3_ := mk0 (below_step (by repeat (first|(with_reducible first|exact HB.out|apply bA|apply bN|apply bD|refine bS ?_ GE251.out|refine bS ?_ GE252.out)|exact HB.out)) hb)
      have n4_ := mk0 (hbox)
      have n5_ := mk0 ((by rw [hg];exact (below_size (by repeat (first|(with_reducible first|exact HB.out|apply bA|apply bN|apply bD|refine bS ?_ GE251.out|refine bS ?_ GE252.out)|exact HB.out))) : w.heap.size ≤ gb268))
      have n6_ := mk0 ((by rw [hg];exact (below_size (by repeat (first|(with_reducible first|exact HB.out|apply bA|apply bN|apply bD|refine bS ?_ GE251.out|refine bS ?_ GE252.out)|exact HB.out))) : w.heap.size ≤ gb268))
      have n7_ := mk0 ((by rw [hg];exact Nat.ne_of_lt (blk_lt (by exact kX BK251.out)) : gb251 ≠ gb268))
      have n8_ := mk0 ((by rw [hg];exact Nat.ne_of_gt (blk_lt (by exact kX BK251.out)) : gb268 ≠ gb251))
      have n9_ := mk0 ((by rw [hg];exact Nat.ne_of_lt (blk_lt (by exact kX BK252.out)) : gb252 ≠ gb268))
      have n10_ := mk0 ((by rw [hg];exact Nat.ne_of_gt (blk_lt (by exact kX BK252.out)) : gb268 ≠ gb252))
      clear HO258
      clear BK251
      clear BK252
      clear HB
      have HO258 := n0_
      have BK251 := n1_
      have BK252 := n2_
      have HB := n3_
      have BK268 := n4_
      have GW268 := n5_
      have GE268 := n6_
      have NB251_268 := n7_
      have NB268_251 := n8_
      have NB252_268 := n9_
      have NB268_252 := n10_
      clear n0_ n1_ n2_ n3_ n4_ n5_ n6_ n7_ n8_ n9_ n10_
      clear hb hbox hg
      refine hK.out _ _ ⟨(blk_cell BK251.out 0).trans rfl,(blk_cell BK251.out 1).trans rfl,(blk_cell BK252.out 0).trans rfl,(blk_cell BK252.out 1).trans rfl⟩ (fun hHeld => ?_)
      clear hK K
      refine norm_ (a' := ?_) ?_ ?_
      rotate_left
      ·show Act.put _ (some 6) _ = _
       simp only [Act.put,List.setIfInBounds_toArray,List.set_cons_zero,List.set_cons_succ,i64_w,i32_w]
       rfl
      refine one_ (i := 3) (N := some 31) #[true,true,true,true,false,false,false,false,true,false,false] rfl rfl (one_of HT_.out (by kernel_rfl)) (by decide) (fun K hK => ?_)
      refine goes_ Try.func10 (by kernel_rfl) rfl #[.agg #[.int .i64 a1_0,.slice A1_1 l1_1.length c1_1]] (by rfl) rfl rfl (by (try simp only [List.map_toArray,List.map_cons,List.map_nil]);first|done|rfl) ?_
      with_reducible refine (laws_toAff.calls k a1_0 _ _ l1_1 t259 t260 _ ?side1 ?side2 A20.out).mono ?_
      (case side1 => repeat (first|exact (Kd.C_below HR1_1.out HB.out)|(with_reducible refine cA ?_ _)|(with_reducible refine cN ?_ _)|(with_reducible refine cD ?_)))
      (case side2 => exact HC1_1.out)
      rintro e w36 ⟨v261,rfl,ho0,hb⟩
      refine ⟨_,rfl,?_⟩
      have n0_ := mk0 (Kd.R_elder' (by exact rX HO258.out) (Kd.R_base ho0) hb)
      have n1_ := mk0 (Kd.R_lower (Kd.R_new' ho0 (Kd.R_lt (by exact rX HO258.out))) (below_size (by repeat (first|(with_reducible first|exact HB.out|apply bA|apply bN|apply bD|refine bS ?_ GE251.out|refine bS ?_ GE252.out|refine bS ?_ GE268.out)|exact HB.out))))
      have n2_ := mk0 (blk_below (by exact kX BK251.out) hb)
      have n3_ := mk0 (blk_below (by exact kX BK252.out) hb)
      have n4_ := mk0 (blk_below (by exact kX BK268.out) hb)
      have n5_ := mk0 (below_step (by repeat (first|(with_reducible first|exact HB.out|apply bA|apply bN|apply bD|refine bS ?_ GE251.out|refine bS ?_ GE252.out|refine bS ?_ GE268.out)|exact HB.out)) hb)
      clear HO258
      clear BK251
      clear BK252
      clear BK268
      clear HB
      have HO258 := n0_
      have HO262 := n1_
      have BK251 := n2_
      have BK252 := n3_
      have BK268 := n4_
      have HB := n5_
      clear n0_ n1_ n2_ n3_ n4_ n5_
      (try clear hb)
      (try clear hb2)
      (try clear hk)
      (try clear hi)
      (try clear ho0)
      obtain ⟨Ao37,co37,eo37⟩ := Kd.R_slice HO258.out
      (first|subst eo37|(injection eo37 with f1_ f2_ f3_;have f4_ := f1_.symm;have f5_ := f3_.symm;clear f1_ f2_ f3_;subst f4_;subst f5_))
      obtain ⟨Ao38,co38,eo38⟩ := Kd.R_slice HO262.out
      (first|subst eo38|(injection eo38 with f1_ f2_ f3_;have f4_ := f1_.symm;have f5_ := f3_.symm;clear f1_ f2_ f3_;subst f4_;subst f5_))
      refine hK.out _ _ ⟨(blk_cell BK251.out 0).trans rfl,(blk_cell BK251.out 1).trans rfl,(blk_cell BK252.out 0).trans rfl,(blk_cell BK252.out 1).trans rfl⟩ (fun hHeld => ?_)
      clear hK K
      refine norm_ (a' := ?_) ?_ ?_
      rotate_left
      ·show Act.put _ (some 31) _ = _
       simp only [Act.put,List.setIfInBounds_toArray,List.set_cons_zero,List.set_cons_succ,i64_w,i32_w]
       rfl
      refine one_ (i := 4) (N := some 32) #[true,true,true,true,true,false,false,false,true,false,false] rfl rfl (one_of HT_.out (by kernel_rfl)) (by decide) (fun K hK => ?_)
      refine goes_ Try.func15 (by kernel_rfl) rfl #[.agg #[.int .i64 t255,.slice Ao37 t256.length co37],.agg #[.int .i64 t259,.slice Ao38 t260.length co38]] (by rfl) rfl rfl (by (try simp only [List.map_toArray,List.map_cons,List.map_nil]);first|done|rfl) ?_
      with_reducible refine (spec_SubA.calls k t255 _ _ t256 t259 _ _ t260 t263 t264 t267 _ ?side1 ?side2 ?side3 ?side4 A21.out).mono ?_
      (case side1 => repeat (first|exact (Kd.R_reads' HO258.out).2.2|(with_reducible refine cA ?_ _)|(with_reducible refine cN ?_ _)|(with_reducible refine cD ?_)))
      (case side2 => exact (Kd.R_reads' HO258.out).2.1)
      (case side3 => repeat (first|exact (Kd.R_reads' HO262.out).2.2|(with_reducible refine cA ?_ _)|(with_reducible refine cN ?_ _)|(with_reducible refine cD ?_)))
      (case side4 => exact (Kd.R_reads' HO262.out).2.1)
      rintro e w39 ⟨v265,rfl,ho0,hb⟩
      refine ⟨_,rfl,?_⟩
      have n0_ := mk0 (Kd.R_elder' (by exact rX HO258.out) (Kd.R_base ho0) hb)
      have n1_ := mk0 (Kd.R_elder' (by exact rX HO262.out) (Kd.R_base ho0) hb)
      have n2_ := mk0 (Kd.R_lower (Kd.R_new' (Kd.R_new' ho0 (Kd.R_lt (by exact rX HO258.out))) (Kd.R_lt (by exact rX HO262.out))) (below_size (by repeat (first|(with_reducible first|exact HB.out|apply bA|apply bN|apply bD|refine bS ?_ GE251.out|refine bS ?_ GE252.out|refine bS ?_ GE268.out)|exact HB.out))))
      have n3_ := mk0 (blk_below (by exact kX BK251.out) hb)
      have n4_ := mk0 (blk_below (by exact kX BK252.out) hb)
      have n5_ := mk0 (blk_below (by exact kX BK268.out) hb)
      have n6_ := mk0 (below_step (by repeat (first|(with_reducible first|exact HB.out|apply bA|apply bN|apply bD|refine bS ?_ GE251.out|refine bS ?_ GE252.out|refine bS ?_ GE268.out)|exact HB.out)) hb)
      clear HO258
      clear HO262
      clear BK251
      clear BK252
      clear BK268
      clear HB
      have HO258 := n0_
      have HO262 := n1_
      have HO266 := n2_
      have BK251 := n3_
      have BK252 := n4_
      have BK268 := n5_
      have HB := n6_
      clear n0_ n1_ n2_ n3_ n4_ n5_ n6_
      (try clear hb)
      (try clear hb2)
      (try clear hk)
      (try clear hi)
      (try clear ho0)
      refine hK.out _ _ ⟨(blk_cell BK251.out 0).trans rfl,(blk_cell BK251.out 1).trans rfl,(blk_cell BK252.out 0).trans rfl,(blk_cell BK252.out 1).trans rfl⟩ (fun hHeld => ?_)
      clear hK K
      refine norm_ (a' := ?_) ?_ ?_
      rotate_left
      ·show Act.put _ (some 32) _ = _
       simp only [Act.put,List.setIfInBounds_toArray,List.set_cons_zero,List.set_cons_succ,i64_w,i32_w]
       rfl
      refine pure_ (i := 5) (N := some 27) (v := ?_) (a' := ?_) #[true,true,true,true,true,true,false,false,true,false,false] rfl rfl (any_of HT_.out (by kernel_rfl)) (fun _ _ _ h => h) (Or.inl ⟨by rfl,?_⟩) ?_ ?_
      rotate_left
      ·intro w'
       go_simp
       with_reducible rfl
      rotate_left
      ·simp only [Act.put,List.setIfInBounds_toArray,List.set_cons_zero,List.set_cons_succ,i64_w,i32_w]
       rfl
      refine pure_ (i := 6) (N := some 33) (v := ?_) (a' := ?_) #[true,true,true,true,true,true,true,false,true,false,false] rfl rfl (any_of HT_.out (by kernel_rfl)) (fun _ _ _ h => h) (Or.inl ⟨by rfl,?_⟩) ?_ ?_
      rotate_left
      ·intro w'
       go_simp
       with_reducible rfl
      rotate_left
      ·simp only [Act.put,List.setIfInBounds_toArray,List.set_cons_zero,List.set_cons_succ,i64_w,i32_w]
       rfl
      refine pure_ (i := 7) (N := some 34) (v := ?_) (a' := ?_) #[true,true,true,true,true,true,true,true,true,false,false] rfl rfl (any_of HT_.out (by kernel_rfl)) (fun _ _ _ h => h) (Or.inl ⟨by rfl,?_⟩) ?_ ?_
      rotate_left
      ·intro w'
       go_simp
       with_reducible rfl
      rotate_left
      ·simp only [Act.put,List.setIfInBounds_toArray,List.set_cons_zero,List.set_cons_succ,i64_w,i32_w]
       rfl
      exact norm_ (by simp only [putAll,Act.put,List.setIfInBounds_toArray,List.set_cons_zero,List.set_cons_succ]) (hCont (.slice Ao37 t256.length co37,.slice Ao38 t260.length co38,v265,gb268) _ ⟨hHeld,(by refine rX ?_;exact Kd.R_mono HO258.out (fun _ hk => ⟨hk.1.2,hk.2⟩)),(by refine rX ?_;exact Kd.R_mono HO262.out (fun _ hk => ⟨hk.1.2,hk.2⟩)),(by refine rX ?_;exact Kd.R_mono HO266.out (fun _ hk => ⟨hk.1.2,hk.2⟩)),(by exact kX BK251.out),(by exact kX BK252.out),(by exact kX BK268.out),GW268.out,GE268.out,NB251_268.out,NB268_251.out,NB252_268.out,NB268_252.out,(by repeat (first|(with_reducible first|exact HB.out|apply bA|apply bN|apply bD|refine bS ?_ GE251.out|refine bS ?_ GE252.out|refine bS ?_ GE268.out)|exact HB.out))⟩)
    ·skip
     refine box_step ?hg (N := 6) ?hd (cs := #[.int .i64 0,.slice none 0 0]) (t := 28) ?hr ?_;(case hd => rfl);(case hg => rfl);(case hr => first|(go_simp;done)|(go_simp;rfl))
     intro gb268 hg w34 hbox hb
     have n0_ := mk0 (blk_below (by exact kX BK251.out) hb)
     have n1_ := mk0 (blk_below (by exact kX BK252.out) hb)
     have n2_ := mk0 (below_step (by repeat (first|(with_reducible first|exact HB.out|apply bA|apply bN|apply bD|refine bS ?_ GE251.out|refine bS ?_ GE252.out)|exact HB.out)) hb)
     have n3_ := mk0 (hbox)
     have n4_ := mk0 ((by rw [hg];exact (below_size (by repeat (first|(with_reducible first|exact HB.out|apply bA|apply bN|apply bD|refine bS ?_ GE251.out|refine bS ?_ GE252.out)|exact HB.out))) : w.heap.size ≤ gb268))
     have n5_ := mk0 ((by rw [hg];exact (below_size (by repeat (first|(with_reducible first|exact HB.out|apply bA|apply bN|apply bD|refine bS ?_ GE251.out|refine bS ?_ GE252.out)|exact HB.out))) : w.heap.size ≤ gb268))
     have n6_ := mk0 ((by rw [hg];exact Nat.ne_of_lt (blk_lt (by exact kX BK251.out)) : gb251 ≠ gb268))
     have n7_ := mk0 ((by rw [hg];exact Nat.ne_of_gt (blk_lt (by exact kX BK251.out)) : gb268 ≠ gb251))
     have n8_ := mk0 ((by rw [hg];exact Nat.ne_of_lt (blk_lt (by exact kX BK252.out)) : gb252 ≠ gb268))
     have n9_ := mk0 ((by rw [hg];exact Nat.ne_of_gt (blk_lt (by exact kX BK252.out)) : gb268 ≠ gb252))
     clear BK251
     clear BK252
     clear HB
     have BK251 := n0_
     have BK252 := n1_
     have HB := n2_
     have BK268 := n3_
     have GW268 := n4_
     have GE268 := n5_
     have NB251_268 := n6_
     have NB268_251 := n7_
     have NB252_268 := n8_
     have NB268_252 := n9_
     clear n0_ n1_ n2_ n3_ n4_ n5_ n6_ n7_ n8_ n9_
     clear hb hbox hg
     refine hK.out _ _ ⟨(blk_cell BK251.out 0).trans rfl,(blk_cell BK251.out 1).trans rfl,(blk_cell BK252.out 0).trans rfl,(blk_cell BK252.out 1).trans rfl⟩ (fun hHeld => ?_)
     clear hK K
     refine norm_ (a' := ?_) ?_ ?_
     rotate_left
     ·show Act.put _ (some 6) _ = _
      simp only [Act.put,List.setIfInBounds_toArray,List.set_cons_zero,List.set_cons_succ,i64_w,i32_w]
      rfl
     refine one_ (i := 1) (N := some 29) #[true,true,true,false,false,false,false,false,true,false,false] rfl rfl (one_of HT_.out (by kernel_rfl)) (by decide) (fun K hK => ?_)
     refine goes_ Try.func10 (by kernel_rfl) rfl #[.agg #[.int .i64 a0_0,.slice A0_1 l0_1.length c0_1]] (by rfl) rfl rfl (by (try simp only [List.map_toArray,List.map_cons,List.map_nil]);first|done|rfl) ?_
     with_reducible refine (laws_toAff.calls k a0_0 _ _ l0_1 t255 t256 _ ?side1 ?side2 A19.out).mono ?_
     (case side1 => repeat (first|exact (Kd.C_below HR0_1.out HB.out)|(with_reducible refine cA ?_ _)|(with_reducible refine cN ?_ _)|(with_reducible refine cD ?_)))
     (case side2 => exact HC0_1.out)
     rintro e w35 ⟨v257,rfl,ho0,hb⟩
     refine ⟨_,rfl,?_⟩
     have n0_ := mk0 (Kd.R_lower ho0 (below_size (by repeat (first|(with_reducible first|exact HB.out|apply bA|apply bN|apply bD|refine bS ?_ GE251.out|refine bS ?_ GE252.out|refine bS ?_ GE268.out)|exact HB.out))))
     have n1_ := mk0 (blk_below (by exact kX BK251.out) hb)
     have n2_ := mk0 (blk_below (by exact kX BK252.out) hb)
     have n3_ := mk0 (blk_below (by exact kX BK268.out) hb)
     have n4_ := mk0 (below_step (by repeat (first|(with_reducible first|exact HB.out|apply bA|apply bN|apply bD|refine bS ?_ GE251.out|refine bS ?_ GE252.out|refine bS ?_ GE268.out)|exact HB.out)) hb)
     clear BK251
     clear BK252
     clear BK268
     clear HB
     have HO258 := n0_
     have BK251 := n1_
     have BK252 := n2_
     have BK268 := n3_
     have HB := n4_
     clear n0_ n1_ n2_ n3_ n4_
     (try clear hb)
     (try clear hb2)
     (try clear hk)
     (try clear hi)
     (try clear ho0)
     refine hK.out _ _ ⟨(blk_cell BK251.out 0).trans rfl,(blk_cell BK251.out 1).trans rfl,(blk_cell BK252.out 0).trans rfl,(blk_cell BK252.out 1).trans rfl⟩ (fun hHeld => ?_)
     clear hK K
     refine norm_ (a' := ?_) ?_ ?_
     rotate_left
     ·show Act.put _ (some 29) _ = _
      simp only [Act.put,List.setIfInBounds_toArray,List.set_cons_zero,List.set_cons_succ,i64_w,i32_w]
      rfl
     refine one_ (i := 3) (N := some 31) #[true,true,true,true,false,false,false,false,true,false,false] rfl rfl (one_of HT_.out (by kernel_rfl)) (by decide) (fun K hK => ?_)
     refine goes_ Try.func10 (by kernel_rfl) rfl #[.agg #[.int .i64 a1_0,.slice A1_1 l1_1.length c1_1]] (by rfl) rfl rfl (by (try simp only [List.map_toArray,List.map_cons,List.map_nil]);first|done|rfl) ?_
     with_reducible refine (laws_toAff.calls k a1_0 _ _ l1_1 t259 t260 _ ?side1 ?side2 A20.out).mono ?_
     (case side1 => repeat (first|exact (Kd.C_below HR1_1.out HB.out)|(with_reducible refine cA ?_ _)|(with_reducible refine cN ?_ _)|(with_reducible refine cD ?_)))
     (case side2 => exact HC1_1.out)
     rintro e w36 ⟨v261,rfl,ho0,hb⟩
     refine ⟨_,rfl,?_⟩
     have n0_ := mk0 (Kd.R_elder' (by exact rX HO258.out) (Kd.R_base ho0) hb)
     have n1_ := mk0 (Kd.R_lower (Kd.R_new' ho0 (Kd.R_lt (by exact rX HO258.out))) (below_size (by repeat (first|(with_reducible first|exact HB.out|apply bA|apply bN|apply bD|refine bS ?_ GE251.out|refine bS ?_ GE252.out|refine bS ?_ GE268.out)|exact HB.out))))
     have n2_ := mk0 (blk_below (by exact kX BK251.out) hb)
     have n3_ := mk0 (blk_below (by exact kX BK252.out) hb)
     have n4_ := mk0 (blk_below (by exact kX BK268.out) hb)
     have n5_ := mk0 (below_step (by repeat (first|(with_reducible first|exact HB.out|apply bA|apply bN|apply bD|refine bS ?_ GE251.out|refine bS ?_ GE252.out|refine bS ?_ GE268.out)|exact HB.out)) hb)
     clear HO258
     clear BK251
     clear BK252
     clear BK268
     clear HB
     have HO258 := n0_
     have HO262 := n1_
     have BK251 := n2_
     have BK252 := n3_
     have BK268 := n4_
     have HB := n5_
     clear n0_ n1_ n2_ n3_ n4_ n5_
     (try clear hb)
     (try clear hb2)
     (try clear hk)
     (try clear hi)
     (try clear ho0)
     obtain ⟨Ao37,co37,eo37⟩ := Kd.R_slice HO258.out
     (first|subst eo37|(injection eo37 with f1_ f2_ f3_;have f4_ := f1_.symm;have f5_ := f3_.symm;clear f1_ f2_ f3_;subst f4_;subst f5_))
     obtain ⟨Ao38,co38,eo38⟩ := Kd.R_slice HO262.out
     (first|subst eo38|(injection eo38 with f1_ f2_ f3_;have f4_ := f1_.symm;have f5_ := f3_.symm;clear f1_ f2_ f3_;subst f4_;subst f5_))
     refine hK.out _ _ ⟨(blk_cell BK251.out 0).trans rfl,(blk_cell BK251.out 1).trans rfl,(blk_cell BK252.out 0).trans rfl,(blk_cell BK252.out 1).trans rfl⟩ (fun hHeld => ?_)
     clear hK K
     refine norm_ (a' := ?_) ?_ ?_
     rotate_left
     ·show Act.put _ (some 31) _ = _
      simp only [Act.put,List.setIfInBounds_toArray,List.set_cons_zero,List.set_cons_succ,i64_w,i32_w]
      rfl
     refine one_ (i := 4) (N := some 32) #[true,true,true,true,true,false,false,false,true,false,false] rfl rfl (one_of HT_.out (by kernel_rfl)) (by decide) (fun K hK => ?_)
     refine goes_ Try.func15 (by kernel_rfl) rfl #[.agg #[.int .i64 t255,.slice Ao37 t256.length co37],.agg #[.int .i64 t259,.slice Ao38 t260.length co38]] (by rfl) rfl rfl (by (try simp only [List.map_toArray,List.map_cons,List.map_nil]);first|done|rfl) ?_
     with_reducible refine (spec_SubA.calls k t255 _ _ t256 t259 _ _ t260 t263 t264 t267 _ ?side1 ?side2 ?side3 ?side4 A21.out).mono ?_
     (case side1 => repeat (first|exact (Kd.R_reads' HO258.out).2.2|(with_reducible refine cA ?_ _)|(with_reducible refine cN ?_ _)|(with_reducible refine cD ?_)))
     (case side2 => exact (Kd.R_reads' HO258.out).2.1)
     (case side3 => repeat (first|exact (Kd.R_reads' HO262.out).2.2|(with_reducible refine cA ?_ _)|(with_reducible refine cN ?_ _)|(with_reducible refine cD ?_)))
     (case side4 => exact (Kd.R_reads' HO262.out).2.1)
     rintro e w39 ⟨v265,rfl,ho0,hb⟩
     refine ⟨_,rfl,?_⟩
     have n0_ := mk0 (Kd.R_elder' (by exact rX HO258.out) (Kd.R_base ho0) hb)
     have n1_ := mk0 (Kd.R_elder' (by exact rX HO262.out) (Kd.R_base ho0) hb)
     have n2_ := mk0 (Kd.R_lower (Kd.R_new' (Kd.R_new' ho0 (Kd.R_lt (by exact rX HO258.out))) (Kd.R_lt (by exact rX HO262.out))) (below_size (by repeat (first|(with_reducible first|exact HB.out|apply bA|apply bN|apply bD|refine bS ?_ GE251.out|refine bS ?_ GE252.out|refine bS ?_ GE268.out)|exact HB.out))))
     have n3_ := mk0 (blk_below (by exact kX BK251.out) hb)
     have n4_ := mk0 (blk_below (by exact kX BK252.out) hb)
     have n5_ := mk0 (blk_below (by exact kX BK268.out) hb)
     have n6_ := mk0 (below_step (by repeat (first|(with_reducible first|exact HB.out|apply bA|apply bN|apply bD|refine bS ?_ GE251.out|refine bS ?_ GE252.out|refine bS ?_ GE268.out)|exact HB.out)) hb)
     clear HO258
     clear HO262
     clear BK251
     clear BK252
     clear BK268
     clear HB
     have HO258 := n0_
     have HO262 := n1_
     have HO266 := n2_
     have BK251 := n3_
     have BK252 := n4_
     have BK268 := n5_
     have HB := n6_
     clear n0_ n1_ n2_ n3_ n4_ n5_ n6_
     (try clear hb)
     (try clear hb2)
     (try clear hk)
     (try clear hi)
     (try clear ho0)
     refine hK.out _ _ ⟨(blk_cell BK251.out 0).trans rfl,(blk_cell BK251.out 1).trans rfl,(blk_cell BK252.out 0).trans rfl,(blk_cell BK252.out 1).trans rfl⟩ (fun hHeld => ?_)
     clear hK K
     refine norm_ (a' := ?_) ?_ ?_
     rotate_left
     ·show Act.put _ (some 32) _ = _
      simp only [Act.put,List.setIfInBounds_toArray,List.set_cons_zero,List.set_cons_succ,i64_w,i32_w]
      rfl
     refine pure_ (i := 5) (N := some 27) (v := ?_) (a' := ?_) #[true,true,true,true,true,true,false,false,true,false,false] rfl rfl (any_of HT_.out (by kernel_rfl)) (fun _ _ _ h => h) (Or.inl ⟨by rfl,?_⟩) ?_ ?_
     rotate_left
     ·intro w'
      go_simp
      with_reducible rfl
     rotate_left
     ·simp only [Act.put,List.setIfInBounds_toArray,List.set_cons_zero,List.set_cons_succ,i64_w,i32_w]
      rfl
     refine pure_ (i := 6) (N := some 33) (v := ?_) (a' := ?_) #[true,true,true,true,true,true,true,false,true,false,false] rfl rfl (any_of HT_.out (by kernel_rfl)) (fun _ _ _ h => h) (Or.inl ⟨by rfl,?_⟩) ?_ ?_
     rotate_left
     ·intro w'
      go_simp
      with_reducible rfl
     rotate_left
     ·simp only [Act.put,List.setIfInBounds_toArray,List.set_cons_zero,List.set_cons_succ,i64_w,i32_w]
      rfl
     refine pure_ (i := 7) (N := some 34) (v := ?_) (a' := ?_) #[true,true,true,true,true,true,true,true,true,false,false] rfl rfl (any_of HT_.out (by kernel_rfl)) (fun _ _ _ h => h) (Or.inl ⟨by rfl,?_⟩) ?_ ?_
     rotate_left
     ·intro w'
      go_simp
      with_reducible rfl
     rotate_left
     ·simp only [Act.put,List.setIfInBounds_toArray,List.set_cons_zero,List.set_cons_succ,i64_w,i32_w]
      rfl
     exact norm_ (by simp only [putAll,Act.put,List.setIfInBounds_toArray,List.set_cons_zero,List.set_cons_succ]) (hCont (.slice Ao37 t256.length co37,.slice Ao38 t260.length co38,v265,gb268) _ ⟨hHeld,(by refine rX ?_;exact Kd.R_mono HO258.out (fun _ hk => ⟨hk.1.2,hk.2⟩)),(by refine rX ?_;exact Kd.R_mono HO262.out (fun _ hk => ⟨hk.1.2,hk.2⟩)),(by refine rX ?_;exact Kd.R_mono HO266.out (fun _ hk => ⟨hk.1.2,hk.2⟩)),(by exact kX BK251.out),(by exact kX BK252.out),(by exact kX BK268.out),GW268.out,GE268.out,NB251_268.out,NB268_251.out,NB252_268.out,NB268_252.out,(by repeat (first|(with_reducible first|exact HB.out|apply bA|apply bN|apply bD|refine bS ?_ GE251.out|refine bS ?_ GE252.out|refine bS ?_ GE268.out)|exact HB.out))⟩)
   rintro ⟨v257,v261,v265,gb268⟩ w40 ⟨hS_,h0_,h1_,h2_,h3_,h4_,h5_,h6_,h7_,h8_,h9_,h10_,h11_,h12_⟩
   have n0_ : Aside0 (Kd.R k70 70 w40 w.heap.size (fun k_ => some k_ ≠ (v261 : Value).ownBlock ∧ some k_ ≠ (v265 : Value).ownBlock) v257 t256) := ⟨h0_⟩
   have n1_ : Aside0 (Kd.R k70 70 w40 w.heap.size (fun k_ => some k_ ≠ (v257 : Value).ownBlock ∧ some k_ ≠ (v265 : Value).ownBlock) v261 t260) := ⟨h1_⟩
   have n2_ : Aside0 (Kd.R k70 70 w40 w.heap.size (fun k_ => some k_ ≠ (v257 : Value).ownBlock ∧ some k_ ≠ (v261 : Value).ownBlock) v265 t264) := ⟨h2_⟩
   have n3_ : Aside0 (w40.heap[gb251]? = some (.cells #[.int .i64 a0_0,.slice A0_1 l0_1.length c0_1] 24 (0,0))) := ⟨h3_⟩
   have n4_ : Aside0 (w40.heap[gb252]? = some (.cells #[.int .i64 a1_0,.slice A1_1 l1_1.length c1_1] 24 (0,0))) := ⟨h4_⟩
   have n5_ : Aside0 (w40.heap[gb268]? = some (.cells #[.int .i64 0,.slice none 0 0] 28 (0,0))) := ⟨h5_⟩
   have n6_ : Aside0 (w.heap.size ≤ gb268) := ⟨h6_⟩
   have n7_ : Aside0 (w.heap.size ≤ gb268) := ⟨h7_⟩
   have n8_ : Aside0 (gb251 ≠ gb268) := ⟨h8_⟩
   have n9_ : Aside0 (gb268 ≠ gb251) := ⟨h9_⟩
   have n10_ : Aside0 (gb252 ≠ gb268) := ⟨h10_⟩
   have n11_ : Aside0 (gb268 ≠ gb252) := ⟨h11_⟩
   have n12_ : Aside0 (Below w.heap.size w w40) := ⟨h12_⟩
   clear BK251
   clear BK252
   clear HB
   clear h0_ h1_ h2_ h3_ h4_ h5_ h6_ h7_ h8_ h9_ h10_ h11_ h12_
   have HO258 := n0_
   have HO262 := n1_
   have HO266 := n2_
   have BK251 := n3_
   have BK252 := n4_
   have BK268 := n5_
   have GW268 := n6_
   have GE268 := n7_
   have NB251_268 := n8_
   have NB268_251 := n9_
   have NB252_268 := n10_
   have NB268_252 := n11_
   have HB := n12_
   clear n0_ n1_ n2_ n3_ n4_ n5_ n6_ n7_ n8_ n9_ n10_ n11_ n12_
   have hHeld : w40.cell? ⟨gb251,0,none⟩ = some (.int .i64 a0_0) ∧ w40.cell? ⟨gb251,1,none⟩ = some (.slice A0_1 l0_1.length c0_1) ∧ w40.cell? ⟨gb252,0,none⟩ = some (.int .i64 a1_0) ∧ w40.cell? ⟨gb252,1,none⟩ = some (.slice A1_1 l1_1.length c1_1) := hS_
   obtain ⟨Ao42,co42,eo42⟩ := Kd.R_slice HO266.out
   (first|subst eo42|(injection eo42 with f1_ f2_ f3_;have f4_ := f1_.symm;have f5_ := f3_.symm;clear f1_ f2_ f3_;subst f4_;subst f5_))
   refine norm_ (a' := ?_) ?_ ?_
   rotate_left
   ·simp only [putAll,Act.put,List.setIfInBounds_toArray,List.set_cons_zero,List.set_cons_succ]
    rfl
   refine one_ (i := 9) (N := none) #[true,true,true,true,true,true,true,true,true,true,false] rfl rfl (one_of HT_.out (by kernel_rfl)) (by decide) (fun K hK => ?_)
   have hs41 : w40.cell? ⟨gb268,0,none⟩ = some (.int .i64 0) := (blk_cell BK268.out 0).trans rfl
   have hfs41 := blk_frozen BK268.out 0
   have hns41_0 := NB251_268.out
   have hns41_1 := NB252_268.out
   have hms41_0 := NB268_251.out
   have hms41_1 := NB268_252.out
   have hs43 : w40.cell? ⟨gb268,1,none⟩ = some (.slice none 0 0) := (blk_cell BK268.out 1).trans rfl
   have hfs43 := blk_frozen BK268.out 1
   have hns43_0 := NB251_268.out
   have hns43_1 := NB252_268.out
   have hms43_0 := NB268_251.out
   have hms43_1 := NB268_252.out
   refine skip_ (w1 := ?_) (by rfl) rfl ?_ ?_
   rotate_left
   ·go_simp
    rfl
   refine hK.out _ _ ⟨((cell_far (p := ⟨gb268,_,none⟩) NB251_268.out _).trans (((cell_far (p := ⟨gb268,_,none⟩) NB251_268.out _).trans (hHeld.1)))),((cell_far (p := ⟨gb268,_,none⟩) NB251_268.out _).trans (((cell_far (p := ⟨gb268,_,none⟩) NB251_268.out _).trans (hHeld.2.1)))),((cell_far (p := ⟨gb268,_,none⟩) NB252_268.out _).trans (((cell_far (p := ⟨gb268,_,none⟩) NB252_268.out _).trans (hHeld.2.2.1)))),((cell_far (p := ⟨gb268,_,none⟩) NB252_268.out _).trans (((cell_far (p := ⟨gb268,_,none⟩) NB252_268.out _).trans (hHeld.2.2.2))))⟩ (fun hHeld => ?_)
   clear hK K
   refine pure_ (i := 10) (N := some 7) (v := ?_) (a' := ?_) #[true,true,true,true,true,true,true,true,true,true,true] rfl rfl (any_of HT_.out (by kernel_rfl)) (fun _ _ _ h => h) (Or.inl ⟨by rfl,?_⟩) ?_ ?_
   rotate_left
   ·intro w'
    go_simp
    with_reducible rfl
   rotate_left
   ·simp only [Act.put,List.setIfInBounds_toArray,List.set_cons_zero,List.set_cons_succ,i64_w,i32_w]
    rfl
   refine done_ (done_of HT_.out (by kernel_rfl)) ?_
   have hnb44 := NB251_268.out
   have hnc44 := NB268_251.out
   have z45 := bc2 BK251.out
   go_upto_region 12 with (first|((with_reducible refine gate_callee (f := 10) rfl ?_);refine goesL_ (some 36) rfl rfl Try.func10 (by kernel_rfl) rfl #[.agg #[.int .i64 a0_0,.slice A0_1 l0_1.length c0_1]] rfl (by (try simp only [List.map_toArray,List.map_cons,List.map_nil]);first|done|rfl) ?_;(with_reducible refine (laws_toAff.calls k a0_0 _ _ l0_1 t269 t270 _ ?side1 ?side2 A22.out).mono ?_);(case side1 => exact Kd.C_below HR0_1.out (by repeat (first|(with_reducible first|exact HB.out|apply bA|apply bN|apply bD|refine bS ?_ GE251.out|refine bS ?_ GE252.out|refine bS ?_ GE268.out)|exact HB.out)));(case side2 => exact HC0_1.out);rintro e w46 ⟨v271,rfl,ho0,hb⟩;refine ⟨_,rfl,?_⟩;have q_ := qB (by repeat (first|(with_reducible first|exact HB.out|apply bA|apply bN|apply bD|refine bS ?_ GE251.out|refine bS ?_ GE252.out|refine bS ?_ GE268.out)|exact HB.out)) hb;have n0_ := mk0 (Kd.R_elder' (by exact rX (Kd.R_mono (Kd.R_far (p := ⟨gb268,1,none⟩) (Kd.R_far (p := ⟨gb268,0,none⟩) (Kd.R_types HO258.out BK268.out (by decide)) (fun _ hk => hk.2) (.int .i64 t263)) (fun _ hk => hk.2) (.slice Ao42 t264.length co42)) (fun _ h_ => h_.1))) (Kd.R_base ho0) hb);have n1_ := mk0 (Kd.R_elder' (by exact rX (Kd.R_mono (Kd.R_far (p := ⟨gb268,1,none⟩) (Kd.R_far (p := ⟨gb268,0,none⟩) (Kd.R_types HO262.out BK268.out (by decide)) (fun _ hk => hk.2) (.int .i64 t263)) (fun _ hk => hk.2) (.slice Ao42 t264.length co42)) (fun _ h_ => h_.1))) (Kd.R_base ho0) hb);have n2_ := mk0 (Kd.R_elder' (by exact rX (Kd.R_mono (Kd.R_far (p := ⟨gb268,1,none⟩) (Kd.R_far (p := ⟨gb268,0,none⟩) (Kd.R_types HO266.out BK268.out (by decide)) (fun _ hk => hk.2) (.int .i64 t263)) (fun _ hk => hk.2) (.slice Ao42 t264.length co42)) (fun _ h_ => h_.1))) (Kd.R_base ho0) hb);have n3_ := mk0 (Kd.R_lower (Kd.R_new' (Kd.R_new' (Kd.R_new' ho0 (Kd.R_lt (by exact rX (Kd.R_mono (Kd.R_far (p := ⟨gb268,1,none⟩) (Kd.R_far (p := ⟨gb268,0,none⟩) (Kd.R_types HO258.out BK268.out (by decide)) (fun _ hk => hk.2) (.int .i64 t263)) (fun _ hk => hk.2) (.slice Ao42 t264.length co42)) (fun _ h_ => h_.1))))) (Kd.R_lt (by exact rX (Kd.R_mono (Kd.R_far (p := ⟨gb268,1,none⟩) (Kd.R_far (p := ⟨gb268,0,none⟩) (Kd.R_types HO262.out BK268.out (by decide)) (fun _ hk => hk.2) (.int .i64 t263)) (fun _ hk => hk.2) (.slice Ao42 t264.length co42)) (fun _ h_ => h_.1))))) (Kd.R_lt (by exact rX (Kd.R_mono (Kd.R_far (p := ⟨gb268,1,none⟩) (Kd.R_far (p := ⟨gb268,0,none⟩) (Kd.R_types HO266.out BK268.out (by decide)) (fun _ hk => hk.2) (.int .i64 t263)) (fun _ hk => hk.2) (.slice Ao42 t264.length co42)) (fun _ h_ => h_.1))))) (below_size q_));have n4_ := mk0 (blk_below (g := gb251) (o := .cells #[.int .i64 a0_0,.slice A0_1 l0_1.length c0_1] 24 (0,0)) (by refine kX ?_;refine blk_far ?_ NB251_268.out _;refine kX ?_;refine blk_far ?_ NB251_268.out _;exact kX BK251.out) hb);have n5_ := mk0 (blk_below (g := gb252) (o := .cells #[.int .i64 a1_0,.slice A1_1 l1_1.length c1_1] 24 (0,0)) (by refine kX ?_;refine blk_far ?_ NB252_268.out _;refine kX ?_;refine blk_far ?_ NB252_268.out _;exact kX BK252.out) hb);have n6_ := mk0 (blk_below (g := gb268) (o := .cells #[.int .i64 t263,.slice Ao42 t264.length co42] 28 (0,0)) (by refine kX ?_;refine blk_put (cs := #[.int .i64 t263,.slice none 0 0]) ?_ 1 _ rfl;refine kX ?_;refine blk_put (cs := #[.int .i64 0,.slice none 0 0]) ?_ 0 _ rfl;exact kX BK268.out) hb);have n7_ := mk0 (below_step q_ hb);clear HO258;clear HO262;clear HO266;clear BK251;clear BK252;clear BK268;clear HB;have HO258 := n0_;have HO262 := n1_;have HO266 := n2_;have HO272 := n3_;have BK251 := n4_;have BK252 := n5_;have BK268 := n6_;have HB := n7_;clear q_ n0_ n1_ n2_ n3_ n4_ n5_ n6_ n7_;(try clear hb);(try clear hb2);(try clear hk);(try clear hi);(try clear ho0))|((with_reducible refine gate_dst (N := 8) rfl ?_);refine box_event ?hg (N := 8) ?hd (cs := #[.int .i64 0,.slice none 0 0]) (t := 28) ?hr ?_;(case hd => rfl);(case hg => rfl);(case hr => first|(go_simp;done)|(go_simp;rfl));intro gb273 hg w47 hbox hb;have q_ := qB (by repeat (first|(with_reducible first|exact HB.out|apply bA|apply bN|apply bD|refine bS ?_ GE251.out|refine bS ?_ GE252.out|refine bS ?_ GE268.out)|exact HB.out)) hb;have n0_ := mk0 (Kd.R_below (by exact rX HO258.out) hb);have n1_ := mk0 (Kd.R_below (by exact rX HO262.out) hb);have n2_ := mk0 (Kd.R_below (by exact rX HO266.out) hb);have n3_ := mk0 (Kd.R_below (by exact rX HO272.out) hb);have n4_ := mk0 (blk_below (by exact kX BK251.out) hb);have n5_ := mk0 (blk_below (by exact kX BK252.out) hb);have n6_ := mk0 (blk_below (by exact kX BK268.out) hb);have n7_ := mk0 (below_step q_ hb);have n8_ := mk0 (hbox);have n9_ := mk0 ((by rw [hg];exact (below_size q_) : w.heap.size ≤ gb273));have n10_ := n9_;have n11_ := mk0 ((by rw [hg];exact Nat.ne_of_lt (blk_lt (by exact kX BK251.out)) : gb251 ≠ gb273));have n12_ := mk0 ((by rw [hg];exact Nat.ne_of_gt (blk_lt (by exact kX BK251.out)) : gb273 ≠ gb251));have n13_ := mk0 ((by rw [hg];exact Nat.ne_of_lt (blk_lt (by exact kX BK252.out)) : gb252 ≠ gb273));have n14_ := mk0 ((by rw [hg];exact Nat.ne_of_gt (blk_lt (by exact kX BK252.out)) : gb273 ≠ gb252));have n15_ := mk0 ((by rw [hg];exact Nat.ne_of_lt (blk_lt (by exact kX BK268.out)) : gb268 ≠ gb273));have n16_ := mk0 ((by rw [hg];exact Nat.ne_of_gt (blk_lt (by exact kX BK268.out)) : gb273 ≠ gb268));clear HO258;clear HO262;clear HO266;clear HO272;clear BK251;clear BK252;clear BK268;clear HB;have HO258 := n0_;have HO262 := n1_;have HO266 := n2_;have HO272 := n3_;have BK251 := n4_;have BK252 := n5_;have BK268 := n6_;have HB := n7_;have BK273 := n8_;have GW273 := n9_;have GE273 := n10_;have NB251_273 := n11_;have NB273_251 := n12_;have NB252_273 := n13_;have NB273_252 := n14_;have NB268_273 := n15_;have NB273_268 := n16_;clear q_ n0_ n1_ n2_ n3_ n4_ n5_ n6_ n7_ n8_ n9_ n10_ n11_ n12_ n13_ n14_ n15_ n16_;clear hb hbox hg;have hnb48 := NB273_251.out;have hnc48 := NB251_273.out;have hnb49 := NB273_252.out;have hnc49 := NB252_273.out;have hnb50 := NB273_268.out;have hnc50 := NB268_273.out;have z51 := bc2 BK273.out;obtain ⟨Ao52,co52,eo52⟩ := Kd.R_slice HO272.out;subst eo52;have hnb53 := NB252_268.out;have hnc53 := NB268_252.out;have z54 := bc2 BK252.out)|((with_reducible refine gate_callee (f := 10) rfl ?_);refine goesL_ (some 38) rfl rfl Try.func10 (by kernel_rfl) rfl #[.agg #[.int .i64 a1_0,.slice A1_1 l1_1.length c1_1]] rfl (by (try simp only [List.map_toArray,List.map_cons,List.map_nil]);first|done|rfl) ?_;(with_reducible refine (laws_toAff.calls k a1_0 _ _ l1_1 t274 t275 _ ?side1 ?side2 A23.out).mono ?_);(case side1 => exact Kd.C_below HR1_1.out (by repeat (first|(with_reducible first|exact HB.out|apply bA|apply bN|apply bD|refine bS ?_ GE251.out|refine bS ?_ GE252.out|refine bS ?_ GE268.out|refine bS ?_ GE273.out)|exact HB.out)));(case side2 => exact HC1_1.out);rintro e w55 ⟨v276,rfl,ho0,hb⟩;refine ⟨_,rfl,?_⟩;have q_ := qB (by repeat (first|(with_reducible first|exact HB.out|apply bA|apply bN|apply bD|refine bS ?_ GE251.out|refine bS ?_ GE252.out|refine bS ?_ GE268.out|refine bS ?_ GE273.out)|exact HB.out)) hb;have n0_ := mk0 (Kd.R_elder' (by exact rX (Kd.R_mono (Kd.R_far (p := ⟨gb273,1,none⟩) (Kd.R_far (p := ⟨gb273,0,none⟩) (Kd.R_types HO258.out BK273.out (by decide)) (fun _ hk => hk.2) (.int .i64 t269)) (fun _ hk => hk.2) (.slice Ao52 t270.length co52)) (fun _ h_ => h_.1))) (Kd.R_base ho0) hb);have n1_ := mk0 (Kd.R_elder' (by exact rX (Kd.R_mono (Kd.R_far (p := ⟨gb273,1,none⟩) (Kd.R_far (p := ⟨gb273,0,none⟩) (Kd.R_types HO262.out BK273.out (by decide)) (fun _ hk => hk.2) (.int .i64 t269)) (fun _ hk => hk.2) (.slice Ao52 t270.length co52)) (fun _ h_ => h_.1))) (Kd.R_base ho0) hb);have n2_ := mk0 (Kd.R_elder' (by exact rX (Kd.R_mono (Kd.R_far (p := ⟨gb273,1,none⟩) (Kd.R_far (p := ⟨gb273,0,none⟩) (Kd.R_types HO266.out BK273.out (by decide)) (fun _ hk => hk.2) (.int .i64 t269)) (fun _ hk => hk.2) (.slice Ao52 t270.length co52)) (fun _ h_ => h_.1))) (Kd.R_base ho0) hb);have n3_ := mk0 (Kd.R_elder' (by exact rX (Kd.R_mono (Kd.R_far (p := ⟨gb273,1,none⟩) (Kd.R_far (p := ⟨gb273,0,none⟩) (Kd.R_types HO272.out BK273.out (by decide)) (fun _ hk => hk.2) (.int .i64 t269)) (fun _ hk => hk.2) (.slice Ao52 t270.length co52)) (fun _ h_ => h_.1))) (Kd.R_base ho0) hb);have n4_ := mk0 (Kd.R_lower (Kd.R_new' (Kd.R_new' (Kd.R_new' (Kd.R_new' ho0 (Kd.R_lt (by exact rX (Kd.R_mono (Kd.R_far (p := ⟨gb273,1,none⟩) (Kd.R_far (p := ⟨gb273,0,none⟩) (Kd.R_types HO258.out BK273.out (by decide)) (fun _ hk => hk.2) (.int .i64 t269)) (fun _ hk => hk.2) (.slice Ao52 t270.length co52)) (fun _ h_ => h_.1))))) (Kd.R_lt (by exact rX (Kd.R_mono (Kd.R_far (p := ⟨gb273,1,none⟩) (Kd.R_far (p := ⟨gb273,0,none⟩) (Kd.R_types HO262.out BK273.out (by decide)) (fun _ hk => hk.2) (.int .i64 t269)) (fun _ hk => hk.2) (.slice Ao52 t270.length co52)) (fun _ h_ => h_.1))))) (Kd.R_lt (by exact rX (Kd.R_mono (Kd.R_far (p := ⟨gb273,1,none⟩) (Kd.R_far (p := ⟨gb273,0,none⟩) (Kd.R_types HO266.out BK273.out (by decide)) (fun _ hk => hk.2) (.int .i64 t269)) (fun _ hk => hk.2) (.slice Ao52 t270.length co52)) (fun _ h_ => h_.1))))) (Kd.R_lt (by exact rX (Kd.R_mono (Kd.R_far (p := ⟨gb273,1,none⟩) (Kd.R_far (p := ⟨gb273,0,none⟩) (Kd.R_types HO272.out BK273.out (by decide)) (fun _ hk => hk.2) (.int .i64 t269)) (fun _ hk => hk.2) (.slice Ao52 t270.length co52)) (fun _ h_ => h_.1))))) (below_size q_));have n5_ := mk0 (blk_below (g := gb251) (o := .cells #[.int .i64 a0_0,.slice A0_1 l0_1.length c0_1] 24 (0,0)) (by refine kX ?_;refine blk_far ?_ NB251_273.out _;refine kX ?_;refine blk_far ?_ NB251_273.out _;exact kX BK251.out) hb);have n6_ := mk0 (blk_below (g := gb252) (o := .cells #[.int .i64 a1_0,.slice A1_1 l1_1.length c1_1] 24 (0,0)) (by refine kX ?_;refine blk_far ?_ NB252_273.out _;refine kX ?_;refine blk_far ?_ NB252_273.out _;exact kX BK252.out) hb);have n7_ := mk0 (blk_below (g := gb268) (o := .cells #[.int .i64 t263,.slice Ao42 t264.length co42] 28 (0,0)) (by refine kX ?_;refine blk_far ?_ NB268_273.out _;refine kX ?_;refine blk_far ?_ NB268_273.out _;exact kX BK268.out) hb);have n8_ := mk0 (blk_below (g := gb273) (o := .cells #[.int .i64 t269,.slice Ao52 t270.length co52] 28 (0,0)) (by refine kX ?_;refine blk_put (cs := #[.int .i64 t269,.slice none 0 0]) ?_ 1 _ rfl;refine kX ?_;refine blk_put (cs := #[.int .i64 0,.slice none 0 0]) ?_ 0 _ rfl;exact kX BK273.out) hb);have n9_ := mk0 (below_step q_ hb);clear HO258;clear HO262;clear HO266;clear HO272;clear BK251;clear BK252;clear BK268;clear BK273;clear HB;have HO258 := n0_;have HO262 := n1_;have HO266 := n2_;have HO272 := n3_;have HO277 := n4_;have BK251 := n5_;have BK252 := n6_;have BK268 := n7_;have BK273 := n8_;have HB := n9_;clear q_ n0_ n1_ n2_ n3_ n4_ n5_ n6_ n7_ n8_ n9_;(try clear hb);(try clear hb2);(try clear hk);(try clear hi);(try clear ho0))|((with_reducible refine gate_dst (N := 9) rfl ?_);refine box_event ?hg (N := 9) ?hd (cs := #[.int .i64 0,.slice none 0 0]) (t := 28) ?hr ?_;(case hd => rfl);(case hg => rfl);(case hr => first|(go_simp;done)|(go_simp;rfl));intro gb278 hg w56 hbox hb;have q_ := qB (by repeat (first|(with_reducible first|exact HB.out|apply bA|apply bN|apply bD|refine bS ?_ GE251.out|refine bS ?_ GE252.out|refine bS ?_ GE268.out|refine bS ?_ GE273.out)|exact HB.out)) hb;have n0_ := mk0 (Kd.R_below (by exact rX HO258.out) hb);have n1_ := mk0 (Kd.R_below (by exact rX HO262.out) hb);have n2_ := mk0 (Kd.R_below (by exact rX HO266.out) hb);have n3_ := mk0 (Kd.R_below (by exact rX HO272.out) hb);have n4_ := mk0 (Kd.R_below (by exact rX HO277.out) hb);have n5_ := mk0 (blk_below (by exact kX BK251.out) hb);have n6_ := mk0 (blk_below (by exact kX BK252.out) hb);have n7_ := mk0 (blk_below (by exact kX BK268.out) hb);have n8_ := mk0 (blk_below (by exact kX BK273.out) hb);have n9_ := mk0 (below_step q_ hb);have n10_ := mk0 (hbox);have n11_ := mk0 ((by rw [hg];exact (below_size q_) : w.heap.size ≤ gb278));have n12_ := n11_;have n13_ := mk0 ((by rw [hg];exact Nat.ne_of_lt (blk_lt (by exact kX BK251.out)) : gb251 ≠ gb278));have n14_ := mk0 ((by rw [hg];exact Nat.ne_of_gt (blk_lt (by exact kX BK251.out)) : gb278 ≠ gb251));have n15_ := mk0 ((by rw [hg];exact Nat.ne_of_lt (blk_lt (by exact kX BK252.out)) : gb252 ≠ gb278));have n16_ := mk0 ((by rw [hg];exact Nat.ne_of_gt (blk_lt (by exact kX BK252.out)) : gb278 ≠ gb252));have n17_ := mk0 ((by rw [hg];exact Nat.ne_of_lt (blk_lt (by exact kX BK268.out)) : gb268 ≠ gb278));have n18_ := mk0 ((by rw [hg];exact Nat.ne_of_gt (blk_lt (by exact kX BK268.out)) : gb278 ≠ gb268));have n19_ := mk0 ((by rw [hg];exact Nat.ne_of_lt (blk_lt (by exact kX BK273.out)) : gb273 ≠ gb278));have n20_ := mk0 ((by rw [hg];exact Nat.ne_of_gt (blk_lt (by exact kX BK273.out)) : gb278 ≠ gb273));clear HO258;clear HO262;clear HO266;clear HO272;clear HO277;clear BK251;clear BK252;clear BK268;clear BK273;clear HB;have HO258 := n0_;have HO262 := n1_;have HO266 := n2_;have HO272 := n3_;have HO277 := n4_;have BK251 := n5_;have BK252 := n6_;have BK268 := n7_;have BK273 := n8_;have HB := n9_;have BK278 := n10_;have GW278 := n11_;have GE278 := n12_;have NB251_278 := n13_;have NB278_251 := n14_;have NB252_278 := n15_;have NB278_252 := n16_;have NB268_278 := n17_;have NB278_268 := n18_;have NB273_278 := n19_;have NB278_273 := n20_;clear q_ n0_ n1_ n2_ n3_ n4_ n5_ n6_ n7_ n8_ n9_ n10_ n11_ n12_ n13_ n14_ n15_ n16_ n17_ n18_ n19_ n20_;clear hb hbox hg;have hnb57 := NB278_251.out;have hnc57 := NB251_278.out;have hnb58 := NB278_252.out;have hnc58 := NB252_278.out;have hnb59 := NB278_268.out;have hnc59 := NB268_278.out;have hnb60 := NB278_273.out;have hnc60 := NB273_278.out;have z61 := bc2 BK278.out;obtain ⟨Ao62,co62,eo62⟩ := Kd.R_slice HO277.out;subst eo62;have z63 := bc2 BK273.out)|((with_reducible refine gate_callee (f := 16) rfl ?_);refine goesL_ (some 42) rfl rfl Try.func16 (by kernel_rfl) rfl #[.agg #[.int .i64 t269,.slice Ao52 t270.length co52],.agg #[.int .i64 t274,.slice Ao62 t275.length co62]] rfl (by (try simp only [List.map_toArray,List.map_cons,List.map_nil]);first|done|rfl) ?_;(with_reducible refine (impl_SubA.calls k t269 _ _ t270 t274 _ _ t275 t279 t280 t283 _ ?side1 ?side2 ?side3 ?side4 A24.out).mono ?_);(case side1 => refine (Kd.R_reads' (e := 70) (base := w.heap.size) (ok := fun k_ => ((((True ∧ some k_ ≠ (v257 : Value).ownBlock) ∧ some k_ ≠ (v261 : Value).ownBlock) ∧ some k_ ≠ (.slice Ao42 t264.length co42 : Value).ownBlock) ∧ some k_ ≠ (.slice Ao62 t275.length co62 : Value).ownBlock)) (n := t270.length) (c := co52) ?_).2.2;exact (by exact rX (Kd.R_mono (Kd.R_far (p := ⟨gb278,1,none⟩) (Kd.R_far (p := ⟨gb278,0,none⟩) (Kd.R_types HO272.out BK278.out (by decide)) (fun _ hk => hk.2) (.int .i64 t274)) (fun _ hk => hk.2) (.slice Ao62 t275.length co62)) (fun _ h_ => h_.1))));(case side2 => exact (Kd.R_reads' HO272.out).2.1);(case side3 => refine (Kd.R_reads' (e := 70) (base := w.heap.size) (ok := fun k_ => ((((True ∧ some k_ ≠ (v257 : Value).ownBlock) ∧ some k_ ≠ (v261 : Value).ownBlock) ∧ some k_ ≠ (.slice Ao42 t264.length co42 : Value).ownBlock) ∧ some k_ ≠ (.slice Ao52 t270.length co52 : Value).ownBlock)) (n := t275.length) (c := co62) ?_).2.2;exact (by exact rX (Kd.R_mono (Kd.R_far (p := ⟨gb278,1,none⟩) (Kd.R_far (p := ⟨gb278,0,none⟩) (Kd.R_types HO277.out BK278.out (by decide)) (fun _ hk => hk.2) (.int .i64 t274)) (fun _ hk => hk.2) (.slice Ao62 t275.length co62)) (fun _ h_ => h_.1))));(case side4 => exact (Kd.R_reads' HO277.out).2.1);rintro e w64 ⟨v281,rfl,ho0,hb⟩;refine ⟨_,rfl,?_⟩;have q_ := qB (by repeat (first|(with_reducible first|exact HB.out|apply bA|apply bN|apply bD|refine bS ?_ GE251.out|refine bS ?_ GE252.out|refine bS ?_ GE268.out|refine bS ?_ GE273.out|refine bS ?_ GE278.out)|exact HB.out)) hb;have n0_ := mk0 (Kd.R_elder' (by exact rX (Kd.R_mono (Kd.R_far (p := ⟨gb278,1,none⟩) (Kd.R_far (p := ⟨gb278,0,none⟩) (Kd.R_types HO258.out BK278.out (by decide)) (fun _ hk => hk.2) (.int .i64 t274)) (fun _ hk => hk.2) (.slice Ao62 t275.length co62)) (fun _ h_ => h_.1))) (Kd.R_base ho0) hb);have n1_ := mk0 (Kd.R_elder' (by exact rX (Kd.R_mono (Kd.R_far (p := ⟨gb278,1,none⟩) (Kd.R_far (p := ⟨gb278,0,none⟩) (Kd.R_types HO262.out BK278.out (by decide)) (fun _ hk => hk.2) (.int .i64 t274)) (fun _ hk => hk.2) (.slice Ao62 t275.length co62)) (fun _ h_ => h_.1))) (Kd.R_base ho0) hb);have n2_ := mk0 (Kd.R_elder' (by exact rX (Kd.R_mono (Kd.R_far (p := ⟨gb278,1,none⟩) (Kd.R_far (p := ⟨gb278,0,none⟩) (Kd.R_types HO266.out BK278.out (by decide)) (fun _ hk => hk.2) (.int .i64 t274)) (fun _ hk => hk.2) (.slice Ao62 t275.length co62)) (fun _ h_ => h_.1))) (Kd.R_base ho0) hb);have n3_ := mk0 (Kd.R_elder' (by exact rX (Kd.R_mono (Kd.R_far (p := ⟨gb278,1,none⟩) (Kd.R_far (p := ⟨gb278,0,none⟩) (Kd.R_types HO272.out BK278.out (by decide)) (fun _ hk => hk.2) (.int .i64 t274)) (fun _ hk => hk.2) (.slice Ao62 t275.length co62)) (fun _ h_ => h_.1))) (Kd.R_base ho0) hb);have n4_ := mk0 (Kd.R_elder' (by exact rX (Kd.R_mono (Kd.R_far (p := ⟨gb278,1,none⟩) (Kd.R_far (p := ⟨gb278,0,none⟩) (Kd.R_types HO277.out BK278.out (by decide)) (fun _ hk => hk.2) (.int .i64 t274)) (fun _ hk => hk.2) (.slice Ao62 t275.length co62)) (fun _ h_ => h_.1))) (Kd.R_base ho0) hb);have n5_ := mk0 (Kd.R_lower (Kd.R_new' (Kd.R_new' (Kd.R_new' (Kd.R_new' (Kd.R_new' ho0 (Kd.R_lt (by exact rX (Kd.R_mono (Kd.R_far (p := ⟨gb278,1,none⟩) (Kd.R_far (p := ⟨gb278,0,none⟩) (Kd.R_types HO258.out BK278.out (by decide)) (fun _ hk => hk.2) (.int .i64 t274)) (fun _ hk => hk.2) (.slice Ao62 t275.length co62)) (fun _ h_ => h_.1))))) (Kd.R_lt (by exact rX (Kd.R_mono (Kd.R_far (p := ⟨gb278,1,none⟩) (Kd.R_far (p := ⟨gb278,0,none⟩) (Kd.R_types HO262.out BK278.out (by decide)) (fun _ hk => hk.2) (.int .i64 t274)) (fun _ hk => hk.2) (.slice Ao62 t275.length co62)) (fun _ h_ => h_.1))))) (Kd.R_lt (by exact rX (Kd.R_mono (Kd.R_far (p := ⟨gb278,1,none⟩) (Kd.R_far (p := ⟨gb278,0,none⟩) (Kd.R_types HO266.out BK278.out (by decide)) (fun _ hk => hk.2) (.int .i64 t274)) (fun _ hk => hk.2) (.slice Ao62 t275.length co62)) (fun _ h_ => h_.1))))) (Kd.R_lt (by exact rX (Kd.R_mono (Kd.R_far (p := ⟨gb278,1,none⟩) (Kd.R_far (p := ⟨gb278,0,none⟩) (Kd.R_types HO272.out BK278.out (by decide)) (fun _ hk => hk.2) (.int .i64 t274)) (fun _ hk => hk.2) (.slice Ao62 t275.length co62)) (fun _ h_ => h_.1))))) (Kd.R_lt (by exact rX (Kd.R_mono (Kd.R_far (p := ⟨gb278,1,none⟩) (Kd.R_far (p := ⟨gb278,0,none⟩) (Kd.R_types HO277.out BK278.out (by decide)) (fun _ hk => hk.2) (.int .i64 t274)) (fun _ hk => hk.2) (.slice Ao62 t275.length co62)) (fun _ h_ => h_.1))))) (below_size q_));have n6_ := mk0 (blk_below (g := gb251) (o := .cells #[.int .i64 a0_0,.slice A0_1 l0_1.length c0_1] 24 (0,0)) (by refine kX ?_;refine blk_far ?_ NB251_278.out _;refine kX ?_;refine blk_far ?_ NB251_278.out _;exact kX BK251.out) hb);have n7_ := mk0 (blk_below (g := gb252) (o := .cells #[.int .i64 a1_0,.slice A1_1 l1_1.length c1_1] 24 (0,0)) (by refine kX ?_;refine blk_far ?_ NB252_278.out _;refine kX ?_;refine blk_far ?_ NB252_278.out _;exact kX BK252.out) hb);have n8_ := mk0 (blk_below (g := gb268) (o := .cells #[.int .i64 t263,.slice Ao42 t264.length co42] 28 (0,0)) (by refine kX ?_;refine blk_far ?_ NB268_278.out _;refine kX ?_;refine blk_far ?_ NB268_278.out _;exact kX BK268.out) hb);have n9_ := mk0 (blk_below (g := gb273) (o := .cells #[.int .i64 t269,.slice Ao52 t270.length co52] 28 (0,0)) (by refine kX ?_;refine blk_far ?_ NB273_278.out _;refine kX ?_;refine blk_far ?_ NB273_278.out _;exact kX BK273.out) hb);have n10_ := mk0 (blk_below (g := gb278) (o := .cells #[.int .i64 t274,.slice Ao62 t275.length co62] 28 (0,0)) (by refine kX ?_;refine blk_put (cs := #[.int .i64 t274,.slice none 0 0]) ?_ 1 _ rfl;refine kX ?_;refine blk_put (cs := #[.int .i64 0,.slice none 0 0]) ?_ 0 _ rfl;exact kX BK278.out) hb);have n11_ := mk0 (below_step q_ hb);clear HO258;clear HO262;clear HO266;clear HO272;clear HO277;clear BK251;clear BK252;clear BK268;clear BK273;clear BK278;clear HB;have HO258 := n0_;have HO262 := n1_;have HO266 := n2_;have HO272 := n3_;have HO277 := n4_;have HO282 := n5_;have BK251 := n6_;have BK252 := n7_;have BK268 := n8_;have BK273 := n9_;have BK278 := n10_;have HB := n11_;clear q_ n0_ n1_ n2_ n3_ n4_ n5_ n6_ n7_ n8_ n9_ n10_ n11_;(try clear hb);(try clear hb2);(try clear hk);(try clear hi);(try clear ho0))|((with_reducible refine gate_dst (N := 10) rfl ?_);refine box_event ?hg (N := 10) ?hd (cs := #[.int .i64 0,.slice none 0 0]) (t := 28) ?hr ?_;(case hd => rfl);(case hg => rfl);(case hr => first|(go_simp;done)|(go_simp;rfl));intro gb284 hg w65 hbox hb;have q_ := qB (by repeat (first|(with_reducible first|exact HB.out|apply bA|apply bN|apply bD|refine bS ?_ GE251.out|refine bS ?_ GE252.out|refine bS ?_ GE268.out|refine bS ?_ GE273.out|refine bS ?_ GE278.out)|exact HB.out)) hb;have n0_ := mk0 (Kd.R_below (by exact rX HO258.out) hb);have n1_ := mk0 (Kd.R_below (by exact rX HO262.out) hb);have n2_ := mk0 (Kd.R_below (by exact rX HO266.out) hb);have n3_ := mk0 (Kd.R_below (by exact rX HO272.out) hb);have n4_ := mk0 (Kd.R_below (by exact rX HO277.out) hb);have n5_ := mk0 (Kd.R_below (by exact rX HO282.out) hb);have n6_ := mk0 (blk_below (by exact kX BK251.out) hb);have n7_ := mk0 (blk_below (by exact kX BK252.out) hb);have n8_ := mk0 (blk_below (by exact kX BK268.out) hb);have n9_ := mk0 (blk_below (by exact kX BK273.out) hb);have n10_ := mk0 (blk_below (by exact kX BK278.out) hb);have n11_ := mk0 (below_step q_ hb);have n12_ := mk0 (hbox);have n13_ := mk0 ((by rw [hg];exact (below_size q_) : w.heap.size ≤ gb284));have n14_ := n13_;have n15_ := mk0 ((by rw [hg];exact Nat.ne_of_lt (blk_lt (by exact kX BK251.out)) : gb251 ≠ gb284));have n16_ := mk0 ((by rw [hg];exact Nat.ne_of_gt (blk_lt (by exact kX BK251.out)) : gb284 ≠ gb251));have n17_ := mk0 ((by rw [hg];exact Nat.ne_of_lt (blk_lt (by exact kX BK252.out)) : gb252 ≠ gb284));have n18_ := mk0 ((by rw [hg];exact Nat.ne_of_gt (blk_lt (by exact kX BK252.out)) : gb284 ≠ gb252));have n19_ := mk0 ((by rw [hg];exact Nat.ne_of_lt (blk_lt (by exact kX BK268.out)) : gb268 ≠ gb284));have n20_ := mk0 ((by rw [hg];exact Nat.ne_of_gt (blk_lt (by exact kX BK268.out)) : gb284 ≠ gb268));have n21_ := mk0 ((by rw [hg];exact Nat.ne_of_lt (blk_lt (by exact kX BK273.out)) : gb273 ≠ gb284));have n22_ := mk0 ((by rw [hg];exact Nat.ne_of_gt (blk_lt (by exact kX BK273.out)) : gb284 ≠ gb273));have n23_ := mk0 ((by rw [hg];exact Nat.ne_of_lt (blk_lt (by exact kX BK278.out)) : gb278 ≠ gb284));have n24_ := mk0 ((by rw [hg];exact Nat.ne_of_gt (blk_lt (by exact kX BK278.out)) : gb284 ≠ gb278));clear HO258;clear HO262;clear HO266;clear HO272;clear HO277;clear HO282;clear BK251;clear BK252;clear BK268;clear BK273;clear BK278;clear HB;have HO258 := n0_;have HO262 := n1_;have HO266 := n2_;have HO272 := n3_;have HO277 := n4_;have HO282 := n5_;have BK251 := n6_;have BK252 := n7_;have BK268 := n8_;have BK273 := n9_;have BK278 := n10_;have HB := n11_;have BK284 := n12_;have GW284 := n13_;have GE284 := n14_;have NB251_284 := n15_;have NB284_251 := n16_;have NB252_284 := n17_;have NB284_252 := n18_;have NB268_284 := n19_;have NB284_268 := n20_;have NB273_284 := n21_;have NB284_273 := n22_;have NB278_284 := n23_;have NB284_278 := n24_;clear q_ n0_ n1_ n2_ n3_ n4_ n5_ n6_ n7_ n8_ n9_ n10_ n11_ n12_ n13_ n14_ n15_ n16_ n17_ n18_ n19_ n20_ n21_ n22_ n23_ n24_;clear hb hbox hg;have hnb66 := NB284_251.out;have hnc66 := NB251_284.out;have hnb67 := NB284_252.out;have hnc67 := NB252_284.out;have hnb68 := NB284_268.out;have hnc68 := NB268_284.out;have hnb69 := NB284_273.out;have hnc69 := NB273_284.out;have hnb70 := NB284_278.out;have hnc70 := NB278_284.out;have z71 := bc2 BK284.out;obtain ⟨Ao72,co72,eo72⟩ := Kd.R_slice HO282.out;subst eo72))
   (try simp only [Act.put,List.setIfInBounds_toArray,List.set_cons_zero,List.set_cons_succ])
   go_cut [53] (fun v53 wc => ∃ (kq : Nat) (x53_24 : Bool),v53 = .bool x53_24 ∧ Aside0 (laws_FnExactSubA.j0 kq t267 t283 x53_24 a0_0 l0_1 a1_0 l1_1 t263 t264 t269 t270 t274 t275 t279 t280 = some r) ∧ Aside0 (kq ≤ k) ∧ Aside0 (Kd.R k70 70 wc w.heap.size (fun k_ => some k_ ≠ ((.slice Ao52 t270.length co52) : Value).ownBlock ∧ some k_ ≠ ((.slice Ao62 t275.length co62) : Value).ownBlock ∧ some k_ ≠ ((.slice Ao72 t280.length co72) : Value).ownBlock) (.slice Ao42 t264.length co42) t264) ∧ Aside0 (Kd.R k70 70 wc w.heap.size (fun k_ => some k_ ≠ ((.slice Ao42 t264.length co42) : Value).ownBlock ∧ some k_ ≠ ((.slice Ao62 t275.length co62) : Value).ownBlock ∧ some k_ ≠ ((.slice Ao72 t280.length co72) : Value).ownBlock) (.slice Ao52 t270.length co52) t270) ∧ Aside0 (Kd.R k70 70 wc w.heap.size (fun k_ => some k_ ≠ ((.slice Ao42 t264.length co42) : Value).ownBlock ∧ some k_ ≠ ((.slice Ao52 t270.length co52) : Value).ownBlock ∧ some k_ ≠ ((.slice Ao72 t280.length co72) : Value).ownBlock) (.slice Ao62 t275.length co62) t275) ∧ Aside0 (Kd.R k70 70 wc w.heap.size (fun k_ => some k_ ≠ ((.slice Ao42 t264.length co42) : Value).ownBlock ∧ some k_ ≠ ((.slice Ao52 t270.length co52) : Value).ownBlock ∧ some k_ ≠ ((.slice Ao62 t275.length co62) : Value).ownBlock) (.slice Ao72 t280.length co72) t280) ∧ Aside0 (wc.heap[gb251]? = some (.cells #[.int .i64 a0_0,(.slice A0_1 l0_1.length c0_1)] 24 (0,0))) ∧ Aside0 (wc.heap[gb252]? = some (.cells #[.int .i64 a1_0,(.slice A1_1 l1_1.length c1_1)] 24 (0,0))) ∧ Aside0 (wc.heap[gb268]? = some (.cells #[.int .i64 t263,(.slice Ao42 t264.length co42)] 28 (0,0))) ∧ Aside0 (wc.heap[gb273]? = some (.cells #[.int .i64 t269,(.slice Ao52 t270.length co52)] 28 (0,0))) ∧ Aside0 (wc.heap[gb278]? = some (.cells #[.int .i64 t274,(.slice Ao62 t275.length co62)] 28 (0,0))) ∧ Aside0 (wc.heap[gb284]? = some (.cells #[.int .i64 t279,(.slice Ao72 t280.length co72)] 28 (0,0))) ∧ Aside0 (Below w.heap.size w wc))
   case first =>
    have H := HC25.out
    clear HC25
    obtain ⟨t285,A73,H⟩ := bindA H
    by_cases c74 : t285 = true
    ·subst c74
     rw [if_pos rfl] at H
     have H' := mk0 H
     clear H
     have hnb75 := NB284_251.out
     have hnc75 := NB251_284.out
     have hnb76 := NB284_252.out
     have hnc76 := NB252_284.out
     have hnb77 := NB284_268.out
     have hnc77 := NB268_284.out
     have hnb78 := NB284_273.out
     have hnc78 := NB273_284.out
     have hnb79 := NB284_278.out
     have hnc79 := NB278_284.out
     have z80 := bc2 BK284.out
     have hnb81 := NB268_251.out
     have hnc81 := NB251_268.out
     have hnb82 := NB268_252.out
     have hnc82 := NB252_268.out
     have hnb83 := NB268_273.out
     have hnc83 := NB273_268.out
     have hnb84 := NB268_278.out
     have hnc84 := NB278_268.out
     have z85 := bc2 BK268.out
     go_wp2_with (first|((with_reducible refine gate_callee (f := 12) rfl ?_);refine goesL_ (some 47) rfl rfl Try.func12 (by kernel_rfl) rfl #[.agg #[.int .i64 t279,.slice Ao72 t280.length co72],.agg #[.int .i64 t263,.slice Ao42 t264.length co42]] rfl (by (try simp only [List.map_toArray,List.map_cons,List.map_nil]);first|done|rfl) ?_;(with_reducible refine (laws_eqAff.calls k t279 _ _ t280 t263 _ _ t264 true _ ?side1 ?side2 ?side3 ?side4 A73.out).mono ?_);(case side1 => refine (Kd.R_reads' (e := 70) (base := w.heap.size) (ok := fun k_ => (((((True ∧ some k_ ≠ (v257 : Value).ownBlock) ∧ some k_ ≠ (v261 : Value).ownBlock) ∧ some k_ ≠ (.slice Ao42 t264.length co42 : Value).ownBlock) ∧ some k_ ≠ (.slice Ao52 t270.length co52 : Value).ownBlock) ∧ some k_ ≠ (.slice Ao62 t275.length co62 : Value).ownBlock)) (n := t280.length) (c := co72) ?_).2.2;exact (by exact rX (Kd.R_mono (Kd.R_far (p := ⟨gb284,1,none⟩) (Kd.R_far (p := ⟨gb284,0,none⟩) (Kd.R_types HO282.out BK284.out (by decide)) (fun _ hk => hk.2) (.int .i64 t279)) (fun _ hk => hk.2) (.slice Ao72 t280.length co72)) (fun _ h_ => h_.1))));(case side2 => exact (Kd.R_reads' HO282.out).2.1);(case side3 => refine (Kd.R_reads' (e := 70) (base := w.heap.size) (ok := fun k_ => ((((some k_ ≠ (v257 : Value).ownBlock ∧ some k_ ≠ (v261 : Value).ownBlock) ∧ some k_ ≠ (.slice Ao52 t270.length co52 : Value).ownBlock) ∧ some k_ ≠ (.slice Ao62 t275.length co62 : Value).ownBlock) ∧ some k_ ≠ (.slice Ao72 t280.length co72 : Value).ownBlock)) (n := t264.length) (c := co42) ?_).2.2;exact (by exact rX (Kd.R_mono (Kd.R_far (p := ⟨gb284,1,none⟩) (Kd.R_far (p := ⟨gb284,0,none⟩) (Kd.R_types HO266.out BK284.out (by decide)) (fun _ hk => hk.2) (.int .i64 t279)) (fun _ hk => hk.2) (.slice Ao72 t280.length co72)) (fun _ h_ => h_.1))));(case side4 => exact (Kd.R_reads' HO266.out).2.1);rintro e w86 ⟨rfl,hb⟩;refine ⟨_,rfl,?_⟩;have n0_ := mk0 (Kd.R_below (by exact rX (Kd.R_mono (Kd.R_far (p := ⟨gb284,1,none⟩) (Kd.R_far (p := ⟨gb284,0,none⟩) (Kd.R_types HO258.out BK284.out (by decide)) (fun _ hk => hk.2) (.int .i64 t279)) (fun _ hk => hk.2) (.slice Ao72 t280.length co72)) (fun _ h_ => h_.1))) hb);have n1_ := mk0 (Kd.R_below (by exact rX (Kd.R_mono (Kd.R_far (p := ⟨gb284,1,none⟩) (Kd.R_far (p := ⟨gb284,0,none⟩) (Kd.R_types HO262.out BK284.out (by decide)) (fun _ hk => hk.2) (.int .i64 t279)) (fun _ hk => hk.2) (.slice Ao72 t280.length co72)) (fun _ h_ => h_.1))) hb);have n2_ := mk0 (Kd.R_below (by exact rX (Kd.R_mono (Kd.R_far (p := ⟨gb284,1,none⟩) (Kd.R_far (p := ⟨gb284,0,none⟩) (Kd.R_types HO266.out BK284.out (by decide)) (fun _ hk => hk.2) (.int .i64 t279)) (fun _ hk => hk.2) (.slice Ao72 t280.length co72)) (fun _ h_ => h_.1))) hb);have n3_ := mk0 (Kd.R_below (by exact rX (Kd.R_mono (Kd.R_far (p := ⟨gb284,1,none⟩) (Kd.R_far (p := ⟨gb284,0,none⟩) (Kd.R_types HO272.out BK284.out (by decide)) (fun _ hk => hk.2) (.int .i64 t279)) (fun _ hk => hk.2) (.slice Ao72 t280.length co72)) (fun _ h_ => h_.1))) hb);have n4_ := mk0 (Kd.R_below (by exact rX (Kd.R_mono (Kd.R_far (p := ⟨gb284,1,none⟩) (Kd.R_far (p := ⟨gb284,0,none⟩) (Kd.R_types HO277.out BK284.out (by decide)) (fun _ hk => hk.2) (.int .i64 t279)) (fun _ hk => hk.2) (.slice Ao72 t280.length co72)) (fun _ h_ => h_.1))) hb);have n5_ := mk0 (Kd.R_below (by exact rX (Kd.R_mono (Kd.R_far (p := ⟨gb284,1,none⟩) (Kd.R_far (p := ⟨gb284,0,none⟩) (Kd.R_types HO282.out BK284.out (by decide)) (fun _ hk => hk.2) (.int .i64 t279)) (fun _ hk => hk.2) (.slice Ao72 t280.length co72)) (fun _ h_ => h_.1))) hb);have n6_ := mk0 (blk_below (g := gb251) (o := .cells #[.int .i64 a0_0,.slice A0_1 l0_1.length c0_1] 24 (0,0)) (by refine kX ?_;refine blk_far ?_ NB251_284.out _;refine kX ?_;refine blk_far ?_ NB251_284.out _;exact kX BK251.out) hb);have n7_ := mk0 (blk_below (g := gb252) (o := .cells #[.int .i64 a1_0,.slice A1_1 l1_1.length c1_1] 24 (0,0)) (by refine kX ?_;refine blk_far ?_ NB252_284.out _;refine kX ?_;refine blk_far ?_ NB252_284.out _;exact kX BK252.out) hb);have n8_ := mk0 (blk_below (g := gb268) (o := .cells #[.int .i64 t263,.slice Ao42 t264.length co42] 28 (0,0)) (by refine kX ?_;refine blk_far ?_ NB268_284.out _;refine kX ?_;refine blk_far ?_ NB268_284.out _;exact kX BK268.out) hb);have n9_ := mk0 (blk_below (g := gb273) (o := .cells #[.int .i64 t269,.slice Ao52 t270.length co52] 28 (0,0)) (by refine kX ?_;refine blk_far ?_ NB273_284.out _;refine kX ?_;refine blk_far ?_ NB273_284.out _;exact kX BK273.out) hb);have n10_ := mk0 (blk_below (g := gb278) (o := .cells #[.int .i64 t274,.slice Ao62 t275.length co62] 28 (0,0)) (by refine kX ?_;refine blk_far ?_ NB278_284.out _;refine kX ?_;refine blk_far ?_ NB278_284.out _;exact kX BK278.out) hb);have n11_ := mk0 (blk_below (g := gb284) (o := .cells #[.int .i64 t279,.slice Ao72 t280.length co72] 28 (0,0)) (by refine kX ?_;refine blk_put (cs := #[.int .i64 t279,.slice none 0 0]) ?_ 1 _ rfl;refine kX ?_;refine blk_put (cs := #[.int .i64 0,.slice none 0 0]) ?_ 0 _ rfl;exact kX BK284.out) hb);have n12_ := mk0 (below_step (by repeat (first|(with_reducible first|exact HB.out|apply bA|apply bN|apply bD|refine bS ?_ GE251.out|refine bS ?_ GE252.out|refine bS ?_ GE268.out|refine bS ?_ GE273.out|refine bS ?_ GE278.out|refine bS ?_ GE284.out)|exact HB.out)) hb);clear HO258;clear HO262;clear HO266;clear HO272;clear HO277;clear HO282;clear BK251;clear BK252;clear BK268;clear BK273;clear BK278;clear BK284;clear HB;have HO258 := n0_;have HO262 := n1_;have HO266 := n2_;have HO272 := n3_;have HO277 := n4_;have HO282 := n5_;have BK251 := n6_;have BK252 := n7_;have BK268 := n8_;have BK273 := n9_;have BK278 := n10_;have BK284 := n11_;have HB := n12_;clear n0_ n1_ n2_ n3_ n4_ n5_ n6_ n7_ n8_ n9_ n10_ n11_ n12_;(try clear hb);(try clear hb2);(try clear hk);(try clear hi)))
     go_meet
     case rel => exact ⟨_,((t283 != t267)),(by first|rfl|(simp;done)|(simp [*];done)),H',⟨by first|omega|exact Nat.le_refl _⟩,⟨by refine rX ?_;exact Kd.R_mono HO266.out (fun _ hk => ⟨hk.1.1.2,⟨hk.1.2,hk.2⟩⟩)⟩,⟨by refine rX ?_;exact Kd.R_mono HO272.out (fun _ hk => ⟨hk.1.1.2,⟨hk.1.2,hk.2⟩⟩)⟩,⟨by refine rX ?_;exact Kd.R_mono HO277.out (fun _ hk => ⟨hk.1.1.2,⟨hk.1.2,hk.2⟩⟩)⟩,⟨by refine rX ?_;exact Kd.R_mono HO282.out (fun _ hk => ⟨hk.1.1.2,⟨hk.1.2,hk.2⟩⟩)⟩,⟨by refine kX ?_;exact BK251.out⟩,⟨by refine kX ?_;exact BK252.out⟩,⟨by refine kX ?_;exact BK268.out⟩,⟨by refine kX ?_;exact BK273.out⟩,⟨by refine kX ?_;exact BK278.out⟩,⟨by refine kX ?_;exact BK284.out⟩,⟨by repeat (first|(with_reducible first|exact HB.out|apply bA|apply bN|apply bD|refine bS ?_ GE251.out|refine bS ?_ GE252.out|refine bS ?_ GE268.out|refine bS ?_ GE273.out|refine bS ?_ GE278.out|refine bS ?_ GE284.out)|exact HB.out)⟩⟩
    ·replace c74 := Bool.eq_false_iff.mpr c74
     subst c74
     rw [if_neg (show ¬ (false = true) by decide)] at H
     have H' := mk0 H
     clear H
     have hnb87 := NB284_251.out
     have hnc87 := NB251_284.out
     have hnb88 := NB284_252.out
     have hnc88 := NB252_284.out
     have hnb89 := NB284_268.out
     have hnc89 := NB268_284.out
     have hnb90 := NB284_273.out
     have hnc90 := NB273_284.out
     have hnb91 := NB284_278.out
     have hnc91 := NB278_284.out
     have z92 := bc2 BK284.out
     have hnb93 := NB268_251.out
     have hnc93 := NB251_268.out
     have hnb94 := NB268_252.out
     have hnc94 := NB252_268.out
     have hnb95 := NB268_273.out
     have hnc95 := NB273_268.out
     have hnb96 := NB268_278.out
     have hnc96 := NB278_268.out
     have z97 := bc2 BK268.out
     go_wp2_with (first|((with_reducible refine gate_callee (f := 12) rfl ?_);refine goesL_ (some 47) rfl rfl Try.func12 (by kernel_rfl) rfl #[.agg #[.int .i64 t279,.slice Ao72 t280.length co72],.agg #[.int .i64 t263,.slice Ao42 t264.length co42]] rfl (by (try simp only [List.map_toArray,List.map_cons,List.map_nil]);first|done|rfl) ?_;(with_reducible refine (laws_eqAff.calls k t279 _ _ t280 t263 _ _ t264 false _ ?side1 ?side2 ?side3 ?side4 A73.out).mono ?_);(case side1 => refine (Kd.R_reads' (e := 70) (base := w.heap.size) (ok := fun k_ => (((((True ∧ some k_ ≠ (v257 : Value).ownBlock) ∧ some k_ ≠ (v261 : Value).ownBlock) ∧ some k_ ≠ (.slice Ao42 t264.length co42 : Value).ownBlock) ∧ some k_ ≠ (.slice Ao52 t270.length co52 : Value).ownBlock) ∧ some k_ ≠ (.slice Ao62 t275.length co62 : Value).ownBlock)) (n := t280.length) (c := co72) ?_).2.2;exact (by exact rX (Kd.R_mono (Kd.R_far (p := ⟨gb284,1,none⟩) (Kd.R_far (p := ⟨gb284,0,none⟩) (Kd.R_types HO282.out BK284.out (by decide)) (fun _ hk => hk.2) (.int .i64 t279)) (fun _ hk => hk.2) (.slice Ao72 t280.length co72)) (fun _ h_ => h_.1))));(case side2 => exact (Kd.R_reads' HO282.out).2.1);(case side3 => refine (Kd.R_reads' (e := 70) (base := w.heap.size) (ok := fun k_ => ((((some k_ ≠ (v257 : Value).ownBlock ∧ some k_ ≠ (v261 : Value).ownBlock) ∧ some k_ ≠ (.slice Ao52 t270.length co52 : Value).ownBlock) ∧ some k_ ≠ (.slice Ao62 t275.length co62 : Value).ownBlock) ∧ some k_ ≠ (.slice Ao72 t280.length co72 : Value).ownBlock)) (n := t264.length) (c := co42) ?_).2.2;exact (by exact rX (Kd.R_mono (Kd.R_far (p := ⟨gb284,1,none⟩) (Kd.R_far (p := ⟨gb284,0,none⟩) (Kd.R_types HO266.out BK284.out (by decide)) (fun _ hk => hk.2) (.int .i64 t279)) (fun _ hk => hk.2) (.slice Ao72 t280.length co72)) (fun _ h_ => h_.1))));(case side4 => exact (Kd.R_reads' HO266.out).2.1);rintro e w98 ⟨rfl,hb⟩;refine ⟨_,rfl,?_⟩;have n0_ := mk0 (Kd.R_below (by exact rX (Kd.R_mono (Kd.R_far (p := ⟨gb284,1,none⟩) (Kd.R_far (p := ⟨gb284,0,none⟩) (Kd.R_types HO258.out BK284.out (by decide)) (fun _ hk => hk.2) (.int .i64 t279)) (fun _ hk => hk.2) (.slice Ao72 t280.length co72)) (fun _ h_ => h_.1))) hb);have n1_ := mk0 (Kd.R_below (by exact rX (Kd.R_mono (Kd.R_far (p := ⟨gb284,1,none⟩) (Kd.R_far (p := ⟨gb284,0,none⟩) (Kd.R_types HO262.out BK284.out (by decide)) (fun _ hk => hk.2) (.int .i64 t279)) (fun _ hk => hk.2) (.slice Ao72 t280.length co72)) (fun _ h_ => h_.1))) hb);have n2_ := mk0 (Kd.R_below (by exact rX (Kd.R_mono (Kd.R_far (p := ⟨gb284,1,none⟩) (Kd.R_far (p := ⟨gb284,0,none⟩) (Kd.R_types HO266.out BK284.out (by decide)) (fun _ hk => hk.2) (.int .i64 t279)) (fun _ hk => hk.2) (.slice Ao72 t280.length co72)) (fun _ h_ => h_.1))) hb);have n3_ := mk0 (Kd.R_below (by exact rX (Kd.R_mono (Kd.R_far (p := ⟨gb284,1,none⟩) (Kd.R_far (p := ⟨gb284,0,none⟩) (Kd.R_types HO272.out BK284.out (by decide)) (fun _ hk => hk.2) (.int .i64 t279)) (fun _ hk => hk.2) (.slice Ao72 t280.length co72)) (fun _ h_ => h_.1))) hb);have n4_ := mk0 (Kd.R_below (by exact rX (Kd.R_mono (Kd.R_far (p := ⟨gb284,1,none⟩) (Kd.R_far (p := ⟨gb284,0,none⟩) (Kd.R_types HO277.out BK284.out (by decide)) (fun _ hk => hk.2) (.int .i64 t279)) (fun _ hk => hk.2) (.slice Ao72 t280.length co72)) (fun _ h_ => h_.1))) hb);have n5_ := mk0 (Kd.R_below (by exact rX (Kd.R_mono (Kd.R_far (p := ⟨gb284,1,none⟩) (Kd.R_far (p := ⟨gb284,0,none⟩) (Kd.R_types HO282.out BK284.out (by decide)) (fun _ hk => hk.2) (.int .i64 t279)) (fun _ hk => hk.2) (.slice Ao72 t280.length co72)) (fun _ h_ => h_.1))) hb);have n6_ := mk0 (blk_below (g := gb251) (o := .cells #[.int .i64 a0_0,.slice A0_1 l0_1.length c0_1] 24 (0,0)) (by refine kX ?_;refine blk_far ?_ NB251_284.out _;refine kX ?_;refine blk_far ?_ NB251_284.out _;exact kX BK251.out) hb);have n7_ := mk0 (blk_below (g := gb252) (o := .cells #[.int .i64 a1_0,.slice A1_1 l1_1.length c1_1] 24 (0,0)) (by refine kX ?_;refine blk_far ?_ NB252_284.out _;refine kX ?_;refine blk_far ?_ NB252_284.out _;exact kX BK252.out) hb);have n8_ := mk0 (blk_below (g := gb268) (o := .cells #[.int .i64 t263,.slice Ao42 t264.length co42] 28 (0,0)) (by refine kX ?_;refine blk_far ?_ NB268_284.out _;refine kX ?_;refine blk_far ?_ NB268_284.out _;exact kX BK268.out) hb);have n9_ := mk0 (blk_below (g := gb273) (o := .cells #[.int .i64 t269,.slice Ao52 t270.length co52] 28 (0,0)) (by refine kX ?_;refine blk_far ?_ NB273_284.out _;refine kX ?_;refine blk_far ?_ NB273_284.out _;exact kX BK273.out) hb);have n10_ := mk0 (blk_below (g := gb278) (o := .cells #[.int .i64 t274,.slice Ao62 t275.length co62] 28 (0,0)) (by refine kX ?_;refine blk_far ?_ NB278_284.out _;refine kX ?_;refine blk_far ?_ NB278_284.out _;exact kX BK278.out) hb);have n11_ := mk0 (blk_below (g := gb284) (o := .cells #[.int .i64 t279,.slice Ao72 t280.length co72] 28 (0,0)) (by refine kX ?_;refine blk_put (cs := #[.int .i64 t279,.slice none 0 0]) ?_ 1 _ rfl;refine kX ?_;refine blk_put (cs := #[.int .i64 0,.slice none 0 0]) ?_ 0 _ rfl;exact kX BK284.out) hb);have n12_ := mk0 (below_step (by repeat (first|(with_reducible first|exact HB.out|apply bA|apply bN|apply bD|refine bS ?_ GE251.out|refine bS ?_ GE252.out|refine bS ?_ GE268.out|refine bS ?_ GE273.out|refine bS ?_ GE278.out|refine bS ?_ GE284.out)|exact HB.out)) hb);clear HO258;clear HO262;clear HO266;clear HO272;clear HO277;clear HO282;clear BK251;clear BK252;clear BK268;clear BK273;clear BK278;clear BK284;clear HB;have HO258 := n0_;have HO262 := n1_;have HO266 := n2_;have HO272 := n3_;have HO277 := n4_;have HO282 := n5_;have BK251 := n6_;have BK252 := n7_;have BK268 := n8_;have BK273 := n9_;have BK278 := n10_;have BK284 := n11_;have HB := n12_;clear n0_ n1_ n2_ n3_ n4_ n5_ n6_ n7_ n8_ n9_ n10_ n11_ n12_;(try clear hb);(try clear hb2);(try clear hk);(try clear hi)))
     go_meet
     case rel => exact ⟨_,(true),(by first|rfl|(simp;done)|(simp [*];done)),H',⟨by first|omega|exact Nat.le_refl _⟩,⟨by refine rX ?_;exact Kd.R_mono HO266.out (fun _ hk => ⟨hk.1.1.2,⟨hk.1.2,hk.2⟩⟩)⟩,⟨by refine rX ?_;exact Kd.R_mono HO272.out (fun _ hk => ⟨hk.1.1.2,⟨hk.1.2,hk.2⟩⟩)⟩,⟨by refine rX ?_;exact Kd.R_mono HO277.out (fun _ hk => ⟨hk.1.1.2,⟨hk.1.2,hk.2⟩⟩)⟩,⟨by refine rX ?_;exact Kd.R_mono HO282.out (fun _ hk => ⟨hk.1.1.2,⟨hk.1.2,hk.2⟩⟩)⟩,⟨by refine kX ?_;exact BK251.out⟩,⟨by refine kX ?_;exact BK252.out⟩,⟨by refine kX ?_;exact BK268.out⟩,⟨by refine kX ?_;exact BK273.out⟩,⟨by refine kX ?_;exact BK278.out⟩,⟨by refine kX ?_;exact BK284.out⟩,⟨by repeat (first|(with_reducible first|exact HB.out|apply bA|apply bN|apply bD|refine bS ?_ GE251.out|refine bS ?_ GE252.out|refine bS ?_ GE268.out|refine bS ?_ GE273.out|refine bS ?_ GE278.out|refine bS ?_ GE284.out)|exact HB.out)⟩⟩
   case rest =>
    clear HC25
    try clear c1
    try clear p2
    try clear c4
    try clear c5
    try clear c6
    try clear c7
    try clear c8
    try clear c9
    try clear c10
    try clear c12
    try clear c15
    try clear c16
    try clear c44
    try clear c48
    try clear c49
    try clear c50
    try clear c53
    try clear c57
    try clear c58
    try clear c59
    try clear c60
    try clear c66
    try clear c67
    try clear c68
    try clear c69
    try clear c70
    try clear c74
    try clear c75
    try clear c76
    try clear c77
    try clear c78
    try clear c79
    try clear c81
    try clear c82
    try clear c83
    try clear c84
    try clear c87
    try clear c88
    try clear c89
    try clear c90
    try clear c91
    try clear c93
    try clear c94
    try clear c95
    try clear c96
    try clear z45
    try clear z51
    try clear z54
    try clear z61
    try clear z63
    try clear z71
    try clear z80
    try clear z85
    try clear z92
    try clear z97
    try clear z45
    try clear z51
    try clear z54
    try clear z61
    try clear z63
    try clear z71
    try clear z80
    try clear z85
    try clear z92
    try clear z97
    obtain ⟨kq,x53_24,rfl,HA,HJ24,HO_269001,HO_274001,HO_279001,HO_285001,BK251,BK252,BK268,BK273,BK278,BK284,HB⟩ := hcut
    cases kq with
       |zero => exact absurd HA.out (by simp [laws_FnExactSubA.j0])
       |succ kj24 =>
     have H := HA.out
     clear HA
     simp only [laws_FnExactSubA.j0] at H
     by_cases c99 : x53_24 = true
     ·subst c99
      rw [if_pos rfl] at H
      exact absurd H (by simp)
     ·replace c99 := Bool.eq_false_iff.mpr c99
      subst c99
      rw [if_neg (show ¬ (false = true) by decide)] at H
      replace H := Option.bind_eq_some_iff.mp H
      obtain ⟨⟨t286,t287⟩,A1000,H⟩ := H
      replace H : ((laws_eqAff.f kj24 t269 t270 t286 t287).bind fun t290 => (if t290 = true then ((laws_toAff.f kj24 a1_0 l1_1).bind fun bt291 => ((laws_eqAff.f kj24 t274 t275 bt291.1 bt291.2).bind fun t295 => (if t295 = true then ((laws_markAff.f kj24 t269 t270 1).bind fun bt296 => ((laws_markAff.f kj24 t274 t275 bt296.1).bind fun bt298 => (if bt298.1 < 0 then (laws_FnExactSubA.j1 kj24 t267 true a0_0 l0_1 a1_0 l1_1 t263 t264 t279 t280) else ((laws_eqAff.f kj24 t279 t280 t263 t264).bind fun t300 => (if t300 = true then (laws_FnExactSubA.j1 kj24 t267 (t283 != t267) a0_0 l0_1 a1_0 l1_1 t263 t264 t279 t280) else (laws_FnExactSubA.j1 kj24 t267 true a0_0 l0_1 a1_0 l1_1 t263 t264 t279 t280)))))) else (none)))) else (none))) = some r := H
      have A100 := mk0 A1000
      clear A1000
      obtain ⟨t290,A101,H⟩ := bindA H
      by_cases c102 : t290 = true
      ·subst c102
       rw [if_pos rfl] at H
       replace H := Option.bind_eq_some_iff.mp H
       obtain ⟨⟨t291,t292⟩,A1030,H⟩ := H
       replace H : ((laws_eqAff.f kj24 t274 t275 t291 t292).bind fun t295 => (if t295 = true then ((laws_markAff.f kj24 t269 t270 1).bind fun bt296 => ((laws_markAff.f kj24 t274 t275 bt296.1).bind fun bt298 => (if bt298.1 < 0 then (laws_FnExactSubA.j1 kj24 t267 true a0_0 l0_1 a1_0 l1_1 t263 t264 t279 t280) else ((laws_eqAff.f kj24 t279 t280 t263 t264).bind fun t300 => (if t300 = true then (laws_FnExactSubA.j1 kj24 t267 (t283 != t267) a0_0 l0_1 a1_0 l1_1 t263 t264 t279 t280) else (laws_FnExactSubA.j1 kj24 t267 true a0_0 l0_1 a1_0 l1_1 t263 t264 t279 t280)))))) else (none))) = some r := H
       have A103 := mk0 A1030
       clear A1030
       obtain ⟨t295,A104,H⟩ := bindA H
       by_cases c105 : t295 = true
       ·subst c105
        rw [if_pos rfl] at H
        replace H := Option.bind_eq_some_iff.mp H
        obtain ⟨⟨t296,t297⟩,A1060,H⟩ := H
        replace H : ((laws_markAff.f kj24 t274 t275 t296).bind fun bt298 => (if bt298.1 < 0 then (laws_FnExactSubA.j1 kj24 t267 true a0_0 l0_1 a1_0 l1_1 t263 t264 t279 t280) else ((laws_eqAff.f kj24 t279 t280 t263 t264).bind fun t300 => (if t300 = true then (laws_FnExactSubA.j1 kj24 t267 (t283 != t267) a0_0 l0_1 a1_0 l1_1 t263 t264 t279 t280) else (laws_FnExactSubA.j1 kj24 t267 true a0_0 l0_1 a1_0 l1_1 t263 t264 t279 t280))))) = some r := H
        have A106 := mk0 A1060
        clear A1060
        replace H := Option.bind_eq_some_iff.mp H
        obtain ⟨⟨t298,t299⟩,A1070,H⟩ := H
        replace H : (if t298 < 0 then (laws_FnExactSubA.j1 kj24 t267 true a0_0 l0_1 a1_0 l1_1 t263 t264 t279 t280) else ((laws_eqAff.f kj24 t279 t280 t263 t264).bind fun t300 => (if t300 = true then (laws_FnExactSubA.j1 kj24 t267 (t283 != t267) a0_0 l0_1 a1_0 l1_1 t263 t264 t279 t280) else (laws_FnExactSubA.j1 kj24 t267 true a0_0 l0_1 a1_0 l1_1 t263 t264 t279 t280)))) = some r := H
        have A107 := mk0 A1070
        clear A1070
        have HC108 := mk0 H
        clear H
        try go_wp2
        have n0_ := mk0 (Kd.R_drew HO_269001.out)
        have n1_ := mk0 (Kd.R_drew HO_274001.out)
        have n2_ := mk0 (Kd.R_drew HO_279001.out)
        have n3_ := mk0 (Kd.R_drew HO_285001.out)
        have n4_ := mk0 (kD BK251.out)
        have n5_ := mk0 (kD BK252.out)
        have n6_ := mk0 (kD BK268.out)
        have n7_ := mk0 (kD BK273.out)
        have n8_ := mk0 (kD BK278.out)
        have n9_ := mk0 (kD BK284.out)
        have n10_ := mk0 (bD HB.out)
        clear HO_269001
        clear HO_274001
        clear HO_279001
        clear HO_285001
        clear BK251
        clear BK252
        clear BK268
        clear BK273
        clear BK278
        clear BK284
        clear HB
        have HO_269001 := n0_
        have HO_274001 := n1_
        have HO_279001 := n2_
        have HO_285001 := n3_
        have BK251 := n4_
        have BK252 := n5_
        have BK268 := n6_
        have BK273 := n7_
        have BK278 := n8_
        have BK284 := n9_
        have HB := n10_
        clear n0_ n1_ n2_ n3_ n4_ n5_ n6_ n7_ n8_ n9_ n10_
        refine start_ (n := 5) (S := fun w' => w'.cell? ⟨gb273,0,none⟩ = some (.int .i64 t269) ∧ w'.cell? ⟨gb273,1,none⟩ = some (.slice Ao52 t270.length co52) ∧ w'.cell? ⟨gb251,0,none⟩ = some (.int .i64 a0_0) ∧ w'.cell? ⟨gb251,1,none⟩ = some (.slice A0_1 l0_1.length c0_1)) (ds := []) #[false,false,false,false,false] (by kernel_rfl) rfl rfl ⟨(blk_cell BK273.out 0).trans rfl,(blk_cell BK273.out 1).trans rfl,(blk_cell BK251.out 0).trans rfl,(blk_cell BK251.out 1).trans rfl⟩ (fun hHeld => ?_)
        generalize wc.drew = w109 at HO_269001 HO_274001 HO_279001 HO_285001 BK251 BK252 BK268 BK273 BK278 BK284 HB hHeld ⊢
        refine take_ (i := 0) (N := some 54) (v := ?_) (a' := ?_) #[true,false,false,false,false] rfl rfl (by kernel_rfl) (fun _ _ _ h => h) (Or.inl ⟨by rfl,?_⟩) hHeld ?_ ?_
        rotate_left
        ·rintro w' ⟨s0,s1,s2,s3⟩
         go_simp
         with_reducible rfl
        rotate_left
        ·simp only [Act.put,List.setIfInBounds_toArray,List.set_cons_zero,List.set_cons_succ,i64_w,i32_w]
         rfl
        refine take_ (i := 1) (N := some 55) (v := ?_) (a' := ?_) #[true,true,false,false,false] rfl rfl (by kernel_rfl) (fun _ _ _ h => h) (Or.inl ⟨by rfl,?_⟩) hHeld ?_ ?_
        rotate_left
        ·rintro w' ⟨s0,s1,s2,s3⟩
         go_simp
         with_reducible rfl
        rotate_left
        ·simp only [Act.put,List.setIfInBounds_toArray,List.set_cons_zero,List.set_cons_succ,i64_w,i32_w]
         rfl
        refine one_ (i := 2) (N := some 56) #[true,true,true,false,false] rfl rfl (by kernel_rfl) (by decide) (fun K hK => ?_)
        refine goes_ Try.func10 (by kernel_rfl) rfl #[.agg #[.int .i64 a0_0,.slice A0_1 l0_1.length c0_1]] (by rfl) rfl rfl (by (try simp only [List.map_toArray,List.map_cons,List.map_nil]);first|done|rfl) ?_
        with_reducible refine (laws_toAff.calls kj24 a0_0 _ _ l0_1 t286 t287 _ ?side1 ?side2 A100.out).mono ?_
        (case side1 => repeat (first|exact (Kd.C_below HR0_1.out HB.out)|(with_reducible refine cA ?_ _)|(with_reducible refine cN ?_ _)|(with_reducible refine cD ?_)))
        (case side2 => exact HC0_1.out)
        rintro e w110 ⟨v288,rfl,ho0,hb⟩
        refine ⟨_,rfl,?_⟩
        have n0_ := mk0 (Kd.R_elder' (by exact rX HO_269001.out) (Kd.R_base ho0) hb)
        have n1_ := mk0 (Kd.R_elder' (by exact rX HO_274001.out) (Kd.R_base ho0) hb)
        have n2_ := mk0 (Kd.R_elder' (by exact rX HO_279001.out) (Kd.R_base ho0) hb)
        have n3_ := mk0 (Kd.R_elder' (by exact rX HO_285001.out) (Kd.R_base ho0) hb)
        have n4_ := mk0 (Kd.R_lower (Kd.R_new' (Kd.R_new' (Kd.R_new' (Kd.R_new' ho0 (Kd.R_lt (by exact rX HO_269001.out))) (Kd.R_lt (by exact rX HO_274001.out))) (Kd.R_lt (by exact rX HO_279001.out))) (Kd.R_lt (by exact rX HO_285001.out))) (below_size (by repeat (first|(with_reducible first|exact HB.out|apply bA|apply bN|apply bD|refine bS ?_ GE251.out|refine bS ?_ GE252.out|refine bS ?_ GE268.out|refine bS ?_ GE273.out|refine bS ?_ GE278.out|refine bS ?_ GE284.out)|exact HB.out))))
        have n5_ := mk0 (blk_below (by exact kX BK251.out) hb)
        have n6_ := mk0 (blk_below (by exact kX BK252.out) hb)
        have n7_ := mk0 (blk_below (by exact kX BK268.out) hb)
        have n8_ := mk0 (blk_below (by exact kX BK273.out) hb)
        have n9_ := mk0 (blk_below (by exact kX BK278.out) hb)
        have n10_ := mk0 (blk_below (by exact kX BK284.out) hb)
        have n11_ := mk0 (below_step (by repeat (first|(with_reducible first|exact HB.out|apply bA|apply bN|apply bD|refine bS ?_ GE251.out|refine bS ?_ GE252.out|refine bS ?_ GE268.out|refine bS ?_ GE273.out|refine bS ?_ GE278.out|refine bS ?_ GE284.out)|exact HB.out)) hb)
        clear HO_269001
        clear HO_274001
        clear HO_279001
        clear HO_285001
        clear BK251
        clear BK252
        clear BK268
        clear BK273
        clear BK278
        clear BK284
        clear HB
        have HO_269001 := n0_
        have HO_274001 := n1_
        have HO_279001 := n2_
        have HO_285001 := n3_
        have HO289 := n4_
        have BK251 := n5_
        have BK252 := n6_
        have BK268 := n7_
        have BK273 := n8_
        have BK278 := n9_
        have BK284 := n10_
        have HB := n11_
        clear n0_ n1_ n2_ n3_ n4_ n5_ n6_ n7_ n8_ n9_ n10_ n11_
        (try clear hb)
        (try clear hb2)
        (try clear hk)
        (try clear hi)
        (try clear ho0)
        obtain ⟨Ao111,co111,eo111⟩ := Kd.R_slice HO289.out
        (first|subst eo111|(injection eo111 with f1_ f2_ f3_;have f4_ := f1_.symm;have f5_ := f3_.symm;clear f1_ f2_ f3_;subst f4_;subst f5_))
        refine hK.out _ _ ⟨(blk_cell BK273.out 0).trans rfl,(blk_cell BK273.out 1).trans rfl,(blk_cell BK251.out 0).trans rfl,(blk_cell BK251.out 1).trans rfl⟩ (fun hHeld => ?_)
        clear hK K
        refine norm_ (a' := ?_) ?_ ?_
        rotate_left
        ·show Act.put _ (some 56) _ = _
         simp only [Act.put,List.setIfInBounds_toArray,List.set_cons_zero,List.set_cons_succ,i64_w,i32_w]
         rfl
        refine one_ (i := 3) (N := some 57) #[true,true,true,true,false] rfl rfl (by kernel_rfl) (by decide) (fun K hK => ?_)
        refine goes_ Try.func12 (by kernel_rfl) rfl #[.agg #[.int .i64 t269,.slice Ao52 t270.length co52],.agg #[.int .i64 t286,.slice Ao111 t287.length co111]] (by rfl) rfl rfl (by (try simp only [List.map_toArray,List.map_cons,List.map_nil]);first|done|rfl) ?_
        with_reducible refine (laws_eqAff.calls kj24 t269 _ _ t270 t286 _ _ t287 true _ ?side1 ?side2 ?side3 ?side4 A101.out).mono ?_
        (case side1 => repeat (first|exact (Kd.R_reads' HO_274001.out).2.2|(with_reducible refine cA ?_ _)|(with_reducible refine cN ?_ _)|(with_reducible refine cD ?_)))
        (case side2 => exact (Kd.R_reads' HO_274001.out).2.1)
        (case side3 => repeat (first|exact (Kd.R_reads' HO289.out).2.2|(with_reducible refine cA ?_ _)|(with_reducible refine cN ?_ _)|(with_reducible refine cD ?_)))
        (case side4 => exact (Kd.R_reads' HO289.out).2.1)
        rintro e w112 ⟨rfl,hb⟩
        refine ⟨_,rfl,?_⟩
        have n0_ := mk0 (Kd.R_below (by exact rX HO_269001.out) hb)
        have n1_ := mk0 (Kd.R_below (by exact rX HO_274001.out) hb)
        have n2_ := mk0 (Kd.R_below (by exact rX HO_279001.out) hb)
        have n3_ := mk0 (Kd.R_below (by exact rX HO_285001.out) hb)
        have n4_ := mk0 (Kd.R_below (by exact rX HO289.out) hb)
        have n5_ := mk0 (blk_below (by exact kX BK251.out) hb)
        have n6_ := mk0 (blk_below (by exact kX BK252.out) hb)
        have n7_ := mk0 (blk_below (by exact kX BK268.out) hb)
        have n8_ := mk0 (blk_below (by exact kX BK273.out) hb)
        have n9_ := mk0 (blk_below (by exact kX BK278.out) hb)
        have n10_ := mk0 (blk_below (by exact kX BK284.out) hb)
        have n11_ := mk0 (below_step (by repeat (first|(with_reducible first|exact HB.out|apply bA|apply bN|apply bD|refine bS ?_ GE251.out|refine bS ?_ GE252.out|refine bS ?_ GE268.out|refine bS ?_ GE273.out|refine bS ?_ GE278.out|refine bS ?_ GE284.out)|exact HB.out)) hb)
        clear HO_269001
        clear HO_274001
        clear HO_279001
        clear HO_285001
        clear HO289
        clear BK251
        clear BK252
        clear BK268
        clear BK273
        clear BK278
        clear BK284
        clear HB
        have HO_269001 := n0_
        have HO_274001 := n1_
        have HO_279001 := n2_
        have HO_285001 := n3_
        have HO289 := n4_
        have BK251 := n5_
        have BK252 := n6_
        have BK268 := n7_
        have BK273 := n8_
        have BK278 := n9_
        have BK284 := n10_
        have HB := n11_
        clear n0_ n1_ n2_ n3_ n4_ n5_ n6_ n7_ n8_ n9_ n10_ n11_
        (try clear hb)
        (try clear hb2)
        (try clear hk)
        (try clear hi)
        refine hK.out _ _ ⟨(blk_cell BK273.out 0).trans rfl,(blk_cell BK273.out 1).trans rfl,(blk_cell BK251.out 0).trans rfl,(blk_cell BK251.out 1).trans rfl⟩ (fun hHeld => ?_)
        clear hK K
        refine norm_ (a' := ?_) ?_ ?_
        rotate_left
        ·show Act.put _ (some 57) _ = _
         simp only [Act.put,List.setIfInBounds_toArray,List.set_cons_zero,List.set_cons_succ,i64_w,i32_w]
         rfl
        refine pure_ (i := 4) (N := some 58) (v := ?_) (a' := ?_) #[true,true,true,true,true] rfl rfl (by kernel_rfl) (fun _ _ _ h => h) (Or.inl ⟨by rfl,?_⟩) ?_ ?_
        rotate_left
        ·intro w'
         go_simp
         with_reducible rfl
        rotate_left
        ·simp only [Act.put,List.setIfInBounds_toArray,List.set_cons_zero,List.set_cons_succ,i64_w,i32_w]
         rfl
        refine done_ (by kernel_rfl) ?_
        try go_wp2
        have n0_ := mk0 (Kd.R_drew HO_269001.out)
        have n1_ := mk0 (Kd.R_drew HO_274001.out)
        have n2_ := mk0 (Kd.R_drew HO_279001.out)
        have n3_ := mk0 (Kd.R_drew HO_285001.out)
        have n4_ := mk0 (Kd.R_drew HO289.out)
        have n5_ := mk0 (kD BK251.out)
        have n6_ := mk0 (kD BK252.out)
        have n7_ := mk0 (kD BK268.out)
        have n8_ := mk0 (kD BK273.out)
        have n9_ := mk0 (kD BK278.out)
        have n10_ := mk0 (kD BK284.out)
        have n11_ := mk0 (bD HB.out)
        clear HO_269001
        clear HO_274001
        clear HO_279001
        clear HO_285001
        clear HO289
        clear BK251
        clear BK252
        clear BK268
        clear BK273
        clear BK278
        clear BK284
        clear HB
        have HO_269001 := n0_
        have HO_274001 := n1_
        have HO_279001 := n2_
        have HO_285001 := n3_
        have HO289 := n4_
        have BK251 := n5_
        have BK252 := n6_
        have BK268 := n7_
        have BK273 := n8_
        have BK278 := n9_
        have BK284 := n10_
        have HB := n11_
        clear n0_ n1_ n2_ n3_ n4_ n5_ n6_ n7_ n8_ n9_ n10_ n11_
        refine start_ (n := 5) (S := fun w' => w'.cell? ⟨gb278,0,none⟩ = some (.int .i64 t274) ∧ w'.cell? ⟨gb278,1,none⟩ = some (.slice Ao62 t275.length co62) ∧ w'.cell? ⟨gb252,0,none⟩ = some (.int .i64 a1_0) ∧ w'.cell? ⟨gb252,1,none⟩ = some (.slice A1_1 l1_1.length c1_1)) (ds := []) #[false,false,false,false,false] (by kernel_rfl) rfl rfl ⟨(blk_cell BK278.out 0).trans rfl,(blk_cell BK278.out 1).trans rfl,(blk_cell BK252.out 0).trans rfl,(blk_cell BK252.out 1).trans rfl⟩ (fun hHeld => ?_)
        generalize w112.drew = w113 at HO_269001 HO_274001 HO_279001 HO_285001 HO289 BK251 BK252 BK268 BK273 BK278 BK284 HB hHeld ⊢
        refine take_ (i := 0) (N := some 59) (v := ?_) (a' := ?_) #[true,false,false,false,false] rfl rfl (by kernel_rfl) (fun _ _ _ h => h) (Or.inl ⟨by rfl,?_⟩) hHeld ?_ ?_
        rotate_left
        ·rintro w' ⟨s0,s1,s2,s3⟩
         go_simp
         with_reducible rfl
        rotate_left
        ·simp only [Act.put,List.setIfInBounds_toArray,List.set_cons_zero,List.set_cons_succ,i64_w,i32_w]
         rfl
        refine take_ (i := 1) (N := some 60) (v := ?_) (a' := ?_) #[true,true,false,false,false] rfl rfl (by kernel_rfl) (fun _ _ _ h => h) (Or.inl ⟨by rfl,?_⟩) hHeld ?_ ?_
        rotate_left
        ·rintro w' ⟨s0,s1,s2,s3⟩
         go_simp
         with_reducible rfl
        rotate_left
        ·simp only [Act.put,List.setIfInBounds_toArray,List.set_cons_zero,List.set_cons_succ,i64_w,i32_w]
         rfl
        refine one_ (i := 2) (N := some 61) #[true,true,true,false,false] rfl rfl (by kernel_rfl) (by decide) (fun K hK => ?_)
        refine goes_ Try.func10 (by kernel_rfl) rfl #[.agg #[.int .i64 a1_0,.slice A1_1 l1_1.length c1_1]] (by rfl) rfl rfl (by (try simp only [List.map_toArray,List.map_cons,List.map_nil]);first|done|rfl) ?_
        with_reducible refine (laws_toAff.calls kj24 a1_0 _ _ l1_1 t291 t292 _ ?side1 ?side2 A103.out).mono ?_
        (case side1 => repeat (first|exact (Kd.C_below HR1_1.out HB.out)|(with_reducible refine cA ?_ _)|(with_reducible refine cN ?_ _)|(with_reducible refine cD ?_)))
        (case side2 => exact HC1_1.out)
        rintro e w114 ⟨v293,rfl,ho0,hb⟩
        refine ⟨_,rfl,?_⟩
        have n0_ := mk0 (Kd.R_elder' (by exact rX HO_269001.out) (Kd.R_base ho0) hb)
        have n1_ := mk0 (Kd.R_elder' (by exact rX HO_274001.out) (Kd.R_base ho0) hb)
        have n2_ := mk0 (Kd.R_elder' (by exact rX HO_279001.out) (Kd.R_base ho0) hb)
        have n3_ := mk0 (Kd.R_elder' (by exact rX HO_285001.out) (Kd.R_base ho0) hb)
        have n4_ := mk0 (Kd.R_elder' (by exact rX HO289.out) (Kd.R_base ho0) hb)
        have n5_ := mk0 (Kd.R_lower (Kd.R_new' (Kd.R_new' (Kd.R_new' (Kd.R_new' (Kd.R_new' ho0 (Kd.R_lt (by exact rX HO_269001.out))) (Kd.R_lt (by exact rX HO_274001.out))) (Kd.R_lt (by exact rX HO_279001.out))) (Kd.R_lt (by exact rX HO_285001.out))) (Kd.R_lt (by exact rX HO289.out))) (below_size (by repeat (first|(with_reducible first|exact HB.out|apply bA|apply bN|apply bD|refine bS ?_ GE251.out|refine bS ?_ GE252.out|refine bS ?_ GE268.out|refine bS ?_ GE273.out|refine bS ?_ GE278.out|refine bS ?_ GE284.out)|exact HB.out))))
        have n6_ := mk0 (blk_below (by exact kX BK251.out) hb)
        have n7_ := mk0 (blk_below (by exact kX BK252.out) hb)
        have n8_ := mk0 (blk_below (by exact kX BK268.out) hb)
        have n9_ := mk0 (blk_below (by exact kX BK273.out) hb)
        have n10_ := mk0 (blk_below (by exact kX BK278.out) hb)
        have n11_ := mk0 (blk_below (by exact kX BK284.out) hb)
        have n12_ := mk0 (below_step (by repeat (first|(with_reducible first|exact HB.out|apply bA|apply bN|apply bD|refine bS ?_ GE251.out|refine bS ?_ GE252.out|refine bS ?_ GE268.out|refine bS ?_ GE273.out|refine bS ?_ GE278.out|refine bS ?_ GE284.out)|exact HB.out)) hb)
        clear HO_269001
        clear HO_274001
        clear HO_279001
        clear HO_285001
        clear HO289
        clear BK251
        clear BK252
        clear BK268
        clear BK273
        clear BK278
        clear BK284
        clear HB
        have HO_269001 := n0_
        have HO_274001 := n1_
        have HO_279001 := n2_
        have HO_285001 := n3_
        have HO289 := n4_
        have HO294 := n5_
        have BK251 := n6_
        have BK252 := n7_
        have BK268 := n8_
        have BK273 := n9_
        have BK278 := n10_
        have BK284 := n11_
        have HB := n12_
        clear n0_ n1_ n2_ n3_ n4_ n5_ n6_ n7_ n8_ n9_ n10_ n11_ n12_
        (try clear hb)
        (try clear hb2)
        (try clear hk)
        (try clear hi)
        (try clear ho0)
        obtain ⟨Ao115,co115,eo115⟩ := Kd.R_slice HO294.out
        (first|subst eo115|(injection eo115 with f1_ f2_ f3_;have f4_ := f1_.symm;have f5_ := f3_.symm;clear f1_ f2_ f3_;subst f4_;subst f5_))
        refine hK.out _ _ ⟨(blk_cell BK278.out 0).trans rfl,(blk_cell BK278.out 1).trans rfl,(blk_cell BK252.out 0).trans rfl,(blk_cell BK252.out 1).trans rfl⟩ (fun hHeld => ?_)
        clear hK K
        refine norm_ (a' := ?_) ?_ ?_
        rotate_left
        ·show Act.put _ (some 61) _ = _
         simp only [Act.put,List.setIfInBounds_toArray,List.set_cons_zero,List.set_cons_succ,i64_w,i32_w]
         rfl
        refine one_ (i := 3) (N := some 62) #[true,true,true,true,false] rfl rfl (by kernel_rfl) (by decide) (fun K hK => ?_)
        refine goes_ Try.func12 (by kernel_rfl) rfl #[.agg #[.int .i64 t274,.slice Ao62 t275.length co62],.agg #[.int .i64 t291,.slice Ao115 t292.length co115]] (by rfl) rfl rfl (by (try simp only [List.map_toArray,List.map_cons,List.map_nil]);first|done|rfl) ?_
        with_reducible refine (laws_eqAff.calls kj24 t274 _ _ t275 t291 _ _ t292 true _ ?side1 ?side2 ?side3 ?side4 A104.out).mono ?_
        (case side1 => repeat (first|exact (Kd.R_reads' HO_279001.out).2.2|(with_reducible refine cA ?_ _)|(with_reducible refine cN ?_ _)|(with_reducible refine cD ?_)))
        (case side2 => exact (Kd.R_reads' HO_279001.out).2.1)
        (case side3 => repeat (first|exact (Kd.R_reads' HO294.out).2.2|(with_reducible refine cA ?_ _)|(with_reducible refine cN ?_ _)|(with_reducible refine cD ?_)))
        (case side4 => exact (Kd.R_reads' HO294.out).2.1)
        rintro e w116 ⟨rfl,hb⟩
        refine ⟨_,rfl,?_⟩
        have n0_ := mk0 (Kd.R_below (by exact rX HO_269001.out) hb)
        have n1_ := mk0 (Kd.R_below (by exact rX HO_274001.out) hb)
        have n2_ := mk0 (Kd.R_below (by exact rX HO_279001.out) hb)
        have n3_ := mk0 (Kd.R_below (by exact rX HO_285001.out) hb)
        have n4_ := mk0 (Kd.R_below (by exact rX HO289.out) hb)
        have n5_ := mk0 (Kd.R_below (by exact rX HO294.out) hb)
        have n6_ := mk0 (blk_below (by exact kX BK251.out) hb)
        have n7_ := mk0 (blk_below (by exact kX BK252.out) hb)
        have n8_ := mk0 (blk_below (by exact kX BK268.out) hb)
        have n9_ := mk0 (blk_below (by exact kX BK273.out) hb)
        have n10_ := mk0 (blk_below (by exact kX BK278.out) hb)
        have n11_ := mk0 (blk_below (by exact kX BK284.out) hb)
        have n12_ := mk0 (below_step (by repeat (first|(with_reducible first|exact HB.out|apply bA|apply bN|apply bD|refine bS ?_ GE251.out|refine bS ?_ GE252.out|refine bS ?_ GE268.out|refine bS ?_ GE273.out|refine bS ?_ GE278.out|refine bS ?_ GE284.out)|exact HB.out)) hb)
        clear HO_269001
        clear HO_274001
        clear HO_279001
        clear HO_285001
        clear HO289
        clear HO294
        clear BK251
        clear BK252
        clear BK268
        clear BK273
        clear BK278
        clear BK284
        clear HB
        have HO_269001 := n0_
        have HO_274001 := n1_
        have HO_279001 := n2_
        have HO_285001 := n3_
        have HO289 := n4_
        have HO294 := n5_
        have BK251 := n6_
        have BK252 := n7_
        have BK268 := n8_
        have BK273 := n9_
        have BK278 := n10_
        have BK284 := n11_
        have HB := n12_
        clear n0_ n1_ n2_ n3_ n4_ n5_ n6_ n7_ n8_ n9_ n10_ n11_ n12_
        (try clear hb)
        (try clear hb2)
        (try clear hk)
        (try clear hi)
        refine hK.out _ _ ⟨(blk_cell BK278.out 0).trans rfl,(blk_cell BK278.out 1).trans rfl,(blk_cell BK252.out 0).trans rfl,(blk_cell BK252.out 1).trans rfl⟩ (fun hHeld => ?_)
        clear hK K
        refine norm_ (a' := ?_) ?_ ?_
        rotate_left
        ·show Act.put _ (some 62) _ = _
         simp only [Act.put,List.setIfInBounds_toArray,List.set_cons_zero,List.set_cons_succ,i64_w,i32_w]
         rfl
        refine pure_ (i := 4) (N := some 63) (v := ?_) (a' := ?_) #[true,true,true,true,true] rfl rfl (by kernel_rfl) (fun _ _ _ h => h) (Or.inl ⟨by rfl,?_⟩) ?_ ?_
        rotate_left
        ·intro w'
         go_simp
         with_reducible rfl
        rotate_left
        ·simp only [Act.put,List.setIfInBounds_toArray,List.set_cons_zero,List.set_cons_succ,i64_w,i32_w]
         rfl
        refine done_ (by kernel_rfl) ?_
        have hnb117 := NB273_251.out
        have hnc117 := NB251_273.out
        have hnb118 := NB273_252.out
        have hnc118 := NB252_273.out
        have hnb119 := NB273_268.out
        have hnc119 := NB268_273.out
        have hnb120 := NB273_278.out
        have hnc120 := NB278_273.out
        have hnb121 := NB273_284.out
        have hnc121 := NB284_273.out
        have z122 := bc2 BK273.out
        go_upto_region 21 with (first|((with_reducible refine gate_callee (f := 13) rfl ?_);refine goesL_ (some 66) rfl rfl Try.func13 (by kernel_rfl) rfl #[.agg #[.int .i64 t269,.slice Ao52 t270.length co52],.int .i64 1] rfl (by (try simp only [List.map_toArray,List.map_cons,List.map_nil]);first|done|rfl) ?_;(with_reducible refine (laws_markAff.calls kj24 t269 (fun k_ => some k_ = (.slice Ao52 t270.length co52 : Value).ownBlock) (.slice Ao52 t270.length co52) t270 1 t296 t297 w _ ?side1 ?side2 A106.out).mono ?_);(case side1 => repeat (first|(with_reducible first|exact HB.out|apply bA|apply bN|apply bD|refine bS ?_ GE251.out|refine bS ?_ GE252.out|refine bS ?_ GE268.out|refine bS ?_ GE273.out|refine bS ?_ GE278.out|refine bS ?_ GE284.out)|exact HB.out));(case side2 => exact Kd.R_tight rfl HO_274001.out);rintro e w123 ⟨rfl,hy0,hb,hkp⟩;refine ⟨_,rfl,?_⟩;have n0_ := mk0 (Kd.R_mono (ok' := fun k_ => some k_ ≠ (.slice Ao52 t270.length co52 : Value).ownBlock ∧ some k_ ≠ (.slice Ao62 t275.length co62 : Value).ownBlock ∧ some k_ ≠ (.slice Ao72 t280.length co72 : Value).ownBlock ∧ some k_ ≠ (.slice Ao111 t287.length co111 : Value).ownBlock ∧ some k_ ≠ (.slice Ao115 t292.length co115 : Value).ownBlock) (Kd.R_keptB (HO_269001.out) hkp (fun k_ hk_ hs_ => (hk_.1.1.1) hs_)) (fun k_ hk_ => ⟨hk_.1.1.1.1,hk_.1.1.1.2.1,hk_.1.1.1.2.2,hk_.1.1.2,hk_.1.2⟩));have n1_ := mk0 (Kd.R_reok rfl hy0 (fun k_ e_ => HO_274001.out.1 k_ e_));have n2_ := mk0 (Kd.R_mono (ok' := fun k_ => some k_ ≠ (.slice Ao42 t264.length co42 : Value).ownBlock ∧ some k_ ≠ (.slice Ao52 t270.length co52 : Value).ownBlock ∧ some k_ ≠ (.slice Ao72 t280.length co72 : Value).ownBlock ∧ some k_ ≠ (.slice Ao111 t287.length co111 : Value).ownBlock ∧ some k_ ≠ (.slice Ao115 t292.length co115 : Value).ownBlock) (Kd.R_keptB (HO_279001.out) hkp (fun k_ hk_ hs_ => (hk_.1.1.2.1) hs_)) (fun k_ hk_ => ⟨hk_.1.1.1.1,hk_.1.1.1.2.1,hk_.1.1.1.2.2,hk_.1.1.2,hk_.1.2⟩));have n3_ := mk0 (Kd.R_mono (ok' := fun k_ => some k_ ≠ (.slice Ao42 t264.length co42 : Value).ownBlock ∧ some k_ ≠ (.slice Ao52 t270.length co52 : Value).ownBlock ∧ some k_ ≠ (.slice Ao62 t275.length co62 : Value).ownBlock ∧ some k_ ≠ (.slice Ao111 t287.length co111 : Value).ownBlock ∧ some k_ ≠ (.slice Ao115 t292.length co115 : Value).ownBlock) (Kd.R_keptB (HO_285001.out) hkp (fun k_ hk_ hs_ => (hk_.1.1.2.1) hs_)) (fun k_ hk_ => ⟨hk_.1.1.1.1,hk_.1.1.1.2.1,hk_.1.1.1.2.2,hk_.1.1.2,hk_.1.2⟩));have n4_ := mk0 (blk_kept (by exact kX BK251.out) hkp (fun hs_ => (fun e_ => (Kd.R_ne HO_274001.out BK251.out (by decide)) e_) hs_));have n5_ := mk0 (blk_kept (by exact kX BK252.out) hkp (fun hs_ => (fun e_ => (Kd.R_ne HO_274001.out BK252.out (by decide)) e_) hs_));have n6_ := mk0 (blk_kept (by exact kX BK268.out) hkp (fun hs_ => (fun e_ => (Kd.R_ne HO_274001.out BK268.out (by decide)) e_) hs_));have n7_ := mk0 (blk_kept (by exact kX BK273.out) hkp (fun hs_ => (fun e_ => (Kd.R_ne HO_274001.out BK273.out (by decide)) e_) hs_));have n8_ := mk0 (blk_kept (by exact kX BK278.out) hkp (fun hs_ => (fun e_ => (Kd.R_ne HO_274001.out BK278.out (by decide)) e_) hs_));have n9_ := mk0 (blk_kept (by exact kX BK284.out) hkp (fun hs_ => (fun e_ => (Kd.R_ne HO_274001.out BK284.out (by decide)) e_) hs_));have n10_ := mk0 (Kd.R_mono (ok' := fun k_ => some k_ ≠ (.slice Ao42 t264.length co42 : Value).ownBlock ∧ some k_ ≠ (.slice Ao52 t270.length co52 : Value).ownBlock ∧ some k_ ≠ (.slice Ao62 t275.length co62 : Value).ownBlock ∧ some k_ ≠ (.slice Ao72 t280.length co72 : Value).ownBlock ∧ some k_ ≠ (.slice Ao115 t292.length co115 : Value).ownBlock) (Kd.R_keptB (HO289.out) hkp (fun k_ hk_ hs_ => (hk_.1.1.1.2) hs_)) (fun k_ hk_ => ⟨hk_.1.1.1.1.1.2,hk_.1.1.1.1.2,hk_.1.1.1.2,hk_.1.1.2,hk_.1.2⟩));have n11_ := mk0 (Kd.R_mono (ok' := fun k_ => some k_ ≠ (.slice Ao42 t264.length co42 : Value).ownBlock ∧ some k_ ≠ (.slice Ao52 t270.length co52 : Value).ownBlock ∧ some k_ ≠ (.slice Ao62 t275.length co62 : Value).ownBlock ∧ some k_ ≠ (.slice Ao72 t280.length co72 : Value).ownBlock ∧ some k_ ≠ (.slice Ao111 t287.length co111 : Value).ownBlock) (Kd.R_keptB (HO294.out) hkp (fun k_ hk_ hs_ => (hk_.1.1.1.2) hs_)) (fun k_ hk_ => ⟨hk_.1.1.1.1.1.2,hk_.1.1.1.1.2,hk_.1.1.1.2,hk_.1.1.2,hk_.1.2⟩));have n12_ := mk0 (hb);clear HO_269001;clear HO_274001;clear HO_279001;clear HO_285001;clear BK251;clear BK252;clear BK268;clear BK273;clear BK278;clear BK284;clear HO289;clear HO294;clear HB;have HO_269001 := n0_;have HO_274001 := n1_;have HO_279001 := n2_;have HO_285001 := n3_;have BK251 := n4_;have BK252 := n5_;have BK268 := n6_;have BK273 := n7_;have BK278 := n8_;have BK284 := n9_;have HO289 := n10_;have HO294 := n11_;have HB := n12_;clear n0_ n1_ n2_ n3_ n4_ n5_ n6_ n7_ n8_ n9_ n10_ n11_ n12_;(try clear hb);(try clear hkp);(try clear hy0);have hnb124 := NB278_251.out;have hnc124 := NB251_278.out;have hnb125 := NB278_252.out;have hnc125 := NB252_278.out;have hnb126 := NB278_268.out;have hnc126 := NB268_278.out;have hnb127 := NB278_284.out;have hnc127 := NB284_278.out;have z128 := bc2 BK278.out)|((with_reducible refine gate_callee (f := 13) rfl ?_);refine goesL_ (some 69) rfl rfl Try.func13 (by kernel_rfl) rfl #[.agg #[.int .i64 t274,.slice Ao62 t275.length co62],.int .i64 t296] rfl (by (try simp only [List.map_toArray,List.map_cons,List.map_nil]);first|done|rfl) ?_;(with_reducible refine (laws_markAff.calls kj24 t274 (fun k_ => some k_ = (.slice Ao62 t275.length co62 : Value).ownBlock) (.slice Ao62 t275.length co62) t275 t296 t298 t299 w _ ?side1 ?side2 A107.out).mono ?_);(case side1 => repeat (first|(with_reducible first|exact HB.out|apply bA|apply bN|apply bD|refine bS ?_ GE251.out|refine bS ?_ GE252.out|refine bS ?_ GE268.out|refine bS ?_ GE273.out|refine bS ?_ GE278.out|refine bS ?_ GE284.out)|exact HB.out));(case side2 => exact Kd.R_tight rfl HO_279001.out);rintro e w129 ⟨rfl,hy0,hb,hkp⟩;refine ⟨_,rfl,?_⟩;have n0_ := mk0 (Kd.R_mono (ok' := fun k_ => some k_ ≠ (.slice Ao52 t270.length co52 : Value).ownBlock ∧ some k_ ≠ (.slice Ao62 t275.length co62 : Value).ownBlock ∧ some k_ ≠ (.slice Ao72 t280.length co72 : Value).ownBlock ∧ some k_ ≠ (.slice Ao111 t287.length co111 : Value).ownBlock ∧ some k_ ≠ (.slice Ao115 t292.length co115 : Value).ownBlock) (Kd.R_keptB (HO_269001.out) hkp (fun k_ hk_ hs_ => (hk_.2.1) hs_)) (fun k_ hk_ => ⟨hk_.1.1,hk_.1.2.1,hk_.1.2.2.1,hk_.1.2.2.2.1,hk_.1.2.2.2.2⟩));have n1_ := mk0 (Kd.R_mono (ok' := fun k_ => some k_ ≠ (.slice Ao42 t264.length co42 : Value).ownBlock ∧ some k_ ≠ (.slice Ao62 t275.length co62 : Value).ownBlock ∧ some k_ ≠ (.slice Ao72 t280.length co72 : Value).ownBlock ∧ some k_ ≠ (.slice Ao111 t287.length co111 : Value).ownBlock ∧ some k_ ≠ (.slice Ao115 t292.length co115 : Value).ownBlock) (Kd.R_keptB (HO_274001.out) hkp (fun k_ hk_ hs_ => (hk_.1.1.2.1) hs_)) (fun k_ hk_ => ⟨hk_.1.1.1.1,hk_.1.1.1.2.1,hk_.1.1.1.2.2,hk_.1.1.2,hk_.1.2⟩));have n2_ := mk0 (Kd.R_reok rfl hy0 (fun k_ e_ => HO_279001.out.1 k_ e_));have n3_ := mk0 (Kd.R_mono (ok' := fun k_ => some k_ ≠ (.slice Ao42 t264.length co42 : Value).ownBlock ∧ some k_ ≠ (.slice Ao52 t270.length co52 : Value).ownBlock ∧ some k_ ≠ (.slice Ao62 t275.length co62 : Value).ownBlock ∧ some k_ ≠ (.slice Ao111 t287.length co111 : Value).ownBlock ∧ some k_ ≠ (.slice Ao115 t292.length co115 : Value).ownBlock) (Kd.R_keptB (HO_285001.out) hkp (fun k_ hk_ hs_ => (hk_.2.2.1) hs_)) (fun k_ hk_ => ⟨hk_.1.1,hk_.1.2.1,hk_.1.2.2.1,hk_.1.2.2.2.1,hk_.1.2.2.2.2⟩));have n4_ := mk0 (blk_kept (by exact kX BK251.out) hkp (fun hs_ => (fun e_ => (Kd.R_ne HO_279001.out BK251.out (by decide)) e_) hs_));have n5_ := mk0 (blk_kept (by exact kX BK252.out) hkp (fun hs_ => (fun e_ => (Kd.R_ne HO_279001.out BK252.out (by decide)) e_) hs_));have n6_ := mk0 (blk_kept (by exact kX BK268.out) hkp (fun hs_ => (fun e_ => (Kd.R_ne HO_279001.out BK268.out (by decide)) e_) hs_));have n7_ := mk0 (blk_kept (by exact kX BK273.out) hkp (fun hs_ => (fun e_ => (Kd.R_ne HO_279001.out BK273.out (by decide)) e_) hs_));have n8_ := mk0 (blk_kept (by exact kX BK278.out) hkp (fun hs_ => (fun e_ => (Kd.R_ne HO_279001.out BK278.out (by decide)) e_) hs_));have n9_ := mk0 (blk_kept (by exact kX BK284.out) hkp (fun hs_ => (fun e_ => (Kd.R_ne HO_279001.out BK284.out (by decide)) e_) hs_));have n10_ := mk0 (Kd.R_mono (ok' := fun k_ => some k_ ≠ (.slice Ao42 t264.length co42 : Value).ownBlock ∧ some k_ ≠ (.slice Ao52 t270.length co52 : Value).ownBlock ∧ some k_ ≠ (.slice Ao62 t275.length co62 : Value).ownBlock ∧ some k_ ≠ (.slice Ao72 t280.length co72 : Value).ownBlock ∧ some k_ ≠ (.slice Ao115 t292.length co115 : Value).ownBlock) (Kd.R_keptB (HO289.out) hkp (fun k_ hk_ hs_ => (hk_.2.2.1) hs_)) (fun k_ hk_ => ⟨hk_.1.1,hk_.1.2.1,hk_.1.2.2.1,hk_.1.2.2.2.1,hk_.1.2.2.2.2⟩));have n11_ := mk0 (Kd.R_mono (ok' := fun k_ => some k_ ≠ (.slice Ao42 t264.length co42 : Value).ownBlock ∧ some k_ ≠ (.slice Ao52 t270.length co52 : Value).ownBlock ∧ some k_ ≠ (.slice Ao62 t275.length co62 : Value).ownBlock ∧ some k_ ≠ (.slice Ao72 t280.length co72 : Value).ownBlock ∧ some k_ ≠ (.slice Ao111 t287.length co111 : Value).ownBlock) (Kd.R_keptB (HO294.out) hkp (fun k_ hk_ hs_ => (hk_.2.2.1) hs_)) (fun k_ hk_ => ⟨hk_.1.1,hk_.1.2.1,hk_.1.2.2.1,hk_.1.2.2.2.1,hk_.1.2.2.2.2⟩));have n12_ := mk0 (hb);clear HO_269001;clear HO_274001;clear HO_279001;clear HO_285001;clear BK251;clear BK252;clear BK268;clear BK273;clear BK278;clear BK284;clear HO289;clear HO294;clear HB;have HO_269001 := n0_;have HO_274001 := n1_;have HO_279001 := n2_;have HO_285001 := n3_;have BK251 := n4_;have BK252 := n5_;have BK268 := n6_;have BK273 := n7_;have BK278 := n8_;have BK284 := n9_;have HO289 := n10_;have HO294 := n11_;have HB := n12_;clear n0_ n1_ n2_ n3_ n4_ n5_ n6_ n7_ n8_ n9_ n10_ n11_ n12_;(try clear hb);(try clear hkp);(try clear hy0)))
        (try simp only [Act.put,List.setIfInBounds_toArray,List.set_cons_zero,List.set_cons_succ])
        go_cut [82] (fun v82 wc => ∃ (kq : Nat) (x82_107 : Bool),v82 = .bool x82_107 ∧ Aside0 (laws_FnExactSubA.j1 kq t267 x82_107 a0_0 l0_1 a1_0 l1_1 t263 t264 t279 t280 = some r) ∧ Aside0 (kq ≤ kj24) ∧ Aside0 (Kd.R k70 70 wc w.heap.size (fun k_ => some k_ ≠ ((.slice Ao52 t270.length co52) : Value).ownBlock ∧ some k_ ≠ ((.slice Ao62 t275.length co62) : Value).ownBlock ∧ some k_ ≠ ((.slice Ao72 t280.length co72) : Value).ownBlock) (.slice Ao42 t264.length co42) t264) ∧ Aside0 (Kd.R k70 70 wc w.heap.size (fun k_ => some k_ ≠ ((.slice Ao42 t264.length co42) : Value).ownBlock ∧ some k_ ≠ ((.slice Ao62 t275.length co62) : Value).ownBlock ∧ some k_ ≠ ((.slice Ao72 t280.length co72) : Value).ownBlock) (.slice Ao52 t270.length co52) t297) ∧ Aside0 (Kd.R k70 70 wc w.heap.size (fun k_ => some k_ ≠ ((.slice Ao42 t264.length co42) : Value).ownBlock ∧ some k_ ≠ ((.slice Ao52 t270.length co52) : Value).ownBlock ∧ some k_ ≠ ((.slice Ao72 t280.length co72) : Value).ownBlock) (.slice Ao62 t275.length co62) t299) ∧ Aside0 (Kd.R k70 70 wc w.heap.size (fun k_ => some k_ ≠ ((.slice Ao42 t264.length co42) : Value).ownBlock ∧ some k_ ≠ ((.slice Ao52 t270.length co52) : Value).ownBlock ∧ some k_ ≠ ((.slice Ao62 t275.length co62) : Value).ownBlock) (.slice Ao72 t280.length co72) t280) ∧ Aside0 (wc.heap[gb251]? = some (.cells #[.int .i64 a0_0,(.slice A0_1 l0_1.length c0_1)] 24 (0,0))) ∧ Aside0 (wc.heap[gb252]? = some (.cells #[.int .i64 a1_0,(.slice A1_1 l1_1.length c1_1)] 24 (0,0))) ∧ Aside0 (wc.heap[gb268]? = some (.cells #[.int .i64 t263,(.slice Ao42 t264.length co42)] 28 (0,0))) ∧ Aside0 (wc.heap[gb273]? = some (.cells #[.int .i64 t269,(.slice Ao52 t270.length co52)] 28 (0,0))) ∧ Aside0 (wc.heap[gb278]? = some (.cells #[.int .i64 t274,(.slice Ao62 t275.length co62)] 28 (0,0))) ∧ Aside0 (wc.heap[gb284]? = some (.cells #[.int .i64 t279,(.slice Ao72 t280.length co72)] 28 (0,0))) ∧ Aside0 (Below w.heap.size w wc))
        case first =>
         have H := HC108.out
         clear HC108
         by_cases c130 : t298 < 0
         ·rw [if_pos c130] at H
          have c130b0 : decide (t298 < 0) = true := decide_eq_true c130
          clear c130
          (first|rw [c130b0]|(simp only [i64_w,i32_w];rw [c130b0])|skip)
          have H' := mk0 H
          clear H
          go_wp2
          go_meet
          case rel => exact ⟨_,(true),(by first|rfl|(simp;done)|(simp [*];done)),H',⟨by have := HJ24.out;first|omega|exact Nat.le_refl _⟩,⟨by refine rX ?_;exact Kd.R_mono HO_269001.out (fun _ hk => ⟨hk.1,⟨hk.2.1,hk.2.2.1⟩⟩)⟩,⟨by refine rX ?_;exact Kd.R_mono HO_274001.out (fun _ hk => ⟨hk.1,⟨hk.2.1,hk.2.2.1⟩⟩)⟩,⟨by refine rX ?_;exact Kd.R_mono HO_279001.out (fun _ hk => ⟨hk.1,⟨hk.2.1,hk.2.2.1⟩⟩)⟩,⟨by refine rX ?_;exact Kd.R_mono HO_285001.out (fun _ hk => ⟨hk.1,⟨hk.2.1,hk.2.2.1⟩⟩)⟩,⟨by refine kX ?_;exact BK251.out⟩,⟨by refine kX ?_;exact BK252.out⟩,⟨by refine kX ?_;exact BK268.out⟩,⟨by refine kX ?_;exact BK273.out⟩,⟨by refine kX ?_;exact BK278.out⟩,⟨by refine kX ?_;exact BK284.out⟩,⟨by repeat (first|(with_reducible first|exact HB.out|apply bA|apply bN|apply bD|refine bS ?_ GE251.out|refine bS ?_ GE252.out|refine bS ?_ GE268.out|refine bS ?_ GE273.out|refine bS ?_ GE278.out|refine bS ?_ GE284.out)|exact HB.out)⟩⟩
         ·rw [if_neg c130] at H
          have c130b0 : decide (t298 < 0) = false := decide_eq_false c130
          clear c130
          (first|rw [c130b0]|(simp only [i64_w,i32_w];rw [c130b0])|skip)
          obtain ⟨t300,A131,H⟩ := bindA H
          by_cases c132 : t300 = true
          ·subst c132
           rw [if_pos rfl] at H
           have H' := mk0 H
           clear H
           have hnb133 := NB284_251.out
           have hnc133 := NB251_284.out
           have hnb134 := NB284_252.out
           have hnc134 := NB252_284.out
           have hnb135 := NB284_268.out
           have hnc135 := NB268_284.out
           have hnb136 := NB284_273.out
           have hnc136 := NB273_284.out
           have hnb137 := NB284_278.out
           have hnc137 := NB278_284.out
           have z138 := bc2 BK284.out
           have hnb139 := NB268_251.out
           have hnc139 := NB251_268.out
           have hnb140 := NB268_252.out
           have hnc140 := NB252_268.out
           have hnb141 := NB268_273.out
           have hnc141 := NB273_268.out
           have hnb142 := NB268_278.out
           have hnc142 := NB278_268.out
           have z143 := bc2 BK268.out
           go_wp2_with (first|(go_at_call 12;(with_reducible refine (laws_eqAff.calls kj24 t279 _ _ t280 t263 _ _ t264 true _ ?side1 ?side2 ?side3 ?side4 A131.out).mono ?_);(case side1 => repeat (first|exact (Kd.R_reads' HO_285001.out).2.2|(with_reducible refine cA ?_ _)|(with_reducible refine cN ?_ _)|(with_reducible refine cD ?_)));(case side2 => exact (Kd.R_reads' HO_285001.out).2.1);(case side3 => repeat (first|exact (Kd.R_reads' HO_269001.out).2.2|(with_reducible refine cA ?_ _)|(with_reducible refine cN ?_ _)|(with_reducible refine cD ?_)));(case side4 => exact (Kd.R_reads' HO_269001.out).2.1);rintro e w144 ⟨rfl,hb⟩;have n0_ := mk0 (Kd.R_below (by exact rX HO_269001.out) hb);have n1_ := mk0 (Kd.R_below (by exact rX HO_274001.out) hb);have n2_ := mk0 (Kd.R_below (by exact rX HO_279001.out) hb);have n3_ := mk0 (Kd.R_below (by exact rX HO_285001.out) hb);have n4_ := mk0 (Kd.R_below (by exact rX HO289.out) hb);have n5_ := mk0 (Kd.R_below (by exact rX HO294.out) hb);have n6_ := mk0 (blk_below (by exact kX BK251.out) hb);have n7_ := mk0 (blk_below (by exact kX BK252.out) hb);have n8_ := mk0 (blk_below (by exact kX BK268.out) hb);have n9_ := mk0 (blk_below (by exact kX BK273.out) hb);have n10_ := mk0 (blk_below (by exact kX BK278.out) hb);have n11_ := mk0 (blk_below (by exact kX BK284.out) hb);have n12_ := mk0 (below_step (by repeat (first|(with_reducible first|exact HB.out|apply bA|apply bN|apply bD|refine bS ?_ GE251.out|refine bS ?_ GE252.out|refine bS ?_ GE268.out|refine bS ?_ GE273.out|refine bS ?_ GE278.out|refine bS ?_ GE284.out)|exact HB.out)) hb);clear HO_269001;clear HO_274001;clear HO_279001;clear HO_285001;clear HO289;clear HO294;clear BK251;clear BK252;clear BK268;clear BK273;clear BK278;clear BK284;clear HB;have HO_269001 := n0_;have HO_274001 := n1_;have HO_279001 := n2_;have HO_285001 := n3_;have HO289 := n4_;have HO294 := n5_;have BK251 := n6_;have BK252 := n7_;have BK268 := n8_;have BK273 := n9_;have BK278 := n10_;have BK284 := n11_;have HB := n12_;clear n0_ n1_ n2_ n3_ n4_ n5_ n6_ n7_ n8_ n9_ n10_ n11_ n12_;(try clear hb);(try clear hb2);(try clear hk);(try clear hi)))
           go_meet
           case rel => exact ⟨_,((t283 != t267)),(by first|rfl|(simp;done)|(simp [*];done)),H',⟨by have := HJ24.out;first|omega|exact Nat.le_refl _⟩,⟨by refine rX ?_;exact Kd.R_mono HO_269001.out (fun _ hk => ⟨hk.1,⟨hk.2.1,hk.2.2.1⟩⟩)⟩,⟨by refine rX ?_;exact Kd.R_mono HO_274001.out (fun _ hk => ⟨hk.1,⟨hk.2.1,hk.2.2.1⟩⟩)⟩,⟨by refine rX ?_;exact Kd.R_mono HO_279001.out (fun _ hk => ⟨hk.1,⟨hk.2.1,hk.2.2.1⟩⟩)⟩,⟨by refine rX ?_;exact Kd.R_mono HO_285001.out (fun _ hk => ⟨hk.1,⟨hk.2.1,hk.2.2.1⟩⟩)⟩,⟨by refine kX ?_;exact BK251.out⟩,⟨by refine kX ?_;exact BK252.out⟩,⟨by refine kX ?_;exact BK268.out⟩,⟨by refine kX ?_;exact BK273.out⟩,⟨by refine kX ?_;exact BK278.out⟩,⟨by refine kX ?_;exact BK284.out⟩,⟨by repeat (first|(with_reducible first|exact HB.out|apply bA|apply bN|apply bD|refine bS ?_ GE251.out|refine bS ?_ GE252.out|refine bS ?_ GE268.out|refine bS ?_ GE273.out|refine bS ?_ GE278.out|refine bS ?_ GE284.out)|exact HB.out)⟩⟩
          ·replace c132 := Bool.eq_false_iff.mpr c132
           subst c132
           rw [if_neg (show ¬ (false = true) by decide)] at H
           have H' := mk0 H
           clear H
           have hnb145 := NB284_251.out
           have hnc145 := NB251_284.out
           have hnb146 := NB284_252.out
           have hnc146 := NB252_284.out
           have hnb147 := NB284_268.out
           have hnc147 := NB268_284.out
           have hnb148 := NB284_273.out
           have hnc148 := NB273_284.out
           have hnb149 := NB284_278.out
           have hnc149 := NB278_284.out
           have z150 := bc2 BK284.out
           have hnb151 := NB268_251.out
           have hnc151 := NB251_268.out
           have hnb152 := NB268_252.out
           have hnc152 := NB252_268.out
           have hnb153 := NB268_273.out
           have hnc153 := NB273_268.out
           have hnb154 := NB268_278.out
           have hnc154 := NB278_268.out
           have z155 := bc2 BK268.out
           go_wp2_with (first|(go_at_call 12;(with_reducible refine (laws_eqAff.calls kj24 t279 _ _ t280 t263 _ _ t264 false _ ?side1 ?side2 ?side3 ?side4 A131.out).mono ?_);(case side1 => repeat (first|exact (Kd.R_reads' HO_285001.out).2.2|(with_reducible refine cA ?_ _)|(with_reducible refine cN ?_ _)|(with_reducible refine cD ?_)));(case side2 => exact (Kd.R_reads' HO_285001.out).2.1);(case side3 => repeat (first|exact (Kd.R_reads' HO_269001.out).2.2|(with_reducible refine cA ?_ _)|(with_reducible refine cN ?_ _)|(with_reducible refine cD ?_)));(case side4 => exact (Kd.R_reads' HO_269001.out).2.1);rintro e w156 ⟨rfl,hb⟩;have n0_ := mk0 (Kd.R_below (by exact rX HO_269001.out) hb);have n1_ := mk0 (Kd.R_below (by exact rX HO_274001.out) hb);have n2_ := mk0 (Kd.R_below (by exact rX HO_279001.out) hb);have n3_ := mk0 (Kd.R_below (by exact rX HO_285001.out) hb);have n4_ := mk0 (Kd.R_below (by exact rX HO289.out) hb);have n5_ := mk0 (Kd.R_below (by exact rX HO294.out) hb);have n6_ := mk0 (blk_below (by exact kX BK251.out) hb);have n7_ := mk0 (blk_below (by exact kX BK252.out) hb);have n8_ := mk0 (blk_below (by exact kX BK268.out) hb);have n9_ := mk0 (blk_below (by exact kX BK273.out) hb);have n10_ := mk0 (blk_below (by exact kX BK278.out) hb);have n11_ := mk0 (blk_below (by exact kX BK284.out) hb);have n12_ := mk0 (below_step (by repeat (first|(with_reducible first|exact HB.out|apply bA|apply bN|apply bD|refine bS ?_ GE251.out|refine bS ?_ GE252.out|refine bS ?_ GE268.out|refine bS ?_ GE273.out|refine bS ?_ GE278.out|refine bS ?_ GE284.out)|exact HB.out)) hb);clear HO_269001;clear HO_274001;clear HO_279001;clear HO_285001;clear HO289;clear HO294;clear BK251;clear BK252;clear BK268;clear BK273;clear BK278;clear BK284;clear HB;have HO_269001 := n0_;have HO_274001 := n1_;have HO_279001 := n2_;have HO_285001 := n3_;have HO289 := n4_;have HO294 := n5_;have BK251 := n6_;have BK252 := n7_;have BK268 := n8_;have BK273 := n9_;have BK278 := n10_;have BK284 := n11_;have HB := n12_;clear n0_ n1_ n2_ n3_ n4_ n5_ n6_ n7_ n8_ n9_ n10_ n11_ n12_;(try clear hb);(try clear hb2);(try clear hk);(try clear hi)))
           go_meet
           case rel => exact ⟨_,(true),(by first|rfl|(simp;done)|(simp [*];done)),H',⟨by have := HJ24.out;first|omega|exact Nat.le_refl _⟩,⟨by refine rX ?_;exact Kd.R_mono HO_269001.out (fun _ hk => ⟨hk.1,⟨hk.2.1,hk.2.2.1⟩⟩)⟩,⟨by refine rX ?_;exact Kd.R_mono HO_274001.out (fun _ hk => ⟨hk.1,⟨hk.2.1,hk.2.2.1⟩⟩)⟩,⟨by refine rX ?_;exact Kd.R_mono HO_279001.out (fun _ hk => ⟨hk.1,⟨hk.2.1,hk.2.2.1⟩⟩)⟩,⟨by refine rX ?_;exact Kd.R_mono HO_285001.out (fun _ hk => ⟨hk.1,⟨hk.2.1,hk.2.2.1⟩⟩)⟩,⟨by refine kX ?_;exact BK251.out⟩,⟨by refine kX ?_;exact BK252.out⟩,⟨by refine kX ?_;exact BK268.out⟩,⟨by refine kX ?_;exact BK273.out⟩,⟨by refine kX ?_;exact BK278.out⟩,⟨by refine kX ?_;exact BK284.out⟩,⟨by repeat (first|(with_reducible first|exact HB.out|apply bA|apply bN|apply bD|refine bS ?_ GE251.out|refine bS ?_ GE252.out|refine bS ?_ GE268.out|refine bS ?_ GE273.out|refine bS ?_ GE278.out|refine bS ?_ GE284.out)|exact HB.out)⟩⟩
        case rest =>
         clear HC108
         try clear c1
         try clear p2
         try clear c7
         try clear c8
         try clear c9
         try clear c10
         try clear c11
         try clear c12
         try clear c13
         try clear c14
         try clear c15
         try clear c70
         try clear c74
         try clear c75
         try clear c76
         try clear c77
         try clear c78
         try clear c79
         try clear c81
         try clear c82
         try clear c83
         try clear c84
         try clear c87
         try clear c88
         try clear c89
         try clear c90
         try clear c91
         try clear c93
         try clear c94
         try clear c95
         try clear c96
         try clear c99
         try clear c102
         try clear c105
         try clear c117
         try clear c118
         try clear c119
         try clear c120
         try clear c121
         try clear c124
         try clear c125
         try clear c126
         try clear c127
         try clear c130
         try clear c130b0
         try clear c132
         try clear c133
         try clear c134
         try clear c135
         try clear c136
         try clear c137
         try clear c139
         try clear c140
         try clear c141
         try clear c142
         try clear c145
         try clear c146
         try clear c147
         try clear c148
         try clear c149
         try clear c151
         try clear c152
         try clear c153
         try clear c154
         try clear z122
         try clear z128
         try clear z138
         try clear z143
         try clear z150
         try clear z155
         try clear z45
         try clear z51
         try clear z54
         try clear z61
         try clear z63
         try clear z71
         try clear z80
         try clear z85
         try clear z92
         try clear z97
         try clear z122
         try clear z128
         try clear z138
         try clear z143
         try clear z150
         try clear z155
         try clear z45
         try clear z51
         try clear z54
         try clear z61
         try clear z63
         try clear z71
         try clear z80
         try clear z85
         try clear z92
         try clear z97
         obtain ⟨kq,x82_107,rfl,HA,HJ107,HO_269001,HO_274001,HO_279001,HO_285001,BK251,BK252,BK268,BK273,BK278,BK284,HB⟩ := hcut
         have hl274001_107 := (Kd.R_reads' HO_274001.out).1
         rw [hl274001_107] at HO_274001
         (try simp only [hl274001_107])
         (try simp only [hl274001_107] at BK251)
         (try simp only [hl274001_107] at BK252)
         (try simp only [hl274001_107] at BK268)
         (try simp only [hl274001_107] at BK273)
         (try simp only [hl274001_107] at BK278)
         (try simp only [hl274001_107] at BK284)
         (try simp only [hl274001_107] at HO_269001)
         (try simp only [hl274001_107] at HO_279001)
         (try simp only [hl274001_107] at HO_285001)
         have hl279001_107 := (Kd.R_reads' HO_279001.out).1
         rw [hl279001_107] at HO_279001
         (try simp only [hl279001_107])
         (try simp only [hl279001_107] at BK251)
         (try simp only [hl279001_107] at BK252)
         (try simp only [hl279001_107] at BK268)
         (try simp only [hl279001_107] at BK273)
         (try simp only [hl279001_107] at BK278)
         (try simp only [hl279001_107] at BK284)
         (try simp only [hl279001_107] at HO_269001)
         (try simp only [hl279001_107] at HO_274001)
         (try simp only [hl279001_107] at HO_285001)
         cases kq with
                 |zero => exact absurd HA.out (by simp [laws_FnExactSubA.j1])
                 |succ kj107 =>
          have H := HA.out
          clear HA
          simp only [laws_FnExactSubA.j1] at H
          by_cases c157 : x82_107 = true
          ·subst c157
           rw [if_pos rfl] at H
           exact absurd H (by simp)
          ·replace c157 := Bool.eq_false_iff.mpr c157
           subst c157
           rw [if_neg (show ¬ (false = true) by decide)] at H
           replace H := Option.bind_eq_some_iff.mp H
           obtain ⟨⟨t301,t302⟩,A1580,H⟩ := H
           replace H : ((laws_heldAff.f kj107 t279 t302 1).bind fun t303 => (if t303 < 0 then (none) else (if t303 = t301 then ((laws_toAff.f kj107 a0_0 l0_1).bind fun bt304 => ((laws_toAff.f kj107 a1_0 l1_1).bind fun bt308 => ((impl_SubA.f kj107 bt304.1 bt304.2 bt308.1 bt308.2).bind fun bt312 => ((laws_eqAff.f kj107 bt312.1 bt312.2.1 t263 t264).bind fun t318 => (if t318 = true then (laws_FnExactSubA.j2 kj107 t301 (bt312.2.2 != t267) t279 t302) else (laws_FnExactSubA.j2 kj107 t301 true t279 t302)))))) else (none)))) = some r := H
           have A158 := mk0 A1580
           clear A1580
           obtain ⟨t303,A159,H⟩ := bindA H
           by_cases c160 : t303 < 0
           ·rw [if_pos c160] at H
            exact absurd H (by simp)
           ·rw [if_neg c160] at H
            have c160b0 : decide (t303 < 0) = false := decide_eq_false c160
            clear c160
            by_cases c161 : t303 = t301
            ·rw [if_pos c161] at H
             have c161b0 : (t303 == t301) = true := beq_iff_eq.mpr c161
             have c161b1 : (t303 != t301) = false := bne_eq_false_iff_eq.mpr c161
             clear c161
             replace H := Option.bind_eq_some_iff.mp H
             obtain ⟨⟨t304,t305⟩,A1620,H⟩ := H
             replace H : ((laws_toAff.f kj107 a1_0 l1_1).bind fun bt308 => ((impl_SubA.f kj107 t304 t305 bt308.1 bt308.2).bind fun bt312 => ((laws_eqAff.f kj107 bt312.1 bt312.2.1 t263 t264).bind fun t318 => (if t318 = true then (laws_FnExactSubA.j2 kj107 t301 (bt312.2.2 != t267) t279 t302) else (laws_FnExactSubA.j2 kj107 t301 true t279 t302))))) = some r := H
             have A162 := mk0 A1620
             clear A1620
             replace H := Option.bind_eq_some_iff.mp H
             obtain ⟨⟨t308,t309⟩,A1630,H⟩ := H
             replace H : ((impl_SubA.f kj107 t304 t305 t308 t309).bind fun bt312 => ((laws_eqAff.f kj107 bt312.1 bt312.2.1 t263 t264).bind fun t318 => (if t318 = true then (laws_FnExactSubA.j2 kj107 t301 (bt312.2.2 != t267) t279 t302) else (laws_FnExactSubA.j2 kj107 t301 true t279 t302)))) = some r := H
             have A163 := mk0 A1630
             clear A1630
             replace H := Option.bind_eq_some_iff.mp H
             obtain ⟨⟨t312,t313,t316⟩,A1640,H⟩ := H
             replace H : ((laws_eqAff.f kj107 t312 t313 t263 t264).bind fun t318 => (if t318 = true then (laws_FnExactSubA.j2 kj107 t301 (t316 != t267) t279 t302) else (laws_FnExactSubA.j2 kj107 t301 true t279 t302))) = some r := H
             have A164 := mk0 A1640
             clear A1640
             have HC165 := mk0 H
             clear H
             have hnb166 := NB284_251.out
             have hnc166 := NB251_284.out
             have hnb167 := NB284_252.out
             have hnc167 := NB252_284.out
             have hnb168 := NB284_268.out
             have hnc168 := NB268_284.out
             have hnb169 := NB284_273.out
             have hnc169 := NB273_284.out
             have hnb170 := NB284_278.out
             have hnc170 := NB278_284.out
             have z171 := bc2 BK284.out
             try go_wp2_with (first|((with_reducible refine gate_callee (f := 13) rfl ?_);refine goesL_ (some 85) rfl rfl Try.func13 (by kernel_rfl) rfl #[.agg #[.int .i64 t279,.slice Ao72 t280.length co72],.int .i64 1] rfl (by (try simp only [List.map_toArray,List.map_cons,List.map_nil]);first|done|rfl) ?_;(with_reducible refine (laws_markAff.calls kj107 t279 (fun k_ => some k_ = (.slice Ao72 t280.length co72 : Value).ownBlock) (.slice Ao72 t280.length co72) t280 1 t301 t302 w _ ?side1 ?side2 A158.out).mono ?_);(case side1 => repeat (first|(with_reducible first|exact HB.out|apply bA|apply bN|apply bD|refine bS ?_ GE251.out|refine bS ?_ GE252.out|refine bS ?_ GE268.out|refine bS ?_ GE273.out|refine bS ?_ GE278.out|refine bS ?_ GE284.out)|exact HB.out));(case side2 => exact Kd.R_tight rfl HO_285001.out);rintro e w172 ⟨rfl,hy0,hb,hkp⟩;refine ⟨_,rfl,?_⟩;have n0_ := mk0 (Kd.R_mono (ok' := fun k_ => some k_ ≠ (.slice Ao52 t297.length co52 : Value).ownBlock ∧ some k_ ≠ (.slice Ao62 t299.length co62 : Value).ownBlock ∧ some k_ ≠ (.slice Ao72 t280.length co72 : Value).ownBlock) (Kd.R_keptB (HO_269001.out) hkp (fun k_ hk_ hs_ => (hk_.2.2) hs_)) (fun k_ hk_ => ⟨hk_.1.1,hk_.1.2.1,hk_.1.2.2⟩));have n1_ := mk0 (Kd.R_mono (ok' := fun k_ => some k_ ≠ (.slice Ao42 t264.length co42 : Value).ownBlock ∧ some k_ ≠ (.slice Ao62 t299.length co62 : Value).ownBlock ∧ some k_ ≠ (.slice Ao72 t280.length co72 : Value).ownBlock) (Kd.R_keptB (HO_274001.out) hkp (fun k_ hk_ hs_ => (hk_.2.2) hs_)) (fun k_ hk_ => ⟨hk_.1.1,hk_.1.2.1,hk_.1.2.2⟩));have n2_ := mk0 (Kd.R_mono (ok' := fun k_ => some k_ ≠ (.slice Ao42 t264.length co42 : Value).ownBlock ∧ some k_ ≠ (.slice Ao52 t297.length co52 : Value).ownBlock ∧ some k_ ≠ (.slice Ao72 t280.length co72 : Value).ownBlock) (Kd.R_keptB (HO_279001.out) hkp (fun k_ hk_ hs_ => (hk_.2.2) hs_)) (fun k_ hk_ => ⟨hk_.1.1,hk_.1.2.1,hk_.1.2.2⟩));have n3_ := mk0 (Kd.R_reok rfl hy0 (fun k_ e_ => HO_285001.out.1 k_ e_));have n4_ := mk0 (blk_kept (by exact kX BK251.out) hkp (fun hs_ => (fun e_ => (Kd.R_ne HO_285001.out BK251.out (by decide)) e_) hs_));have n5_ := mk0 (blk_kept (by exact kX BK252.out) hkp (fun hs_ => (fun e_ => (Kd.R_ne HO_285001.out BK252.out (by decide)) e_) hs_));have n6_ := mk0 (blk_kept (by exact kX BK268.out) hkp (fun hs_ => (fun e_ => (Kd.R_ne HO_285001.out BK268.out (by decide)) e_) hs_));have n7_ := mk0 (blk_kept (by exact kX BK273.out) hkp (fun hs_ => (fun e_ => (Kd.R_ne HO_285001.out BK273.out (by decide)) e_) hs_));have n8_ := mk0 (blk_kept (by exact kX BK278.out) hkp (fun hs_ => (fun e_ => (Kd.R_ne HO_285001.out BK278.out (by decide)) e_) hs_));have n9_ := mk0 (blk_kept (by exact kX BK284.out) hkp (fun hs_ => (fun e_ => (Kd.R_ne HO_285001.out BK284.out (by decide)) e_) hs_));have n10_ := mk0 (hb);clear HO_269001;clear HO_274001;clear HO_279001;clear HO_285001;clear BK251;clear BK252;clear BK268;clear BK273;clear BK278;clear BK284;clear HB;have HO_269001 := n0_;have HO_274001 := n1_;have HO_279001 := n2_;have HO_285001 := n3_;have BK251 := n4_;have BK252 := n5_;have BK268 := n6_;have BK273 := n7_;have BK278 := n8_;have BK284 := n9_;have HB := n10_;clear n0_ n1_ n2_ n3_ n4_ n5_ n6_ n7_ n8_ n9_ n10_;(try clear hb);(try clear hkp);(try clear hy0);have z173 := bc2 BK284.out)|((with_reducible refine gate_callee (f := 14) rfl ?_);refine goesL_ (some 88) rfl rfl Try.func14 (by kernel_rfl) rfl #[.agg #[.int .i64 t279,.slice Ao72 t302.length co72],.int .i64 1] rfl (by (try simp only [List.map_toArray,List.map_cons,List.map_nil]);first|done|(rw [show t302.length = t280.length from (Kd.R_reads' HO_285001.out).1.symm] <;> rfl)|rfl|(simp only [List.length_drop,List.length_take];rfl)) ?_;(with_reducible refine (laws_heldAff.calls kj107 t279 _ _ t302 1 t303 _ ?side1 ?side2 A159.out).mono ?_);(case side1 => repeat (first|exact (Kd.R_reads' HO_285001.out).2.2|(with_reducible refine cA ?_ _)|(with_reducible refine cN ?_ _)|(with_reducible refine cD ?_)));(case side2 => rw [show t302.length = t280.length from (Kd.R_reads' HO_285001.out).1.symm];exact (Kd.R_reads' HO_285001.out).2.1);rintro e w174 ⟨rfl,hb⟩;refine ⟨_,rfl,?_⟩;have n0_ := mk0 (Kd.R_below (by exact rX HO_269001.out) hb);have n1_ := mk0 (Kd.R_below (by exact rX HO_274001.out) hb);have n2_ := mk0 (Kd.R_below (by exact rX HO_279001.out) hb);have n3_ := mk0 (Kd.R_below (by exact rX HO_285001.out) hb);have n4_ := mk0 (blk_below (by exact kX BK251.out) hb);have n5_ := mk0 (blk_below (by exact kX BK252.out) hb);have n6_ := mk0 (blk_below (by exact kX BK268.out) hb);have n7_ := mk0 (blk_below (by exact kX BK273.out) hb);have n8_ := mk0 (blk_below (by exact kX BK278.out) hb);have n9_ := mk0 (blk_below (by exact kX BK284.out) hb);have n10_ := mk0 (below_step (by repeat (first|(with_reducible first|exact HB.out|apply bA|apply bN|apply bD|refine bS ?_ GE251.out|refine bS ?_ GE252.out|refine bS ?_ GE268.out|refine bS ?_ GE273.out|refine bS ?_ GE278.out|refine bS ?_ GE284.out)|exact HB.out)) hb);clear HO_269001;clear HO_274001;clear HO_279001;clear HO_285001;clear BK251;clear BK252;clear BK268;clear BK273;clear BK278;clear BK284;clear HB;have HO_269001 := n0_;have HO_274001 := n1_;have HO_279001 := n2_;have HO_285001 := n3_;have BK251 := n4_;have BK252 := n5_;have BK268 := n6_;have BK273 := n7_;have BK278 := n8_;have BK284 := n9_;have HB := n10_;clear n0_ n1_ n2_ n3_ n4_ n5_ n6_ n7_ n8_ n9_ n10_;(try clear hb);(try clear hb2);(try clear hk);(try clear hi)))
             have n0_ := mk0 (Kd.R_drew HO_269001.out)
             have n1_ := mk0 (Kd.R_drew HO_274001.out)
             have n2_ := mk0 (Kd.R_drew HO_279001.out)
             have n3_ := mk0 (Kd.R_drew HO_285001.out)
             have n4_ := mk0 (kD BK251.out)
             have n5_ := mk0 (kD BK252.out)
             have n6_ := mk0 (kD BK268.out)
             have n7_ := mk0 (kD BK273.out)
             have n8_ := mk0 (kD BK278.out)
             have n9_ := mk0 (kD BK284.out)
             have n10_ := mk0 (bD HB.out)
             clear HO_269001
             clear HO_274001
             clear HO_279001
             clear HO_285001
             clear BK251
             clear BK252
             clear BK268
             clear BK273
             clear BK278
             clear BK284
             clear HB
             have HO_269001 := n0_
             have HO_274001 := n1_
             have HO_279001 := n2_
             have HO_285001 := n3_
             have BK251 := n4_
             have BK252 := n5_
             have BK268 := n6_
             have BK273 := n7_
             have BK278 := n8_
             have BK284 := n9_
             have HB := n10_
             clear n0_ n1_ n2_ n3_ n4_ n5_ n6_ n7_ n8_ n9_ n10_
             refine start_ (n := 11) (S := fun w' => w'.cell? ⟨gb251,0,none⟩ = some (.int .i64 a0_0) ∧ w'.cell? ⟨gb251,1,none⟩ = some (.slice A0_1 l0_1.length c0_1) ∧ w'.cell? ⟨gb252,0,none⟩ = some (.int .i64 a1_0) ∧ w'.cell? ⟨gb252,1,none⟩ = some (.slice A1_1 l1_1.length c1_1)) (ds := []) #[false,false,false,false,false,false,false,false,false,false,false] (by kernel_rfl) rfl rfl ⟨(blk_cell BK251.out 0).trans rfl,(blk_cell BK251.out 1).trans rfl,(blk_cell BK252.out 0).trans rfl,(blk_cell BK252.out 1).trans rfl⟩ (fun hHeld => ?_);refine with_tabW laws_FnExactSubA.tab31 laws_FnExactSubA.bits31 (fun HT_ HW_ => ?_)
             generalize w174.drew = w175 at HO_269001 HO_274001 HO_279001 HO_285001 BK251 BK252 BK268 BK273 BK278 BK284 HB hHeld ⊢
             refine take_ (i := 0) (N := some 95) (v := ?_) (a' := ?_) #[true,false,false,false,false,false,false,false,false,false,false] rfl rfl (take_ofW HT_.out HW_.out (by kernel_rfl)) (fun _ _ _ h => h) (Or.inl ⟨by rfl,?_⟩) hHeld ?_ ?_
             rotate_left
             ·rintro w' ⟨s0,s1,s2,s3⟩
              go_simp
              with_reducible rfl
             rotate_left
             ·simp only [Act.put,List.setIfInBounds_toArray,List.set_cons_zero,List.set_cons_succ,i64_w,i32_w]
              rfl
             refine take_ (i := 2) (N := some 97) (v := ?_) (a' := ?_) #[true,false,true,false,false,false,false,false,false,false,false] rfl rfl (take_ofW HT_.out HW_.out (by kernel_rfl)) (fun _ _ _ h => h) (Or.inl ⟨by rfl,?_⟩) hHeld ?_ ?_
             rotate_left
             ·rintro w' ⟨s0,s1,s2,s3⟩
              go_simp
              with_reducible rfl
             rotate_left
             ·simp only [Act.put,List.setIfInBounds_toArray,List.set_cons_zero,List.set_cons_succ,i64_w,i32_w]
              rfl
             refine join_ (σ := Value × Value × Value × Nat) 2 #[true,true,true,true,true,true,true,true,true,false,false] (fun s_ => [(96,.agg #[.int .i64 t304,s_.1]),(98,.agg #[.int .i64 t308,s_.2.1]),(99,.tuple #[.agg #[.int .i64 t312,s_.2.2.1],.bool t316]),(15,.pointer (some ⟨s_.2.2.2,0,none⟩)),(94,.tuple #[.agg #[.int .i64 t312,s_.2.2.1],.bool t316]),(100,.agg #[.int .i64 t312,s_.2.2.1]),(101,.bool t316)]) (fun s_ w' => (w'.cell? ⟨gb251,0,none⟩ = some (.int .i64 a0_0) ∧ w'.cell? ⟨gb251,1,none⟩ = some (.slice A0_1 l0_1.length c0_1) ∧ w'.cell? ⟨gb252,0,none⟩ = some (.int .i64 a1_0) ∧ w'.cell? ⟨gb252,1,none⟩ = some (.slice A1_1 l1_1.length c1_1)) ∧ (Kd.R k70 70 w' w.heap.size (fun k_ => some k_ ≠ (s_.2.1 : Value).ownBlock ∧ some k_ ≠ (s_.2.2.1 : Value).ownBlock ∧ some k_ ≠ (.slice Ao42 t264.length co42 : Value).ownBlock ∧ some k_ ≠ (.slice Ao52 t297.length co52 : Value).ownBlock ∧ some k_ ≠ (.slice Ao62 t299.length co62 : Value).ownBlock ∧ some k_ ≠ (.slice Ao72 t280.length co72 : Value).ownBlock) s_.1 t305) ∧ (Kd.R k70 70 w' w.heap.size (fun k_ => some k_ ≠ (s_.1 : Value).ownBlock ∧ some k_ ≠ (s_.2.2.1 : Value).ownBlock ∧ some k_ ≠ (.slice Ao42 t264.length co42 : Value).ownBlock ∧ some k_ ≠ (.slice Ao52 t297.length co52 : Value).ownBlock ∧ some k_ ≠ (.slice Ao62 t299.length co62 : Value).ownBlock ∧ some k_ ≠ (.slice Ao72 t280.length co72 : Value).ownBlock) s_.2.1 t309) ∧ (Kd.R k70 70 w' w.heap.size (fun k_ => some k_ ≠ (s_.1 : Value).ownBlock ∧ some k_ ≠ (s_.2.1 : Value).ownBlock ∧ some k_ ≠ (.slice Ao42 t264.length co42 : Value).ownBlock ∧ some k_ ≠ (.slice Ao52 t297.length co52 : Value).ownBlock ∧ some k_ ≠ (.slice Ao62 t299.length co62 : Value).ownBlock ∧ some k_ ≠ (.slice Ao72 t280.length co72 : Value).ownBlock) s_.2.2.1 t313) ∧ (Kd.R k70 70 w' w.heap.size (fun k_ => some k_ ≠ (s_.1 : Value).ownBlock ∧ some k_ ≠ (s_.2.1 : Value).ownBlock ∧ some k_ ≠ (s_.2.2.1 : Value).ownBlock ∧ some k_ ≠ (.slice Ao52 t297.length co52 : Value).ownBlock ∧ some k_ ≠ (.slice Ao62 t299.length co62 : Value).ownBlock ∧ some k_ ≠ (.slice Ao72 t280.length co72 : Value).ownBlock) (.slice Ao42 t264.length co42) t264) ∧ (Kd.R k70 70 w' w.heap.size (fun k_ => some k_ ≠ (s_.1 : Value).ownBlock ∧ some k_ ≠ (s_.2.1 : Value).ownBlock ∧ some k_ ≠ (s_.2.2.1 : Value).ownBlock ∧ some k_ ≠ (.slice Ao42 t264.length co42 : Value).ownBlock ∧ some k_ ≠ (.slice Ao62 t299.length co62 : Value).ownBlock ∧ some k_ ≠ (.slice Ao72 t280.length co72 : Value).ownBlock) (.slice Ao52 t297.length co52) t297) ∧ (Kd.R k70 70 w' w.heap.size (fun k_ => some k_ ≠ (s_.1 : Value).ownBlock ∧ some k_ ≠ (s_.2.1 : Value).ownBlock ∧ some k_ ≠ (s_.2.2.1 : Value).ownBlock ∧ some k_ ≠ (.slice Ao42 t264.length co42 : Value).ownBlock ∧ some k_ ≠ (.slice Ao52 t297.length co52 : Value).ownBlock ∧ some k_ ≠ (.slice Ao72 t280.length co72 : Value).ownBlock) (.slice Ao62 t299.length co62) t299) ∧ (Kd.R k70 70 w' w.heap.size (fun k_ => some k_ ≠ (s_.1 : Value).ownBlock ∧ some k_ ≠ (s_.2.1 : Value).ownBlock ∧ some k_ ≠ (s_.2.2.1 : Value).ownBlock ∧ some k_ ≠ (.slice Ao42 t264.length co42 : Value).ownBlock ∧ some k_ ≠ (.slice Ao52 t297.length co52 : Value).ownBlock ∧ some k_ ≠ (.slice Ao62 t299.length co62 : Value).ownBlock) (.slice Ao72 t280.length co72) t302) ∧ (w'.heap[gb251]? = some (.cells #[.int .i64 a0_0,.slice A0_1 l0_1.length c0_1] 24 (0,0))) ∧ (w'.heap[gb252]? = some (.cells #[.int .i64 a1_0,.slice A1_1 l1_1.length c1_1] 24 (0,0))) ∧ (w'.heap[gb268]? = some (.cells #[.int .i64 t263,.slice Ao42 t264.length co42] 28 (0,0))) ∧ (w'.heap[gb273]? = some (.cells #[.int .i64 t269,.slice Ao52 t297.length co52] 28 (0,0))) ∧ (w'.heap[gb278]? = some (.cells #[.int .i64 t274,.slice Ao62 t299.length co62] 28 (0,0))) ∧ (w'.heap[gb284]? = some (.cells #[.int .i64 t279,.slice Ao72 t280.length co72] 28 (0,0))) ∧ (w'.heap[s_.2.2.2]? = some (.cells #[.int .i64 0,.slice none 0 0] 28 (0,0))) ∧ (w.heap.size ≤ s_.2.2.2) ∧ (w.heap.size ≤ s_.2.2.2) ∧ (gb251 ≠ s_.2.2.2) ∧ (s_.2.2.2 ≠ gb251) ∧ (gb252 ≠ s_.2.2.2) ∧ (s_.2.2.2 ≠ gb252) ∧ (gb268 ≠ s_.2.2.2) ∧ (s_.2.2.2 ≠ gb268) ∧ (gb273 ≠ s_.2.2.2) ∧ (s_.2.2.2 ≠ gb273) ∧ (gb278 ≠ s_.2.2.2) ∧ (s_.2.2.2 ≠ gb278) ∧ (gb284 ≠ s_.2.2.2) ∧ (s_.2.2.2 ≠ gb284) ∧ (Below w.heap.size w w')) ?_ ?_
             rotate_left
             ·intro hCont
              refine two_ (i := 1) (j := 8) (Ni := some 96) (Nj := some 15) #[true,true,true,false,false,false,false,false,false,false,false] #[true,false,true,false,false,false,false,false,true,false,false] rfl rfl rfl rfl (two_of HT_.out (by kernel_rfl)) (by decide) (by decide) (fun K hK => ?_) (fun K hK => ?_)
              ·skip
               refine goes_ Try.func10 (by kernel_rfl) rfl #[.agg #[.int .i64 a0_0,.slice A0_1 l0_1.length c0_1]] (by rfl) rfl rfl (by (try simp only [List.map_toArray,List.map_cons,List.map_nil]);first|done|rfl) ?_
               with_reducible refine (laws_toAff.calls kj107 a0_0 _ _ l0_1 t304 t305 _ ?side1 ?side2 A162.out).mono ?_
               (case side1 => repeat (first|exact (Kd.C_below HR0_1.out HB.out)|(with_reducible refine cA ?_ _)|(with_reducible refine cN ?_ _)|(with_reducible refine cD ?_)))
               (case side2 => exact HC0_1.out)
               rintro e w176 ⟨v306,rfl,ho0,hb⟩
               refine ⟨_,rfl,?_⟩
               have n0_ := mk0 (Kd.R_elder' (by exact rX HO_269001.out) (Kd.R_base ho0) hb)
               have n1_ := mk0 (Kd.R_elder' (by exact rX HO_274001.out) (Kd.R_base ho0) hb)
               have n2_ := mk0 (Kd.R_elder' (by exact rX HO_279001.out) (Kd.R_base ho0) hb)
               have n3_ := mk0 (Kd.R_elder' (by exact rX HO_285001.out) (Kd.R_base ho0) hb)
               have n4_ := mk0 (Kd.R_lower (Kd.R_new' (Kd.R_new' (Kd.R_new' (Kd.R_new' ho0 (Kd.R_lt (by exact rX HO_269001.out))) (Kd.R_lt (by exact rX HO_274001.out))) (Kd.R_lt (by exact rX HO_279001.out))) (Kd.R_lt (by exact rX HO_285001.out))) (below_size (by repeat (first|(with_reducible first|exact HB.out|apply bA|apply bN|apply bD|refine bS ?_ GE251.out|refine bS ?_ GE252.out|refine bS ?_ GE268.out|refine bS ?_ GE273.out|refine bS ?_ GE278.out|refine bS ?_ GE284.out)|exact HB.out))))
               have n5_ := mk0 (blk_below (by exact kX BK251.out) hb)
               have n6_ := mk0 (blk_below (by exact kX BK252.out) hb)
               have n7_ := mk0 (blk_below (by exact kX BK268.out) hb)
               have n8_ := mk0 (blk_below (by exact kX BK273.out) hb)
               have n9_ := mk0 (blk_below (by exact kX BK278.out) hb)
               have n10_ := mk0 (blk_below (by exact kX BK284.out) hb)
               have n11_ := mk0 (below_step (by repeat (first|(with_reducible first|exact HB.out|apply bA|apply bN|apply bD|refine bS ?_ GE251.out|refine bS ?_ GE252.out|refine bS ?_ GE268.out|refine bS ?_ GE273.out|refine bS ?_ GE278.out|refine bS ?_ GE284.out)|exact HB.out)) hb)
               clear HO_269001
               clear HO_274001
               clear HO_279001
               clear HO_285001
               clear BK251
               clear BK252
               clear BK268
               clear BK273
               clear BK278
               clear BK284
               clear HB
               have HO_269001 := n0_
               have HO_274001 := n1_
               have HO_279001 := n2_
               have HO_285001 := n3_
               have HO307 := n4_
               have BK251 := n5_
               have BK252 := n6_
               have BK268 := n7_
               have BK273 := n8_
               have BK278 := n9_
               have BK284 := n10_
               have HB := n11_
               clear n0_ n1_ n2_ n3_ n4_ n5_ n6_ n7_ n8_ n9_ n10_ n11_
               (try clear hb)
               (try clear hb2)
               (try clear hk)
               (try clear hi)
               (try clear ho0)
               refine hK.out _ _ ⟨(blk_cell BK251.out 0).trans rfl,(blk_cell BK251.out 1).trans rfl,(blk_cell BK252.out 0).trans rfl,(blk_cell BK252.out 1).trans rfl⟩ (fun hHeld => ?_)
               clear hK K
               refine norm_ (a' := ?_) ?_ ?_
               rotate_left
               ·show Act.put _ (some 96) _ = _
                simp only [Act.put,List.setIfInBounds_toArray,List.set_cons_zero,List.set_cons_succ,i64_w,i32_w]
                rfl
               refine two_ (i := 3) (j := 8) (Ni := some 98) (Nj := some 15) #[true,true,true,true,false,false,false,false,false,false,false] #[true,true,true,false,false,false,false,false,true,false,false] rfl rfl rfl rfl (two_of HT_.out (by kernel_rfl)) (by decide) (by decide) (fun K hK => ?_) (fun K hK => ?_)
               ·skip
                refine goes_ Try.func10 (by kernel_rfl) rfl #[.agg #[.int .i64 a1_0,.slice A1_1 l1_1.length c1_1]] (by rfl) rfl rfl (by (try simp only [List.map_toArray,List.map_cons,List.map_nil]);first|done|rfl) ?_
                with_reducible refine (laws_toAff.calls kj107 a1_0 _ _ l1_1 t308 t309 _ ?side1 ?side2 A163.out).mono ?_
                (case side1 => repeat (first|exact (Kd.C_below HR1_1.out HB.out)|(with_reducible refine cA ?_ _)|(with_reducible refine cN ?_ _)|(with_reducible refine cD ?_)))
                (case side2 => exact HC1_1.out)
                rintro e w177 ⟨v310,rfl,ho0,hb⟩
                refine ⟨_,rfl,?_⟩
                have n0_ := mk0 (Kd.R_elder' (by exact rX HO_269001.out) (Kd.R_base ho0) hb)
                have n1_ := mk0 (Kd.R_elder' (by exact rX HO_274001.out) (Kd.R_base ho0) hb)
                have n2_ := mk0 (Kd.R_elder' (by exact rX HO_279001.out) (Kd.R_base ho0) hb)
                have n3_ := mk0 (Kd.R_elder' (by exact rX HO_285001.out) (Kd.R_base ho0) hb)
                have n4_ := mk0 (Kd.R_elder' (by exact rX HO307.out) (Kd.R_base ho0) hb)
                have n5_ := mk0 (Kd.R_lower (Kd.R_new' (Kd.R_new' (Kd.R_new' (Kd.R_new' (Kd.R_new' ho0 (Kd.R_lt (by exact rX HO_269001.out))) (Kd.R_lt (by exact rX HO_274001.out))) (Kd.R_lt (by exact rX HO_279001.out))) (Kd.R_lt (by exact rX HO_285001.out))) (Kd.R_lt (by exact rX HO307.out))) (below_size (by repeat (first|(with_reducible first|exact HB.out|apply bA|apply bN|apply bD|refine bS ?_ GE251.out|refine bS ?_ GE252.out|refine bS ?_ GE268.out|refine bS ?_ GE273.out|refine bS ?_ GE278.out|refine bS ?_ GE284.out)|exact HB.out))))
                have n6_ := mk0 (blk_below (by exact kX BK251.out) hb)
                have n7_ := mk0 (blk_below (by exact kX BK252.out) hb)
                have n8_ := mk0 (blk_below (by exact kX BK268.out) hb)
                have n9_ := mk0 (blk_below (by exact kX BK273.out) hb)
                have n10_ := mk0 (blk_below (by exact kX BK278.out) hb)
                have n11_ := mk0 (blk_below (by exact kX BK284.out) hb)
                have n12_ := mk0 (below_step (by repeat (first|(with_reducible first|exact HB.out|apply bA|apply bN|apply bD|refine bS ?_ GE251.out|refine bS ?_ GE252.out|refine bS ?_ GE268.out|refine bS ?_ GE273.out|refine bS ?_ GE278.out|refine bS ?_ GE284.out)|exact HB.out)) hb)
                clear HO_269001
                clear HO_274001
                clear HO_279001
                clear HO_285001
                clear HO307
                clear BK251
                clear BK252
                clear BK268
                clear BK273
                clear BK278
                clear BK284
                clear HB
                have HO_269001 := n0_
                have HO_274001 := n1_
                have HO_279001 := n2_
                have HO_285001 := n3_
                have HO307 := n4_
                have HO311 := n5_
                have BK251 := n6_
                have BK252 := n7_
                have BK268 := n8_
                have BK273 := n9_
                have BK278 := n10_
                have BK284 := n11_
                have HB := n12_
                clear n0_ n1_ n2_ n3_ n4_ n5_ n6_ n7_ n8_ n9_ n10_ n11_ n12_
                (try clear hb)
                (try clear hb2)
                (try clear hk)
                (try clear hi)
                (try clear ho0)
                obtain ⟨Ao178,co178,eo178⟩ := Kd.R_slice HO307.out
                (first|subst eo178|(injection eo178 with f1_ f2_ f3_;have f4_ := f1_.symm;have f5_ := f3_.symm;clear f1_ f2_ f3_;subst f4_;subst f5_))
                obtain ⟨Ao179,co179,eo179⟩ := Kd.R_slice HO311.out
                (first|subst eo179|(injection eo179 with f1_ f2_ f3_;have f4_ := f1_.symm;have f5_ := f3_.symm;clear f1_ f2_ f3_;subst f4_;subst f5_))
                refine hK.out _ _ ⟨(blk_cell BK251.out 0).trans rfl,(blk_cell BK251.out 1).trans rfl,(blk_cell BK252.out 0).trans rfl,(blk_cell BK252.out 1).trans rfl⟩ (fun hHeld => ?_)
                clear hK K
                refine norm_ (a' := ?_) ?_ ?_
                rotate_left
                ·show Act.put _ (some 98) _ = _
                 simp only [Act.put,List.setIfInBounds_toArray,List.set_cons_zero,List.set_cons_succ,i64_w,i32_w]
                 rfl
                refine two_ (i := 4) (j := 8) (Ni := some 99) (Nj := some 15) #[true,true,true,true,true,false,false,false,false,false,false] #[true,true,true,true,false,false,false,false,true,false,false] rfl rfl rfl rfl (two_of HT_.out (by kernel_rfl)) (by decide) (by decide) (fun K hK => ?_) (fun K hK => ?_)
                ·skip
                 refine goes_ Try.func16 (by kernel_rfl) rfl #[.agg #[.int .i64 t304,.slice Ao178 t305.length co178],.agg #[.int .i64 t308,.slice Ao179 t309.length co179]] (by rfl) rfl rfl (by (try simp only [List.map_toArray,List.map_cons,List.map_nil]);first|done|rfl) ?_
                 with_reducible refine (impl_SubA.calls kj107 t304 _ _ t305 t308 _ _ t309 t312 t313 t316 _ ?side1 ?side2 ?side3 ?side4 A164.out).mono ?_
                 (case side1 => repeat (first|exact (Kd.R_reads' HO307.out).2.2|(with_reducible refine cA ?_ _)|(with_reducible refine cN ?_ _)|(with_reducible refine cD ?_)))
                 (case side2 => exact (Kd.R_reads' HO307.out).2.1)
                 (case side3 => repeat (first|exact (Kd.R_reads' HO311.out).2.2|(with_reducible refine cA ?_ _)|(with_reducible refine cN ?_ _)|(with_reducible refine cD ?_)))
                 (case side4 => exact (Kd.R_reads' HO311.out).2.1)
                 rintro e w180 ⟨v314,rfl,ho0,hb⟩
                 refine ⟨_,rfl,?_⟩
                 have n0_ := mk0 (Kd.R_elder' (by exact rX HO_269001.out) (Kd.R_base ho0) hb)
                 have n1_ := mk0 (Kd.R_elder' (by exact rX HO_274001.out) (Kd.R_base ho0) hb)
                 have n2_ := mk0 (Kd.R_elder' (by exact rX HO_279001.out) (Kd.R_base ho0) hb)
                 have n3_ := mk0 (Kd.R_elder' (by exact rX HO_285001.out) (Kd.R_base ho0) hb)
                 have n4_ := mk0 (Kd.R_elder' (by exact rX HO307.out) (Kd.R_base ho0) hb)
                 have n5_ := mk0 (Kd.R_elder' (by exact rX HO311.out) (Kd.R_base ho0) hb)
                 have n6_ := mk0 (Kd.R_lower (Kd.R_new' (Kd.R_new' (Kd.R_new' (Kd.R_new' (Kd.R_new' (Kd.R_new' ho0 (Kd.R_lt (by exact rX HO_269001.out))) (Kd.R_lt (by exact rX HO_274001.out))) (Kd.R_lt (by exact rX HO_279001.out))) (Kd.R_lt (by exact rX HO_285001.out))) (Kd.R_lt (by exact rX HO307.out))) (Kd.R_lt (by exact rX HO311.out))) (below_size (by repeat (first|(with_reducible first|exact HB.out|apply bA|apply bN|apply bD|refine bS ?_ GE251.out|refine bS ?_ GE252.out|refine bS ?_ GE268.out|refine bS ?_ GE273.out|refine bS ?_ GE278.out|refine bS ?_ GE284.out)|exact HB.out))))
                 have n7_ := mk0 (blk_below (by exact kX BK251.out) hb)
                 have n8_ := mk0 (blk_below (by exact kX BK252.out) hb)
                 have n9_ := mk0 (blk_below (by exact kX BK268.out) hb)
                 have n10_ := mk0 (blk_below (by exact kX BK273.out) hb)
                 have n11_ := mk0 (blk_below (by exact kX BK278.out) hb)
                 have n12_ := mk0 (blk_below (by exact kX BK284.out) hb)
                 have n13_ := mk0 (below_step (by repeat (first|(with_reducible first|exact HB.out|apply bA|apply bN|apply bD|refine bS ?_ GE251.out|refine bS ?_ GE252.out|refine bS ?_ GE268.out|refine bS ?_ GE273.out|refine bS ?_ GE278.out|refine bS ?_ GE284.out)|exact HB.out)) hb)
                 clear HO_269001
                 clear HO_274001
                 clear HO_279001
                 clear HO_285001
                 clear HO307
                 clear HO311
                 clear BK251
                 clear BK252
                 clear BK268
                 clear BK273
                 clear BK278
                 clear BK284
                 clear HB
                 have HO_269001 := n0_
                 have HO_274001 := n1_
                 have HO_279001 := n2_
                 have HO_285001 := n3_
                 have HO307 := n4_
                 have HO311 := n5_
                 have HO315 := n6_
                 have BK251 := n7_
                 have BK252 := n8_
                 have BK268 := n9_
                 have BK273 := n10_
                 have BK278 := n11_
                 have BK284 := n12_
                 have HB := n13_
                 clear n0_ n1_ n2_ n3_ n4_ n5_ n6_ n7_ n8_ n9_ n10_ n11_ n12_ n13_
                 (try clear hb)
                 (try clear hb2)
                 (try clear hk)
                 (try clear hi)
                 (try clear ho0)
                 refine hK.out _ _ ⟨(blk_cell BK251.out 0).trans rfl,(blk_cell BK251.out 1).trans rfl,(blk_cell BK252.out 0).trans rfl,(blk_cell BK252.out 1).trans rfl⟩ (fun hHeld => ?_)
                 clear hK K
                 refine norm_ (a' := ?_) ?_ ?_
                 rotate_left
                 ·show Act.put _ (some 99) _ = _
                  simp only [Act.put,List.setIfInBounds_toArray,List.set_cons_zero,List.set_cons_succ,i64_w,i32_w]
                  rfl
                 refine pure_ (i := 5) (N := some 94) (v := ?_) (a' := ?_) #[true,true,true,true,true,true,false,false,false,false,false] rfl rfl (any_of HT_.out (by kernel_rfl)) (fun _ _ _ h => h) (Or.inl ⟨by rfl,?_⟩) ?_ ?_
                 rotate_left
                 ·intro w'
                  go_simp
                  with_reducible rfl
                 rotate_left
                 ·simp only [Act.put,List.setIfInBounds_toArray,List.set_cons_zero,List.set_cons_succ,i64_w,i32_w]
                  rfl
                 refine pure_ (i := 6) (N := some 100) (v := ?_) (a' := ?_) #[true,true,true,true,true,true,true,false,false,false,false] rfl rfl (any_of HT_.out (by kernel_rfl)) (fun _ _ _ h => h) (Or.inl ⟨by rfl,?_⟩) ?_ ?_
                 rotate_left
                 ·intro w'
                  go_simp
                  with_reducible rfl
                 rotate_left
                 ·simp only [Act.put,List.setIfInBounds_toArray,List.set_cons_zero,List.set_cons_succ,i64_w,i32_w]
                  rfl
                 refine pure_ (i := 7) (N := some 101) (v := ?_) (a' := ?_) #[true,true,true,true,true,true,true,true,false,false,false] rfl rfl (any_of HT_.out (by kernel_rfl)) (fun _ _ _ h => h) (Or.inl ⟨by rfl,?_⟩) ?_ ?_
                 rotate_left
                 ·intro w'
                  go_simp
                  with_reducible rfl
                 rotate_left
                 ·simp only [Act.put,List.setIfInBounds_toArray,List.set_cons_zero,List.set_cons_succ,i64_w,i32_w]
                  rfl
                 refine one_ (i := 8) (N := some 15) #[true,true,true,true,true,true,true,true,true,false,false] rfl rfl (one_of HT_.out (by kernel_rfl)) (by decide) (fun K hK => ?_)
                 refine box_step ?hg (N := 15) ?hd (cs := #[.int .i64 0,.slice none 0 0]) (t := 28) ?hr ?_;(case hd => rfl);(case hg => rfl);(case hr => first|(go_simp;done)|(go_simp;rfl))
                 intro gb317 hg w181 hbox hb
                 have n0_ := mk0 (Kd.R_below (by exact rX HO_269001.out) hb)
                 have n1_ := mk0 (Kd.R_below (by exact rX HO_274001.out) hb)
                 have n2_ := mk0 (Kd.R_below (by exact rX HO_279001.out) hb)
                 have n3_ := mk0 (Kd.R_below (by exact rX HO_285001.out) hb)
                 have n4_ := mk0 (Kd.R_below (by exact rX HO307.out) hb)
                 have n5_ := mk0 (Kd.R_below (by exact rX HO311.out) hb)
                 have n6_ := mk0 (Kd.R_below (by exact rX HO315.out) hb)
                 have n7_ := mk0 (blk_below (by exact kX BK251.out) hb)
                 have n8_ := mk0 (blk_below (by exact kX BK252.out) hb)
                 have n9_ := mk0 (blk_below (by exact kX BK268.out) hb)
                 have n10_ := mk0 (blk_below (by exact kX BK273.out) hb)
                 have n11_ := mk0 (blk_below (by exact kX BK278.out) hb)
                 have n12_ := mk0 (blk_below (by exact kX BK284.out) hb)
                 have n13_ := mk0 (below_step (by repeat (first|(with_reducible first|exact HB.out|apply bA|apply bN|apply bD|refine bS ?_ GE251.out|refine bS ?_ GE252.out|refine bS ?_ GE268.out|refine bS ?_ GE273.out|refine bS ?_ GE278.out|refine bS ?_ GE284.out)|exact HB.out)) hb)
                 have n14_ := mk0 (hbox)
                 have n15_ := mk0 ((by rw [hg];exact (below_size (by repeat (first|(with_reducible first|exact HB.out|apply bA|apply bN|apply bD|refine bS ?_ GE251.out|refine bS ?_ GE252.out|refine bS ?_ GE268.out|refine bS ?_ GE273.out|refine bS ?_ GE278.out|refine bS ?_ GE284.out)|exact HB.out))) : w.heap.size ≤ gb317))
                 have n16_ := mk0 ((by rw [hg];exact (below_size (by repeat (first|(with_reducible first|exact HB.out|apply bA|apply bN|apply bD|refine bS ?_ GE251.out|refine bS ?_ GE252.out|refine bS ?_ GE268.out|refine bS ?_ GE273.out|refine bS ?_ GE278.out|refine bS ?_ GE284.out)|exact HB.out))) : w.heap.size ≤ gb317))
                 have n17_ := mk0 ((by rw [hg];exact Nat.ne_of_lt (blk_lt (by exact kX BK251.out)) : gb251 ≠ gb317))
                 have n18_ := mk0 ((by rw [hg];exact Nat.ne_of_gt (blk_lt (by exact kX BK251.out)) : gb317 ≠ gb251))
                 have n19_ := mk0 ((by rw [hg];exact Nat.ne_of_lt (blk_lt (by exact kX BK252.out)) : gb252 ≠ gb317))
                 have n20_ := mk0 ((by rw [hg];exact Nat.ne_of_gt (blk_lt (by exact kX BK252.out)) : gb317 ≠ gb252))
                 have n21_ := mk0 ((by rw [hg];exact Nat.ne_of_lt (blk_lt (by exact kX BK268.out)) : gb268 ≠ gb317))
                 have n22_ := mk0 ((by rw [hg];exact Nat.ne_of_gt (blk_lt (by exact kX BK268.out)) : gb317 ≠ gb268))
                 have n23_ := mk0 ((by rw [hg];exact Nat.ne_of_lt (blk_lt (by exact kX BK273.out)) : gb273 ≠ gb317))
                 have n24_ := mk0 ((by rw [hg];exact Nat.ne_of_gt (blk_lt (by exact kX BK273.out)) : gb317 ≠ gb273))
                 have n25_ := mk0 ((by rw [hg];exact Nat.ne_of_lt (blk_lt (by exact kX BK278.out)) : gb278 ≠ gb317))
                 have n26_ := mk0 ((by rw [hg];exact Nat.ne_of_gt (blk_lt (by exact kX BK278.out)) : gb317 ≠ gb278))
                 have n27_ := mk0 ((by rw [hg];exact Nat.ne_of_lt (blk_lt (by exact kX BK284.out)) : gb284 ≠ gb317))
                 have n28_ := mk0 ((by rw [hg];exact Nat.ne_of_gt (blk_lt (by exact kX BK284.out)) : gb317 ≠ gb284))
                 clear HO_269001
                 clear HO_274001
                 clear HO_279001
                 clear HO_285001
                 clear HO307
                 clear HO311
                 clear HO315
                 clear BK251
                 clear BK252
                 clear BK268
                 clear BK273
                 clear BK278
                 clear BK284
                 clear HB
                 have HO_269001 := n0_
                 have HO_274001 := n1_
                 have HO_279001 := n2_
                 have HO_285001 := n3_
                 have HO307 := n4_
                 have HO311 := n5_
                 have HO315 := n6_
                 have BK251 := n7_
                 have BK252 := n8_
                 have BK268 := n9_
                 have BK273 := n10_
                 have BK278 := n11_
                 have BK284 := n12_
                 have HB := n13_
                 have BK317 := n14_
                 have GW317 := n15_
                 have GE317 := n16_
                 have NB251_317 := n17_
                 have NB317_251 := n18_
                 have NB252_317 := n19_
                 have NB317_252 := n20_
                 have NB268_317 := n21_
                 have NB317_268 := n22_
                 have NB273_317 := n23_
                 have NB317_273 := n24_
                 have NB278_317 := n25_
                 have NB317_278 := n26_
                 have NB284_317 := n27_
                 have NB317_284 := n28_
                 clear n0_ n1_ n2_ n3_ n4_ n5_ n6_ n7_ n8_ n9_ n10_ n11_ n12_ n13_ n14_ n15_ n16_ n17_ n18_ n19_ n20_ n21_ n22_ n23_ n24_ n25_ n26_ n27_ n28_
                 clear hb hbox hg
                 refine hK.out _ _ ⟨(blk_cell BK251.out 0).trans rfl,(blk_cell BK251.out 1).trans rfl,(blk_cell BK252.out 0).trans rfl,(blk_cell BK252.out 1).trans rfl⟩ (fun hHeld => ?_)
                 clear hK K
                 refine norm_ (a' := ?_) ?_ ?_
                 rotate_left
                 ·show Act.put _ (some 15) _ = _
                  simp only [Act.put,List.setIfInBounds_toArray,List.set_cons_zero,List.set_cons_succ,i64_w,i32_w]
                  rfl
                 exact norm_ (by simp only [putAll,Act.put,List.setIfInBounds_toArray,List.set_cons_zero,List.set_cons_succ]) (hCont (.slice Ao178 t305.length co178,.slice Ao179 t309.length co179,v314,gb317) _ ⟨hHeld,(by refine rX ?_;exact Kd.R_mono HO307.out (fun _ hk => ⟨hk.1.2,⟨hk.2,⟨hk.1.1.1.1.1.2,⟨hk.1.1.1.1.2,⟨hk.1.1.1.2,hk.1.1.2⟩⟩⟩⟩⟩)),(by refine rX ?_;exact Kd.R_mono HO311.out (fun _ hk => ⟨hk.1.2,⟨hk.2,⟨hk.1.1.1.1.1.2,⟨hk.1.1.1.1.2,⟨hk.1.1.1.2,hk.1.1.2⟩⟩⟩⟩⟩)),(by refine rX ?_;exact Kd.R_mono HO315.out (fun _ hk => ⟨hk.1.2,⟨hk.2,⟨hk.1.1.1.1.1.2,⟨hk.1.1.1.1.2,⟨hk.1.1.1.2,hk.1.1.2⟩⟩⟩⟩⟩)),(by refine rX ?_;exact Kd.R_mono HO_269001.out (fun _ hk => ⟨hk.1.1.2,⟨hk.1.2,⟨hk.2,⟨hk.1.1.1.1,⟨hk.1.1.1.2.1,hk.1.1.1.2.2⟩⟩⟩⟩⟩)),(by refine rX ?_;exact Kd.R_mono HO_274001.out (fun _ hk => ⟨hk.1.1.2,⟨hk.1.2,⟨hk.2,⟨hk.1.1.1.1,⟨hk.1.1.1.2.1,hk.1.1.1.2.2⟩⟩⟩⟩⟩)),(by refine rX ?_;exact Kd.R_mono HO_279001.out (fun _ hk => ⟨hk.1.1.2,⟨hk.1.2,⟨hk.2,⟨hk.1.1.1.1,⟨hk.1.1.1.2.1,hk.1.1.1.2.2⟩⟩⟩⟩⟩)),(by refine rX ?_;exact Kd.R_mono HO_285001.out (fun _ hk => ⟨hk.1.1.2,⟨hk.1.2,⟨hk.2,⟨hk.1.1.1.1,⟨hk.1.1.1.2.1,hk.1.1.1.2.2⟩⟩⟩⟩⟩)),(by exact kX BK251.out),(by exact kX BK252.out),(by exact kX BK268.out),(by exact kX BK273.out),(by exact kX BK278.out),(by exact kX BK284.out),(by exact kX BK317.out),GW317.out,GE317.out,NB251_317.out,NB317_251.out,NB252_317.out,NB317_252.out,NB268_317.out,NB317_268.out,NB273_317.out,NB317_273.out,NB278_317.out,NB317_278.out,NB284_317.out,NB317_284.out,(by repeat (first|(with_reducible first|exact HB.out|apply bA|apply bN|apply bD|refine bS ?_ GE251.out|refine bS ?_ GE252.out|refine bS ?_ GE268.out|refine bS ?_ GE273.out|refine bS ?_ GE278.out|refine bS ?_ GE284.out|refine bS ?_ GE317.out)|exact HB.out))⟩)
                ·skip
                 refine box_step ?hg (N := 15) ?hd (cs := #[.int .i64 0,.slice none 0 0]) (t := 28) ?hr ?_;(case hd => rfl);(case hg => rfl);(case hr => first|(go_simp;done)|(go_simp;rfl))
                 intro gb317 hg w178 hbox hb
                 have n0_ := mk0 (Kd.R_below (by exact rX HO_269001.out) hb)
                 have n1_ := mk0 (Kd.R_below (by exact rX HO_274001.out) hb)
                 have n2_ := mk0 (Kd.R_below (by exact rX HO_279001.out) hb)
                 have n3_ := mk0 (Kd.R_below (by exact rX HO_285001.out) hb)
                 have n4_ := mk0 (Kd.R_below (by exact rX HO307.out) hb)
                 have n5_ := mk0 (Kd.R_below (by exact rX HO311.out) hb)
                 have n6_ := mk0 (blk_below (by exact kX BK251.out) hb)
                 have n7_ := mk0 (blk_below (by exact kX BK252.out) hb)
                 have n8_ := mk0 (blk_below (by exact kX BK268.out) hb)
                 have n9_ := mk0 (blk_below (by exact kX BK273.out) hb)
                 have n10_ := mk0 (blk_below (by exact kX BK278.out) hb)
                 have n11_ := mk0 (blk_below (by exact kX BK284.out) hb)
                 have n12_ := mk0 (below_step (by repeat (first|(with_reducible first|exact HB.out|apply bA|apply bN|apply bD|refine bS ?_ GE251.out|refine bS ?_ GE252.out|refine bS ?_ GE268.out|refine bS ?_ GE273.out|refine bS ?_ GE278.out|refine bS ?_ GE284.out)|exact HB.out)) hb)
                 have n13_ := mk0 (hbox)
                 have n14_ := mk0 ((by rw [hg];exact (below_size (by repeat (first|(with_reducible first|exact HB.out|apply bA|apply bN|apply bD|refine bS ?_ GE251.out|refine bS ?_ GE252.out|refine bS ?_ GE268.out|refine bS ?_ GE273.out|refine bS ?_ GE278.out|refine bS ?_ GE284.out)|exact HB.out))) : w.heap.size ≤ gb317))
                 have n15_ := mk0 ((by rw [hg];exact (below_size (by repeat (first|(with_reducible first|exact HB.out|apply bA|apply bN|apply bD|refine bS ?_ GE251.out|refine bS ?_ GE252.out|refine bS ?_ GE268.out|refine bS ?_ GE273.out|refine bS ?_ GE278.out|refine bS ?_ GE284.out)|exact HB.out))) : w.heap.size ≤ gb317))
                 have n16_ := mk0 ((by rw [hg];exact Nat.ne_of_lt (blk_lt (by exact kX BK251.out)) : gb251 ≠ gb317))
                 have n17_ := mk0 ((by rw [hg];exact Nat.ne_of_gt (blk_lt (by exact kX BK251.out)) : gb317 ≠ gb251))
                 have n18_ := mk0 ((by rw [hg];exact Nat.ne_of_lt (blk_lt (by exact kX BK252.out)) : gb252 ≠ gb317))
                 have n19_ := mk0 ((by rw [hg];exact Nat.ne_of_gt (blk_lt (by exact kX BK252.out)) : gb317 ≠ gb252))
                 have n20_ := mk0 ((by rw [hg];exact Nat.ne_of_lt (blk_lt (by exact kX BK268.out)) : gb268 ≠ gb317))
                 have n21_ := mk0 ((by rw [hg];exact Nat.ne_of_gt (blk_lt (by exact kX BK268.out)) : gb317 ≠ gb268))
                 have n22_ := mk0 ((by rw [hg];exact Nat.ne_of_lt (blk_lt (by exact kX BK273.out)) : gb273 ≠ gb317))
                 have n23_ := mk0 ((by rw [hg];exact Nat.ne_of_gt (blk_lt (by exact kX BK273.out)) : gb317 ≠ gb273))
                 have n24_ := mk0 ((by rw [hg];exact Nat.ne_of_lt (blk_lt (by exact kX BK278.out)) : gb278 ≠ gb317))
                 have n25_ := mk0 ((by rw [hg];exact Nat.ne_of_gt (blk_lt (by exact kX BK278.out)) : gb317 ≠ gb278))
                 have n26_ := mk0 ((by rw [hg];exact Nat.ne_of_lt (blk_lt (by exact kX BK284.out)) : gb284 ≠ gb317))
                 have n27_ := mk0 ((by rw [hg];exact Nat.ne_of_gt (blk_lt (by exact kX BK284.out)) : gb317 ≠ gb284))
                 clear HO_269001
                 clear HO_274001
                 clear HO_279001
                 clear HO_285001
                 clear HO307
                 clear HO311
                 clear BK251
                 clear BK252
                 clear BK268
                 clear BK273
                 clear BK278
                 clear BK284
                 clear HB
                 have HO_269001 := n0_
                 have HO_274001 := n1_
                 have HO_279001 := n2_
                 have HO_285001 := n3_
                 have HO307 := n4_
                 have HO311 := n5_
                 have BK251 := n6_
                 have BK252 := n7_
                 have BK268 := n8_
                 have BK273 := n9_
                 have BK278 := n10_
                 have BK284 := n11_
                 have HB := n12_
                 have BK317 := n13_
                 have GW317 := n14_
                 have GE317 := n15_
                 have NB251_317 := n16_
                 have NB317_251 := n17_
                 have NB252_317 := n18_
                 have NB317_252 := n19_
                 have NB268_317 := n20_
                 have NB317_268 := n21_
                 have NB273_317 := n22_
                 have NB317_273 := n23_
                 have NB278_317 := n24_
                 have NB317_278 := n25_
                 have NB284_317 := n26_
                 have NB317_284 := n27_
                 clear n0_ n1_ n2_ n3_ n4_ n5_ n6_ n7_ n8_ n9_ n10_ n11_ n12_ n13_ n14_ n15_ n16_ n17_ n18_ n19_ n20_ n21_ n22_ n23_ n24_ n25_ n26_ n27_
                 clear hb hbox hg
                 obtain ⟨Ao179,co179,eo179⟩ := Kd.R_slice HO307.out
                 (first|subst eo179|(injection eo179 with f1_ f2_ f3_;have f4_ := f1_.symm;have f5_ := f3_.symm;clear f1_ f2_ f3_;subst f4_;subst f5_))
                 obtain ⟨Ao180,co180,eo180⟩ := Kd.R_slice HO311.out
                 (first|subst eo180|(injection eo180 with f1_ f2_ f3_;have f4_ := f1_.symm;have f5_ := f3_.symm;clear f1_ f2_ f3_;subst f4_;subst f5_))
                 refine hK.out _ _ ⟨(blk_cell BK251.out 0).trans rfl,(blk_cell BK251.out 1).trans rfl,(blk_cell BK252.out 0).trans rfl,(blk_cell BK252.out 1).trans rfl⟩ (fun hHeld => ?_)
                 clear hK K
                 refine norm_ (a' := ?_) ?_ ?_
                 rotate_left
                 ·show Act.put _ (some 15) _ = _
                  simp only [Act.put,List.setIfInBounds_toArray,List.set_cons_zero,List.set_cons_succ,i64_w,i32_w]
                  rfl
                 refine one_ (i := 4) (N := some 99) #[true,true,true,true,true,false,false,false,true,false,false] rfl rfl (one_of HT_.out (by kernel_rfl)) (by decide) (fun K hK => ?_)
                 refine goes_ Try.func16 (by kernel_rfl) rfl #[.agg #[.int .i64 t304,.slice Ao179 t305.length co179],.agg #[.int .i64 t308,.slice Ao180 t309.length co180]] (by rfl) rfl rfl (by (try simp only [List.map_toArray,List.map_cons,List.map_nil]);first|done|rfl) ?_
                 with_reducible refine (impl_SubA.calls kj107 t304 _ _ t305 t308 _ _ t309 t312 t313 t316 _ ?side1 ?side2 ?side3 ?side4 A164.out).mono ?_
                 (case side1 => repeat (first|exact (Kd.R_reads' HO307.out).2.2|(with_reducible refine cA ?_ _)|(with_reducible refine cN ?_ _)|(with_reducible refine cD ?_)))
                 (case side2 => exact (Kd.R_reads' HO307.out).2.1)
                 (case side3 => repeat (first|exact (Kd.R_reads' HO311.out).2.2|(with_reducible refine cA ?_ _)|(with_reducible refine cN ?_ _)|(with_reducible refine cD ?_)))
                 (case side4 => exact (Kd.R_reads' HO311.out).2.1)
                 rintro e w181 ⟨v314,rfl,ho0,hb⟩
                 refine ⟨_,rfl,?_⟩
                 have n0_ := mk0 (Kd.R_elder' (by exact rX HO_269001.out) (Kd.R_base ho0) hb)
                 have n1_ := mk0 (Kd.R_elder' (by exact rX HO_274001.out) (Kd.R_base ho0) hb)
                 have n2_ := mk0 (Kd.R_elder' (by exact rX HO_279001.out) (Kd.R_base ho0) hb)
                 have n3_ := mk0 (Kd.R_elder' (by exact rX HO_285001.out) (Kd.R_base ho0) hb)
                 have n4_ := mk0 (Kd.R_elder' (by exact rX HO307.out) (Kd.R_base ho0) hb)
                 have n5_ := mk0 (Kd.R_elder' (by exact rX HO311.out) (Kd.R_base ho0) hb)
                 have n6_ := mk0 (Kd.R_lower (Kd.R_new' (Kd.R_new' (Kd.R_new' (Kd.R_new' (Kd.R_new' (Kd.R_new' ho0 (Kd.R_lt (by exact rX HO_269001.out))) (Kd.R_lt (by exact rX HO_274001.out))) (Kd.R_lt (by exact rX HO_279001.out))) (Kd.R_lt (by exact rX HO_285001.out))) (Kd.R_lt (by exact rX HO307.out))) (Kd.R_lt (by exact rX HO311.out))) (below_size (by repeat (first|(with_reducible first|exact HB.out|apply bA|apply bN|apply bD|refine bS ?_ GE251.out|refine bS ?_ GE252.out|refine bS ?_ GE268.out|refine bS ?_ GE273.out|refine bS ?_ GE278.out|refine bS ?_ GE284.out|refine bS ?_ GE317.out)|exact HB.out))))
                 have n7_ := mk0 (blk_below (by exact kX BK251.out) hb)
                 have n8_ := mk0 (blk_below (by exact kX BK252.out) hb)
                 have n9_ := mk0 (blk_below (by exact kX BK268.out) hb)
                 have n10_ := mk0 (blk_below (by exact kX BK273.out) hb)
                 have n11_ := mk0 (blk_below (by exact kX BK278.out) hb)
                 have n12_ := mk0 (blk_below (by exact kX BK284.out) hb)
                 have n13_ := mk0 (blk_below (by exact kX BK317.out) hb)
                 have n14_ := mk0 (below_step (by repeat (first|(with_reducible first|exact HB.out|apply bA|apply bN|apply bD|refine bS ?_ GE251.out|refine bS ?_ GE252.out|refine bS ?_ GE268.out|refine bS ?_ GE273.out|refine bS ?_ GE278.out|refine bS ?_ GE284.out|refine bS ?_ GE317.out)|exact HB.out)) hb)
                 clear HO_269001
                 clear HO_274001
                 clear HO_279001
                 clear HO_285001
                 clear HO307
                 clear HO311
                 clear BK251
                 clear BK252
                 clear BK268
                 clear BK273
                 clear BK278
                 clear BK284
                 clear BK317
                 clear HB
                 have HO_269001 := n0_
                 have HO_274001 := n1_
                 have HO_279001 := n2_
                 have HO_285001 := n3_
                 have HO307 := n4_
                 have HO311 := n5_
                 have HO315 := n6_
                 have BK251 := n7_
                 have BK252 := n8_
                 have BK268 := n9_
                 have BK273 := n10_
                 have BK278 := n11_
                 have BK284 := n12_
                 have BK317 := n13_
                 have HB := n14_
                 clear n0_ n1_ n2_ n3_ n4_ n5_ n6_ n7_ n8_ n9_ n10_ n11_ n12_ n13_ n14_
                 (try clear hb)
                 (try clear hb2)
                 (try clear hk)
                 (try clear hi)
                 (try clear ho0)
                 refine hK.out _ _ ⟨(blk_cell BK251.out 0).trans rfl,(blk_cell BK251.out 1).trans rfl,(blk_cell BK252.out 0).trans rfl,(blk_cell BK252.out 1).trans rfl⟩ (fun hHeld => ?_)
                 clear hK K
                 refine norm_ (a' := ?_) ?_ ?_
                 rotate_left
                 ·show Act.put _ (some 99) _ = _
                  simp only [Act.put,List.setIfInBounds_toArray,List.set_cons_zero,List.set_cons_succ,i64_w,i32_w]
                  rfl
                 refine pure_ (i := 5) (N := some 94) (v := ?_) (a' := ?_) #[true,true,true,true,true,true,false,false,true,false,false] rfl rfl (any_of HT_.out (by kernel_rfl)) (fun _ _ _ h => h) (Or.inl ⟨by rfl,?_⟩) ?_ ?_
                 rotate_left
                 ·intro w'
                  go_simp
                  with_reducible rfl
                 rotate_left
                 ·simp only [Act.put,List.setIfInBounds_toArray,List.set_cons_zero,List.set_cons_succ,i64_w,i32_w]
                  rfl
                 refine pure_ (i := 6) (N := some 100) (v := ?_) (a' := ?_) #[true,true,true,true,true,true,true,false,true,false,false] rfl rfl (any_of HT_.out (by kernel_rfl)) (fun _ _ _ h => h) (Or.inl ⟨by rfl,?_⟩) ?_ ?_
                 rotate_left
                 ·intro w'
                  go_simp
                  with_reducible rfl
                 rotate_left
                 ·simp only [Act.put,List.setIfInBounds_toArray,List.set_cons_zero,List.set_cons_succ,i64_w,i32_w]
                  rfl
                 refine pure_ (i := 7) (N := some 101) (v := ?_) (a' := ?_) #[true,true,true,true,true,true,true,true,true,false,false] rfl rfl (any_of HT_.out (by kernel_rfl)) (fun _ _ _ h => h) (Or.inl ⟨by rfl,?_⟩) ?_ ?_
                 rotate_left
                 ·intro w'
                  go_simp
                  with_reducible rfl
                 rotate_left
                 ·simp only [Act.put,List.setIfInBounds_toArray,List.set_cons_zero,List.set_cons_succ,i64_w,i32_w]
                  rfl
                 exact norm_ (by simp only [putAll,Act.put,List.setIfInBounds_toArray,List.set_cons_zero,List.set_cons_succ]) (hCont (.slice Ao179 t305.length co179,.slice Ao180 t309.length co180,v314,gb317) _ ⟨hHeld,(by refine rX ?_;exact Kd.R_mono HO307.out (fun _ hk => ⟨hk.1.2,⟨hk.2,⟨hk.1.1.1.1.1.2,⟨hk.1.1.1.1.2,⟨hk.1.1.1.2,hk.1.1.2⟩⟩⟩⟩⟩)),(by refine rX ?_;exact Kd.R_mono HO311.out (fun _ hk => ⟨hk.1.2,⟨hk.2,⟨hk.1.1.1.1.1.2,⟨hk.1.1.1.1.2,⟨hk.1.1.1.2,hk.1.1.2⟩⟩⟩⟩⟩)),(by refine rX ?_;exact Kd.R_mono HO315.out (fun _ hk => ⟨hk.1.2,⟨hk.2,⟨hk.1.1.1.1.1.2,⟨hk.1.1.1.1.2,⟨hk.1.1.1.2,hk.1.1.2⟩⟩⟩⟩⟩)),(by refine rX ?_;exact Kd.R_mono HO_269001.out (fun _ hk => ⟨hk.1.1.2,⟨hk.1.2,⟨hk.2,⟨hk.1.1.1.1,⟨hk.1.1.1.2.1,hk.1.1.1.2.2⟩⟩⟩⟩⟩)),(by refine rX ?_;exact Kd.R_mono HO_274001.out (fun _ hk => ⟨hk.1.1.2,⟨hk.1.2,⟨hk.2,⟨hk.1.1.1.1,⟨hk.1.1.1.2.1,hk.1.1.1.2.2⟩⟩⟩⟩⟩)),(by refine rX ?_;exact Kd.R_mono HO_279001.out (fun _ hk => ⟨hk.1.1.2,⟨hk.1.2,⟨hk.2,⟨hk.1.1.1.1,⟨hk.1.1.1.2.1,hk.1.1.1.2.2⟩⟩⟩⟩⟩)),(by refine rX ?_;exact Kd.R_mono HO_285001.out (fun _ hk => ⟨hk.1.1.2,⟨hk.1.2,⟨hk.2,⟨hk.1.1.1.1,⟨hk.1.1.1.2.1,hk.1.1.1.2.2⟩⟩⟩⟩⟩)),(by exact kX BK251.out),(by exact kX BK252.out),(by exact kX BK268.out),(by exact kX BK273.out),(by exact kX BK278.out),(by exact kX BK284.out),(by exact kX BK317.out),GW317.out,GE317.out,NB251_317.out,NB317_251.out,NB252_317.out,NB317_252.out,NB268_317.out,NB317_268.out,NB273_317.out,NB317_273.out,NB278_317.out,NB317_278.out,NB284_317.out,NB317_284.out,(by repeat (first|(with_reducible first|exact HB.out|apply bA|apply bN|apply bD|refine bS ?_ GE251.out|refine bS ?_ GE252.out|refine bS ?_ GE268.out|refine bS ?_ GE273.out|refine bS ?_ GE278.out|refine bS ?_ GE284.out|refine bS ?_ GE317.out)|exact HB.out))⟩)
               ·skip
                refine box_step ?hg (N := 15) ?hd (cs := #[.int .i64 0,.slice none 0 0]) (t := 28) ?hr ?_;(case hd => rfl);(case hg => rfl);(case hr => first|(go_simp;done)|(go_simp;rfl))
                intro gb317 hg w177 hbox hb
                have n0_ := mk0 (Kd.R_below (by exact rX HO_269001.out) hb)
                have n1_ := mk0 (Kd.R_below (by exact rX HO_274001.out) hb)
                have n2_ := mk0 (Kd.R_below (by exact rX HO_279001.out) hb)
                have n3_ := mk0 (Kd.R_below (by exact rX HO_285001.out) hb)
                have n4_ := mk0 (Kd.R_below (by exact rX HO307.out) hb)
                have n5_ := mk0 (blk_below (by exact kX BK251.out) hb)
                have n6_ := mk0 (blk_below (by exact kX BK252.out) hb)
                have n7_ := mk0 (blk_below (by exact kX BK268.out) hb)
                have n8_ := mk0 (blk_below (by exact kX BK273.out) hb)
                have n9_ := mk0 (blk_below (by exact kX BK278.out) hb)
                have n10_ := mk0 (blk_below (by exact kX BK284.out) hb)
                have n11_ := mk0 (below_step (by repeat (first|(with_reducible first|exact HB.out|apply bA|apply bN|apply bD|refine bS ?_ GE251.out|refine bS ?_ GE252.out|refine bS ?_ GE268.out|refine bS ?_ GE273.out|refine bS ?_ GE278.out|refine bS ?_ GE284.out)|exact HB.out)) hb)
                have n12_ := mk0 (hbox)
                have n13_ := mk0 ((by rw [hg];exact (below_size (by repeat (first|(with_reducible first|exact HB.out|apply bA|apply bN|apply bD|refine bS ?_ GE251.out|refine bS ?_ GE252.out|refine bS ?_ GE268.out|refine bS ?_ GE273.out|refine bS ?_ GE278.out|refine bS ?_ GE284.out)|exact HB.out))) : w.heap.size ≤ gb317))
                have n14_ := mk0 ((by rw [hg];exact (below_size (by repeat (first|(with_reducible first|exact HB.out|apply bA|apply bN|apply bD|refine bS ?_ GE251.out|refine bS ?_ GE252.out|refine bS ?_ GE268.out|refine bS ?_ GE273.out|refine bS ?_ GE278.out|refine bS ?_ GE284.out)|exact HB.out))) : w.heap.size ≤ gb317))
                have n15_ := mk0 ((by rw [hg];exact Nat.ne_of_lt (blk_lt (by exact kX BK251.out)) : gb251 ≠ gb317))
                have n16_ := mk0 ((by rw [hg];exact Nat.ne_of_gt (blk_lt (by exact kX BK251.out)) : gb317 ≠ gb251))
                have n17_ := mk0 ((by rw [hg];exact Nat.ne_of_lt (blk_lt (by exact kX BK252.out)) : gb252 ≠ gb317))
                have n18_ := mk0 ((by rw [hg];exact Nat.ne_of_gt (blk_lt (by exact kX BK252.out)) : gb317 ≠ gb252))
                have n19_ := mk0 ((by rw [hg];exact Nat.ne_of_lt (blk_lt (by exact kX BK268.out)) : gb268 ≠ gb317))
                have n20_ := mk0 ((by rw [hg];exact Nat.ne_of_gt (blk_lt (by exact kX BK268.out)) : gb317 ≠ gb268))
                have n21_ := mk0 ((by rw [hg];exact Nat.ne_of_lt (blk_lt (by exact kX BK273.out)) : gb273 ≠ gb317))
                have n22_ := mk0 ((by rw [hg];exact Nat.ne_of_gt (blk_lt (by exact kX BK273.out)) : gb317 ≠ gb273))
                have n23_ := mk0 ((by rw [hg];exact Nat.ne_of_lt (blk_lt (by exact kX BK278.out)) : gb278 ≠ gb317))
                have n24_ := mk0 ((by rw [hg];exact Nat.ne_of_gt (blk_lt (by exact kX BK278.out)) : gb317 ≠ gb278))
                have n25_ := mk0 ((by rw [hg];exact Nat.ne_of_lt (blk_lt (by exact kX BK284.out)) : gb284 ≠ gb317))
                have n26_ := mk0 ((by rw [hg];exact Nat.ne_of_gt (blk_lt (by exact kX BK284.out)) : gb317 ≠ gb284))
                clear HO_269001
                clear HO_274001
                clear HO_279001
                clear HO_285001
                clear HO307
                clear BK251
                clear BK252
                clear BK268
                clear BK273
                clear BK278
                clear BK284
                clear HB
                have HO_269001 := n0_
                have HO_274001 := n1_
                have HO_279001 := n2_
                have HO_285001 := n3_
                have HO307 := n4_
                have BK251 := n5_
                have BK252 := n6_
                have BK268 := n7_
                have BK273 := n8_
                have BK278 := n9_
                have BK284 := n10_
                have HB := n11_
                have BK317 := n12_
                have GW317 := n13_
                have GE317 := n14_
                have NB251_317 := n15_
                have NB317_251 := n16_
                have NB252_317 := n17_
                have NB317_252 := n18_
                have NB268_317 := n19_
                have NB317_268 := n20_
                have NB273_317 := n21_
                have NB317_273 := n22_
                have NB278_317 := n23_
                have NB317_278 := n24_
                have NB284_317 := n25_
                have NB317_284 := n26_
                clear n0_ n1_ n2_ n3_ n4_ n5_ n6_ n7_ n8_ n9_ n10_ n11_ n12_ n13_ n14_ n15_ n16_ n17_ n18_ n19_ n20_ n21_ n22_ n23_ n24_ n25_ n26_
                clear hb hbox hg
                refine hK.out _ _ ⟨(blk_cell BK251.out 0).trans rfl,(blk_cell BK251.out 1).trans rfl,(blk_cell BK252.out 0).trans rfl,(blk_cell BK252.out 1).trans rfl⟩ (fun hHeld => ?_)
                clear hK K
                refine norm_ (a' := ?_) ?_ ?_
                rotate_left
                ·show Act.put _ (some 15) _ = _
                 simp only [Act.put,List.setIfInBounds_toArray,List.set_cons_zero,List.set_cons_succ,i64_w,i32_w]
                 rfl
                refine one_ (i := 3) (N := some 98) #[true,true,true,true,false,false,false,false,true,false,false] rfl rfl (one_of HT_.out (by kernel_rfl)) (by decide) (fun K hK => ?_)
                refine goes_ Try.func10 (by kernel_rfl) rfl #[.agg #[.int .i64 a1_0,.slice A1_1 l1_1.length c1_1]] (by rfl) rfl rfl (by (try simp only [List.map_toArray,List.map_cons,List.map_nil]);first|done|rfl) ?_
                with_reducible refine (laws_toAff.calls kj107 a1_0 _ _ l1_1 t308 t309 _ ?side1 ?side2 A163.out).mono ?_
                (case side1 => repeat (first|exact (Kd.C_below HR1_1.out HB.out)|(with_reducible refine cA ?_ _)|(with_reducible refine cN ?_ _)|(with_reducible refine cD ?_)))
                (case side2 => exact HC1_1.out)
                rintro e w178 ⟨v310,rfl,ho0,hb⟩
                refine ⟨_,rfl,?_⟩
                have n0_ := mk0 (Kd.R_elder' (by exact rX HO_269001.out) (Kd.R_base ho0) hb)
                have n1_ := mk0 (Kd.R_elder' (by exact rX HO_274001.out) (Kd.R_base ho0) hb)
                have n2_ := mk0 (Kd.R_elder' (by exact rX HO_279001.out) (Kd.R_base ho0) hb)
                have n3_ := mk0 (Kd.R_elder' (by exact rX HO_285001.out) (Kd.R_base ho0) hb)
                have n4_ := mk0 (Kd.R_elder' (by exact rX HO307.out) (Kd.R_base ho0) hb)
                have n5_ := mk0 (Kd.R_lower (Kd.R_new' (Kd.R_new' (Kd.R_new' (Kd.R_new' (Kd.R_new' ho0 (Kd.R_lt (by exact rX HO_269001.out))) (Kd.R_lt (by exact rX HO_274001.out))) (Kd.R_lt (by exact rX HO_279001.out))) (Kd.R_lt (by exact rX HO_285001.out))) (Kd.R_lt (by exact rX HO307.out))) (below_size (by repeat (first|(with_reducible first|exact HB.out|apply bA|apply bN|apply bD|refine bS ?_ GE251.out|refine bS ?_ GE252.out|refine bS ?_ GE268.out|refine bS ?_ GE273.out|refine bS ?_ GE278.out|refine bS ?_ GE284.out|refine bS ?_ GE317.out)|exact HB.out))))
                have n6_ := mk0 (blk_below (by exact kX BK251.out) hb)
                have n7_ := mk0 (blk_below (by exact kX BK252.out) hb)
                have n8_ := mk0 (blk_below (by exact kX BK268.out) hb)
                have n9_ := mk0 (blk_below (by exact kX BK273.out) hb)
                have n10_ := mk0 (blk_below (by exact kX BK278.out) hb)
                have n11_ := mk0 (blk_below (by exact kX BK284.out) hb)
                have n12_ := mk0 (blk_below (by exact kX BK317.out) hb)
                have n13_ := mk0 (below_step (by repeat (first|(with_reducible first|exact HB.out|apply bA|apply bN|apply bD|refine bS ?_ GE251.out|refine bS ?_ GE252.out|refine bS ?_ GE268.out|refine bS ?_ GE273.out|refine bS ?_ GE278.out|refine bS ?_ GE284.out|refine bS ?_ GE317.out)|exact HB.out)) hb)
                clear HO_269001
                clear HO_274001
                clear HO_279001
                clear HO_285001
                clear HO307
                clear BK251
                clear BK252
                clear BK268
                clear BK273
                clear BK278
                clear BK284
                clear BK317
                clear HB
                have HO_269001 := n0_
                have HO_274001 := n1_
                have HO_279001 := n2_
                have HO_285001 := n3_
                have HO307 := n4_
                have HO311 := n5_
                have BK251 := n6_
                have BK252 := n7_
                have BK268 := n8_
                have BK273 := n9_
                have BK278 := n10_
                have BK284 := n11_
                have BK317 := n12_
                have HB := n13_
                clear n0_ n1_ n2_ n3_ n4_ n5_ n6_ n7_ n8_ n9_ n10_ n11_ n12_ n13_
                (try clear hb)
                (try clear hb2)
                (try clear hk)
                (try clear hi)
                (try clear ho0)
                obtain ⟨Ao179,co179,eo179⟩ := Kd.R_slice HO307.out
                (first|subst eo179|(injection eo179 with f1_ f2_ f3_;have f4_ := f1_.symm;have f5_ := f3_.symm;clear f1_ f2_ f3_;subst f4_;subst f5_))
                obtain ⟨Ao180,co180,eo180⟩ := Kd.R_slice HO311.out
                (first|subst eo180|(injection eo180 with f1_ f2_ f3_;have f4_ := f1_.symm;have f5_ := f3_.symm;clear f1_ f2_ f3_;subst f4_;subst f5_))
                refine hK.out _ _ ⟨(blk_cell BK251.out 0).trans rfl,(blk_cell BK251.out 1).trans rfl,(blk_cell BK252.out 0).trans rfl,(blk_cell BK252.out 1).trans rfl⟩ (fun hHeld => ?_)
                clear hK K
                refine norm_ (a' := ?_) ?_ ?_
                rotate_left
                ·show Act.put _ (some 98) _ = _
                 simp only [Act.put,List.setIfInBounds_toArray,List.set_cons_zero,List.set_cons_succ,i64_w,i32_w]
                 rfl
                refine one_ (i := 4) (N := some 99) #[true,true,true,true,true,false,false,false,true,false,false] rfl rfl (one_of HT_.out (by kernel_rfl)) (by decide) (fun K hK => ?_)
                refine goes_ Try.func16 (by kernel_rfl) rfl #[.agg #[.int .i64 t304,.slice Ao179 t305.length co179],.agg #[.int .i64 t308,.slice Ao180 t309.length co180]] (by rfl) rfl rfl (by (try simp only [List.map_toArray,List.map_cons,List.map_nil]);first|done|rfl) ?_
                with_reducible refine (impl_SubA.calls kj107 t304 _ _ t305 t308 _ _ t309 t312 t313 t316 _ ?side1 ?side2 ?side3 ?side4 A164.out).mono ?_
                (case side1 => repeat (first|exact (Kd.R_reads' HO307.out).2.2|(with_reducible refine cA ?_ _)|(with_reducible refine cN ?_ _)|(with_reducible refine cD ?_)))
                (case side2 => exact (Kd.R_reads' HO307.out).2.1)
                (case side3 => repeat (first|exact (Kd.R_reads' HO311.out).2.2|(with_reducible refine cA ?_ _)|(with_reducible refine cN ?_ _)|(with_reducible refine cD ?_)))
                (case side4 => exact (Kd.R_reads' HO311.out).2.1)
                rintro e w181 ⟨v314,rfl,ho0,hb⟩
                refine ⟨_,rfl,?_⟩
                have n0_ := mk0 (Kd.R_elder' (by exact rX HO_269001.out) (Kd.R_base ho0) hb)
                have n1_ := mk0 (Kd.R_elder' (by exact rX HO_274001.out) (Kd.R_base ho0) hb)
                have n2_ := mk0 (Kd.R_elder' (by exact rX HO_279001.out) (Kd.R_base ho0) hb)
                have n3_ := mk0 (Kd.R_elder' (by exact rX HO_285001.out) (Kd.R_base ho0) hb)
                have n4_ := mk0 (Kd.R_elder' (by exact rX HO307.out) (Kd.R_base ho0) hb)
                have n5_ := mk0 (Kd.R_elder' (by exact rX HO311.out) (Kd.R_base ho0) hb)
                have n6_ := mk0 (Kd.R_lower (Kd.R_new' (Kd.R_new' (Kd.R_new' (Kd.R_new' (Kd.R_new' (Kd.R_new' ho0 (Kd.R_lt (by exact rX HO_269001.out))) (Kd.R_lt (by exact rX HO_274001.out))) (Kd.R_lt (by exact rX HO_279001.out))) (Kd.R_lt (by exact rX HO_285001.out))) (Kd.R_lt (by exact rX HO307.out))) (Kd.R_lt (by exact rX HO311.out))) (below_size (by repeat (first|(with_reducible first|exact HB.out|apply bA|apply bN|apply bD|refine bS ?_ GE251.out|refine bS ?_ GE252.out|refine bS ?_ GE268.out|refine bS ?_ GE273.out|refine bS ?_ GE278.out|refine bS ?_ GE284.out|refine bS ?_ GE317.out)|exact HB.out))))
                have n7_ := mk0 (blk_below (by exact kX BK251.out) hb)
                have n8_ := mk0 (blk_below (by exact kX BK252.out) hb)
                have n9_ := mk0 (blk_below (by exact kX BK268.out) hb)
                have n10_ := mk0 (blk_below (by exact kX BK273.out) hb)
                have n11_ := mk0 (blk_below (by exact kX BK278.out) hb)
                have n12_ := mk0 (blk_below (by exact kX BK284.out) hb)
                have n13_ := mk0 (blk_below (by exact kX BK317.out) hb)
                have n14_ := mk0 (below_step (by repeat (first|(with_reducible first|exact HB.out|apply bA|apply bN|apply bD|refine bS ?_ GE251.out|refine bS ?_ GE252.out|refine bS ?_ GE268.out|refine bS ?_ GE273.out|refine bS ?_ GE278.out|refine bS ?_ GE284.out|refine bS ?_ GE317.out)|exact HB.out)) hb)
                clear HO_269001
                clear HO_274001
                clear HO_279001
                clear HO_285001
                clear HO307
                clear HO311
                clear BK251
                clear BK252
                clear BK268
                clear BK273
                clear BK278
                clear BK284
                clear BK317
                clear HB
                have HO_269001 := n0_
                have HO_274001 := n1_
                have HO_279001 := n2_
                have HO_285001 := n3_
                have HO307 := n4_
                have HO311 := n5_
                have HO315 := n6_
                have BK251 := n7_
                have BK252 := n8_
                have BK268 := n9_
                have BK273 := n10_
                have BK278 := n11_
                have BK284 := n12_
                have BK317 := n13_
                have HB := n14_
                clear n0_ n1_ n2_ n3_ n4_ n5_ n6_ n7_ n8_ n9_ n10_ n11_ n12_ n13_ n14_
                (try clear hb)
                (try clear hb2)
                (try clear hk)
                (try clear hi)
                (try clear ho0)
                refine hK.out _ _ ⟨(blk_cell BK251.out 0).trans rfl,(blk_cell BK251.out 1).trans rfl,(blk_cell BK252.out 0).trans rfl,(blk_cell BK252.out 1).trans rfl⟩ (fun hHeld => ?_)
                clear hK K
                refine norm_ (a' := ?_) ?_ ?_
                rotate_left
                ·show Act.put _ (some 99) _ = _
                 simp only [Act.put,List.setIfInBounds_toArray,List.set_cons_zero,List.set_cons_succ,i64_w,i32_w]
                 rfl
                refine pure_ (i := 5) (N := some 94) (v := ?_) (a' := ?_) #[true,true,true,true,true,true,false,false,true,false,false] rfl rfl (any_of HT_.out (by kernel_rfl)) (fun _ _ _ h => h) (Or.inl ⟨by rfl,?_⟩) ?_ ?_
                rotate_left
                ·intro w'
                 go_simp
                 with_reducible rfl
                rotate_left
                ·simp only [Act.put,List.setIfInBounds_toArray,List.set_cons_zero,List.set_cons_succ,i64_w,i32_w]
                 rfl
                refine pure_ (i := 6) (N := some 100) (v := ?_) (a' := ?_) #[true,true,true,true,true,true,true,false,true,false,false] rfl rfl (any_of HT_.out (by kernel_rfl)) (fun _ _ _ h => h) (Or.inl ⟨by rfl,?_⟩) ?_ ?_
                rotate_left
                ·intro w'
                 go_simp
                 with_reducible rfl
                rotate_left
                ·simp only [Act.put,List.setIfInBounds_toArray,List.set_cons_zero,List.set_cons_succ,i64_w,i32_w]
                 rfl
                refine pure_ (i := 7) (N := some 101) (v := ?_) (a' := ?_) #[true,true,true,true,true,true,true,true,true,false,false] rfl rfl (any_of HT_.out (by kernel_rfl)) (fun _ _ _ h => h) (Or.inl ⟨by rfl,?_⟩) ?_ ?_
                rotate_left
                ·intro w'
                 go_simp
                 with_reducible rfl
                rotate_left
                ·simp only [Act.put,List.setIfInBounds_toArray,List.set_cons_zero,List.set_cons_succ,i64_w,i32_w]
                 rfl
                exact norm_ (by simp only [putAll,Act.put,List.setIfInBounds_toArray,List.set_cons_zero,List.set_cons_succ]) (hCont (.slice Ao179 t305.length co179,.slice Ao180 t309.length co180,v314,gb317) _ ⟨hHeld,(by refine rX ?_;exact Kd.R_mono HO307.out (fun _ hk => ⟨hk.1.2,⟨hk.2,⟨hk.1.1.1.1.1.2,⟨hk.1.1.1.1.2,⟨hk.1.1.1.2,hk.1.1.2⟩⟩⟩⟩⟩)),(by refine rX ?_;exact Kd.R_mono HO311.out (fun _ hk => ⟨hk.1.2,⟨hk.2,⟨hk.1.1.1.1.1.2,⟨hk.1.1.1.1.2,⟨hk.1.1.1.2,hk.1.1.2⟩⟩⟩⟩⟩)),(by refine rX ?_;exact Kd.R_mono HO315.out (fun _ hk => ⟨hk.1.2,⟨hk.2,⟨hk.1.1.1.1.1.2,⟨hk.1.1.1.1.2,⟨hk.1.1.1.2,hk.1.1.2⟩⟩⟩⟩⟩)),(by refine rX ?_;exact Kd.R_mono HO_269001.out (fun _ hk => ⟨hk.1.1.2,⟨hk.1.2,⟨hk.2,⟨hk.1.1.1.1,⟨hk.1.1.1.2.1,hk.1.1.1.2.2⟩⟩⟩⟩⟩)),(by refine rX ?_;exact Kd.R_mono HO_274001.out (fun _ hk => ⟨hk.1.1.2,⟨hk.1.2,⟨hk.2,⟨hk.1.1.1.1,⟨hk.1.1.1.2.1,hk.1.1.1.2.2⟩⟩⟩⟩⟩)),(by refine rX ?_;exact Kd.R_mono HO_279001.out (fun _ hk => ⟨hk.1.1.2,⟨hk.1.2,⟨hk.2,⟨hk.1.1.1.1,⟨hk.1.1.1.2.1,hk.1.1.1.2.2⟩⟩⟩⟩⟩)),(by refine rX ?_;exact Kd.R_mono HO_285001.out (fun _ hk => ⟨hk.1.1.2,⟨hk.1.2,⟨hk.2,⟨hk.1.1.1.1,⟨hk.1.1.1.2.1,hk.1.1.1.2.2⟩⟩⟩⟩⟩)),(by exact kX BK251.out),(by exact kX BK252.out),(by exact kX BK268.out),(by exact kX BK273.out),(by exact kX BK278.out),(by exact kX BK284.out),(by exact kX BK317.out),GW317.out,GE317.out,NB251_317.out,NB317_251.out,NB252_317.out,NB317_252.out,NB268_317.out,NB317_268.out,NB273_317.out,NB317_273.out,NB278_317.out,NB317_278.out,NB284_317.out,NB317_284.out,(by repeat (first|(with_reducible first|exact HB.out|apply bA|apply bN|apply bD|refine bS ?_ GE251.out|refine bS ?_ GE252.out|refine bS ?_ GE268.out|refine bS ?_ GE273.out|refine bS ?_ GE278.out|refine bS ?_ GE284.out|refine bS ?_ GE317.out)|exact HB.out))⟩)
              ·skip
               refine box_step ?hg (N := 15) ?hd (cs := #[.int .i64 0,.slice none 0 0]) (t := 28) ?hr ?_;(case hd => rfl);(case hg => rfl);(case hr => first|(go_simp;done)|(go_simp;rfl))
               intro gb317 hg w176 hbox hb
               have n0_ := mk0 (Kd.R_below (by exact rX HO_269001.out) hb)
               have n1_ := mk0 (Kd.R_below (by exact rX HO_274001.out) hb)
               have n2_ := mk0 (Kd.R_below (by exact rX HO_279001.out) hb)
               have n3_ := mk0 (Kd.R_below (by exact rX HO_285001.out) hb)
               have n4_ := mk0 (blk_below (by exact kX BK251.out) hb)
               have n5_ := mk0 (blk_below (by exact kX BK252.out) hb)
               have n6_ := mk0 (blk_below (by exact kX BK268.out) hb)
               have n7_ := mk0 (blk_below (by exact kX BK273.out) hb)
               have n8_ := mk0 (blk_below (by exact kX BK278.out) hb)
               have n9_ := mk0 (blk_below (by exact kX BK284.out) hb)
               have n10_ := mk0 (below_step (by repeat (first|(with_reducible first|exact HB.out|apply bA|apply bN|apply bD|refine bS ?_ GE251.out|refine bS ?_ GE252.out|refine bS ?_ GE268.out|refine bS ?_ GE273.out|refine bS ?_ GE278.out|refine bS ?_ GE284.out)|exact HB.out)) hb)
               have n11_ := mk0 (hbox)
               have n12_ := mk0 ((by rw [hg];exact (below_size (by repeat (first|(with_reducible first|exact HB.out|apply bA|apply bN|apply bD|refine bS ?_ GE251.out|refine bS ?_ GE252.out|refine bS ?_ GE268.out|refine bS ?_ GE273.out|refine bS ?_ GE278.out|refine bS ?_ GE284.out)|exact HB.out))) : w.heap.size ≤ gb317))
               have n13_ := mk0 ((by rw [hg];exact (below_size (by repeat (first|(with_reducible first|exact HB.out|apply bA|apply bN|apply bD|refine bS ?_ GE251.out|refine bS ?_ GE252.out|refine bS ?_ GE268.out|refine bS ?_ GE273.out|refine bS ?_ GE278.out|refine bS ?_ GE284.out)|exact HB.out))) : w.heap.size ≤ gb317))
               have n14_ := mk0 ((by rw [hg];exact Nat.ne_of_lt (blk_lt (by exact kX BK251.out)) : gb251 ≠ gb317))
               have n15_ := mk0 ((by rw [hg];exact Nat.ne_of_gt (blk_lt (by exact kX BK251.out)) : gb317 ≠ gb251))
               have n16_ := mk0 ((by rw [hg];exact Nat.ne_of_lt (blk_lt (by exact kX BK252.out)) : gb252 ≠ gb317))
               have n17_ := mk0 ((by rw [hg];exact Nat.ne_of_gt (blk_lt (by exact kX BK252.out)) : gb317 ≠ gb252))
               have n18_ := mk0 ((by rw [hg];exact Nat.ne_of_lt (blk_lt (by exact kX BK268.out)) : gb268 ≠ gb317))
               have n19_ := mk0 ((by rw [hg];exact Nat.ne_of_gt (blk_lt (by exact kX BK268.out)) : gb317 ≠ gb268))
               have n20_ := mk0 ((by rw [hg];exact Nat.ne_of_lt (blk_lt (by exact kX BK273.out)) : gb273 ≠ gb317))
               have n21_ := mk0 ((by rw [hg];exact Nat.ne_of_gt (blk_lt (by exact kX BK273.out)) : gb317 ≠ gb273))
               have n22_ := mk0 ((by rw [hg];exact Nat.ne_of_lt (blk_lt (by exact kX BK278.out)) : gb278 ≠ gb317))
               have n23_ := mk0 ((by rw [hg];exact Nat.ne_of_gt (blk_lt (by exact kX BK278.out)) : gb317 ≠ gb278))
               have n24_ := mk0 ((by rw [hg];exact Nat.ne_of_lt (blk_lt (by exact kX BK284.out)) : gb284 ≠ gb317))
               have n25_ := mk0 ((by rw [hg];exact Nat.ne_of_gt (blk_lt (by exact kX BK284.out)) : gb317 ≠ gb284))
               clear HO_269001
               clear HO_274001
               clear HO_279001
               clear HO_285001
               clear BK251
               clear BK252
               clear BK268
               clear BK273
               clear BK278
               clear BK284
               clear HB
               have HO_269001 := n0_
               have HO_274001 := n1_
               have HO_279001 := n2_
               have HO_285001 := n3_
               have BK251 := n4_
               have BK252 := n5_
               have BK268 := n6_
               have BK273 := n7_
               have BK278 := n8_
               have BK284 := n9_
               have HB := n10_
               have BK317 := n11_
               have GW317 := n12_
               have GE317 := n13_
               have NB251_317 := n14_
               have NB317_251 := n15_
               have NB252_317 := n16_
               have NB317_252 := n17_
               have NB268_317 := n18_
               have NB317_268 := n19_
               have NB273_317 := n20_
               have NB317_273 := n21_
               have NB278_317 := n22_
               have NB317_278 := n23_
               have NB284_317 := n24_
               have NB317_284 := n25_
               clear n0_ n1_ n2_ n3_ n4_ n5_ n6_ n7_ n8_ n9_ n10_ n11_ n12_ n13_ n14_ n15_ n16_ n17_ n18_ n19_ n20_ n21_ n22_ n23_ n24_ n25_
               clear hb hbox hg
               refine hK.out _ _ ⟨(blk_cell BK251.out 0).trans rfl,(blk_cell BK251.out 1).trans rfl,(blk_cell BK252.out 0).trans rfl,(blk_cell BK252.out 1).trans rfl⟩ (fun hHeld => ?_)
               clear hK K
               refine norm_ (a' := ?_) ?_ ?_
               rotate_left
               ·show Act.put _ (some 15) _ = _
                simp only [Act.put,List.setIfInBounds_toArray,List.set_cons_zero,List.set_cons_succ,i64_w,i32_w]
                rfl
               refine one_ (i := 1) (N := some 96) #[true,true,true,false,false,false,false,false,true,false,false] rfl rfl (one_of HT_.out (by kernel_rfl)) (by decide) (fun K hK => ?_)
               refine goes_ Try.func10 (by kernel_rfl) rfl #[.agg #[.int .i64 a0_0,.slice A0_1 l0_1.length c0_1]] (by rfl) rfl rfl (by (try simp only [List.map_toArray,List.map_cons,List.map_nil]);first|done|rfl) ?_
               with_reducible refine (laws_toAff.calls kj107 a0_0 _ _ l0_1 t304 t305 _ ?side1 ?side2 A162.out).mono ?_
               (case side1 => repeat (first|exact (Kd.C_below HR0_1.out HB.out)|(with_reducible refine cA ?_ _)|(with_reducible refine cN ?_ _)|(with_reducible refine cD ?_)))
               (case side2 => exact HC0_1.out)
               rintro e w177 ⟨v306,rfl,ho0,hb⟩
               refine ⟨_,rfl,?_⟩
               have n0_ := mk0 (Kd.R_elder' (by exact rX HO_269001.out) (Kd.R_base ho0) hb)
               have n1_ := mk0 (Kd.R_elder' (by exact rX HO_274001.out) (Kd.R_base ho0) hb)
               have n2_ := mk0 (Kd.R_elder' (by exact rX HO_279001.out) (Kd.R_base ho0) hb)
               have n3_ := mk0 (Kd.R_elder' (by exact rX HO_285001.out) (Kd.R_base ho0) hb)
               have n4_ := mk0 (Kd.R_lower (Kd.R_new' (Kd.R_new' (Kd.R_new' (Kd.R_new' ho0 (Kd.R_lt (by exact rX HO_269001.out))) (Kd.R_lt (by exact rX HO_274001.out))) (Kd.R_lt (by exact rX HO_279001.out))) (Kd.R_lt (by exact rX HO_285001.out))) (below_size (by repeat (first|(with_reducible first|exact HB.out|apply bA|apply bN|apply bD|refine bS ?_ GE251.out|refine bS ?_ GE252.out|refine bS ?_ GE268.out|refine bS ?_ GE273.out|refine bS ?_ GE278.out|refine bS ?_ GE284.out|refine bS ?_ GE317.out)|exact HB.out))))
               have n5_ := mk0 (blk_below (by exact kX BK251.out) hb)
               have n6_ := mk0 (blk_below (by exact kX BK252.out) hb)
               have n7_ := mk0 (blk_below (by exact kX BK268.out) hb)
               have n8_ := mk0 (blk_below (by exact kX BK273.out) hb)
               have n9_ := mk0 (blk_below (by exact kX BK278.out) hb)
               have n10_ := mk0 (blk_below (by exact kX BK284.out) hb)
               have n11_ := mk0 (blk_below (by exact kX BK317.out) hb)
               have n12_ := mk0 (below_step (by repeat (first|(with_reducible first|exact HB.out|apply bA|apply bN|apply bD|refine bS ?_ GE251.out|refine bS ?_ GE252.out|refine bS ?_ GE268.out|refine bS ?_ GE273.out|refine bS ?_ GE278.out|refine bS ?_ GE284.out|refine bS ?_ GE317.out)|exact HB.out)) hb)
               clear HO_269001
               clear HO_274001
               clear HO_279001
               clear HO_285001
               clear BK251
               clear BK252
               clear BK268
               clear BK273
               clear BK278
               clear BK284
               clear BK317
               clear HB
               have HO_269001 := n0_
               have HO_274001 := n1_
               have HO_279001 := n2_
               have HO_285001 := n3_
               have HO307 := n4_
               have BK251 := n5_
               have BK252 := n6_
               have BK268 := n7_
               have BK273 := n8_
               have BK278 := n9_
               have BK284 := n10_
               have BK317 := n11_
               have HB := n12_
               clear n0_ n1_ n2_ n3_ n4_ n5_ n6_ n7_ n8_ n9_ n10_ n11_ n12_
               (try clear hb)
               (try clear hb2)
               (try clear hk)
               (try clear hi)
               (try clear ho0)
               refine hK.out _ _ ⟨(blk_cell BK251.out 0).trans rfl,(blk_cell BK251.out 1).trans rfl,(blk_cell BK252.out 0).trans rfl,(blk_cell BK252.out 1).trans rfl⟩ (fun hHeld => ?_)
               clear hK K
               refine norm_ (a' := ?_) ?_ ?_
               rotate_left
               ·show Act.put _ (some 96) _ = _
                simp only [Act.put,List.setIfInBounds_toArray,List.set_cons_zero,List.set_cons_succ,i64_w,i32_w]
                rfl
               refine one_ (i := 3) (N := some 98) #[true,true,true,true,false,false,false,false,true,false,false] rfl rfl (one_of HT_.out (by kernel_rfl)) (by decide) (fun K hK => ?_)
               refine goes_ Try.func10 (by kernel_rfl) rfl #[.agg #[.int .i64 a1_0,.slice A1_1 l1_1.length c1_1]] (by rfl) rfl rfl (by (try simp only [List.map_toArray,List.map_cons,List.map_nil]);first|done|rfl) ?_
               with_reducible refine (laws_toAff.calls kj107 a1_0 _ _ l1_1 t308 t309 _ ?side1 ?side2 A163.out).mono ?_
               (case side1 => repeat (first|exact (Kd.C_below HR1_1.out HB.out)|(with_reducible refine cA ?_ _)|(with_reducible refine cN ?_ _)|(with_reducible refine cD ?_)))
               (case side2 => exact HC1_1.out)
               rintro e w178 ⟨v310,rfl,ho0,hb⟩
               refine ⟨_,rfl,?_⟩
               have n0_ := mk0 (Kd.R_elder' (by exact rX HO_269001.out) (Kd.R_base ho0) hb)
               have n1_ := mk0 (Kd.R_elder' (by exact rX HO_274001.out) (Kd.R_base ho0) hb)
               have n2_ := mk0 (Kd.R_elder' (by exact rX HO_279001.out) (Kd.R_base ho0) hb)
               have n3_ := mk0 (Kd.R_elder' (by exact rX HO_285001.out) (Kd.R_base ho0) hb)
               have n4_ := mk0 (Kd.R_elder' (by exact rX HO307.out) (Kd.R_base ho0) hb)
               have n5_ := mk0 (Kd.R_lower (Kd.R_new' (Kd.R_new' (Kd.R_new' (Kd.R_new' (Kd.R_new' ho0 (Kd.R_lt (by exact rX HO_269001.out))) (Kd.R_lt (by exact rX HO_274001.out))) (Kd.R_lt (by exact rX HO_279001.out))) (Kd.R_lt (by exact rX HO_285001.out))) (Kd.R_lt (by exact rX HO307.out))) (below_size (by repeat (first|(with_reducible first|exact HB.out|apply bA|apply bN|apply bD|refine bS ?_ GE251.out|refine bS ?_ GE252.out|refine bS ?_ GE268.out|refine bS ?_ GE273.out|refine bS ?_ GE278.out|refine bS ?_ GE284.out|refine bS ?_ GE317.out)|exact HB.out))))
               have n6_ := mk0 (blk_below (by exact kX BK251.out) hb)
               have n7_ := mk0 (blk_below (by exact kX BK252.out) hb)
               have n8_ := mk0 (blk_below (by exact kX BK268.out) hb)
               have n9_ := mk0 (blk_below (by exact kX BK273.out) hb)
               have n10_ := mk0 (blk_below (by exact kX BK278.out) hb)
               have n11_ := mk0 (blk_below (by exact kX BK284.out) hb)
               have n12_ := mk0 (blk_below (by exact kX BK317.out) hb)
               have n13_ := mk0 (below_step (by repeat (first|(with_reducible first|exact HB.out|apply bA|apply bN|apply bD|refine bS ?_ GE251.out|refine bS ?_ GE252.out|refine bS ?_ GE268.out|refine bS ?_ GE273.out|refine bS ?_ GE278.out|refine bS ?_ GE284.out|refine bS ?_ GE317.out)|exact HB.out)) hb)
               clear HO_269001
               clear HO_274001
               clear HO_279001
               clear HO_285001
               clear HO307
               clear BK251
               clear BK252
               clear BK268
               clear BK273
               clear BK278
               clear BK284
               clear BK317
               clear HB
               have HO_269001 := n0_
               have HO_274001 := n1_
               have HO_279001 := n2_
               have HO_285001 := n3_
               have HO307 := n4_
               have HO311 := n5_
               have BK251 := n6_
               have BK252 := n7_
               have BK268 := n8_
               have BK273 := n9_
               have BK278 := n10_
               have BK284 := n11_
               have BK317 := n12_
               have HB := n13_
               clear n0_ n1_ n2_ n3_ n4_ n5_ n6_ n7_ n8_ n9_ n10_ n11_ n12_ n13_
               (try clear hb)
               (try clear hb2)
               (try clear hk)
               (try clear hi)
               (try clear ho0)
               obtain ⟨Ao179,co179,eo179⟩ := Kd.R_slice HO307.out
               (first|subst eo179|(injection eo179 with f1_ f2_ f3_;have f4_ := f1_.symm;have f5_ := f3_.symm;clear f1_ f2_ f3_;subst f4_;subst f5_))
               obtain ⟨Ao180,co180,eo180⟩ := Kd.R_slice HO311.out
               (first|subst eo180|(injection eo180 with f1_ f2_ f3_;have f4_ := f1_.symm;have f5_ := f3_.symm;clear f1_ f2_ f3_;subst f4_;subst f5_))
               refine hK.out _ _ ⟨(blk_cell BK251.out 0).trans rfl,(blk_cell BK251.out 1).trans rfl,(blk_cell BK252.out 0).trans rfl,(blk_cell BK252.out 1).trans rfl⟩ (fun hHeld => ?_)
               clear hK K
               refine norm_ (a' := ?_) ?_ ?_
               rotate_left
               ·show Act.put _ (some 98) _ = _
                simp only [Act.put,List.setIfInBounds_toArray,List.set_cons_zero,List.set_cons_succ,i64_w,i32_w]
                rfl
               refine one_ (i := 4) (N := some 99) #[true,true,true,true,true,false,false,false,true,false,false] rfl rfl (one_of HT_.out (by kernel_rfl)) (by decide) (fun K hK => ?_)
               refine goes_ Try.func16 (by kernel_rfl) rfl #[.agg #[.int .i64 t304,.slice Ao179 t305.length co179],.agg #[.int .i64 t308,.slice Ao180 t309.length co180]] (by rfl) rfl rfl (by (try simp only [List.map_toArray,List.map_cons,List.map_nil]);first|done|rfl) ?_
               with_reducible refine (impl_SubA.calls kj107 t304 _ _ t305 t308 _ _ t309 t312 t313 t316 _ ?side1 ?side2 ?side3 ?side4 A164.out).mono ?_
               (case side1 => repeat (first|exact (Kd.R_reads' HO307.out).2.2|(with_reducible refine cA ?_ _)|(with_reducible refine cN ?_ _)|(with_reducible refine cD ?_)))
               (case side2 => exact (Kd.R_reads' HO307.out).2.1)
               (case side3 => repeat (first|exact (Kd.R_reads' HO311.out).2.2|(with_reducible refine cA ?_ _)|(with_reducible refine cN ?_ _)|(with_reducible refine cD ?_)))
               (case side4 => exact (Kd.R_reads' HO311.out).2.1)
               rintro e w181 ⟨v314,rfl,ho0,hb⟩
               refine ⟨_,rfl,?_⟩
               have n0_ := mk0 (Kd.R_elder' (by exact rX HO_269001.out) (Kd.R_base ho0) hb)
               have n1_ := mk0 (Kd.R_elder' (by exact rX HO_274001.out) (Kd.R_base ho0) hb)
               have n2_ := mk0 (Kd.R_elder' (by exact rX HO_279001.out) (Kd.R_base ho0) hb)
               have n3_ := mk0 (Kd.R_elder' (by exact rX HO_285001.out) (Kd.R_base ho0) hb)
               have n4_ := mk0 (Kd.R_elder' (by exact rX HO307.out) (Kd.R_base ho0) hb)
               have n5_ := mk0 (Kd.R_elder' (by exact rX HO311.out) (Kd.R_base ho0) hb)
               have n6_ := mk0 (Kd.R_lower (Kd.R_new' (Kd.R_new' (Kd.R_new' (Kd.R_new' (Kd.R_new' (Kd.R_new' ho0 (Kd.R_lt (by exact rX HO_269001.out))) (Kd.R_lt (by exact rX HO_274001.out))) (Kd.R_lt (by exact rX HO_279001.out))) (Kd.R_lt (by exact rX HO_285001.out))) (Kd.R_lt (by exact rX HO307.out))) (Kd.R_lt (by exact rX HO311.out))) (below_size (by repeat (first|(with_reducible first|exact HB.out|apply bA|apply bN|apply bD|refine bS ?_ GE251.out|refine bS ?_ GE252.out|refine bS ?_ GE268.out|refine bS ?_ GE273.out|refine bS ?_ GE278.out|refine bS ?_ GE284.out|refine bS ?_ GE317.out)|exact HB.out))))
               have n7_ := mk0 (blk_below (by exact kX BK251.out) hb)
               have n8_ := mk0 (blk_below (by exact kX BK252.out) hb)
               have n9_ := mk0 (blk_below (by exact kX BK268.out) hb)
               have n10_ := mk0 (blk_below (by exact kX BK273.out) hb)
               have n11_ := mk0 (blk_below (by exact kX BK278.out) hb)
               have n12_ := mk0 (blk_below (by exact kX BK284.out) hb)
               have n13_ := mk0 (blk_below (by exact kX BK317.out) hb)
               have n14_ := mk0 (below_step (by repeat (first|(with_reducible first|exact HB.out|apply bA|apply bN|apply bD|refine bS ?_ GE251.out|refine bS ?_ GE252.out|refine bS ?_ GE268.out|refine bS ?_ GE273.out|refine bS ?_ GE278.out|refine bS ?_ GE284.out|refine bS ?_ GE317.out)|exact HB.out)) hb)
               clear HO_269001
               clear HO_274001
               clear HO_279001
               clear HO_285001
               clear HO307
               clear HO311
               clear BK251
               clear BK252
               clear BK268
               clear BK273
               clear BK278
               clear BK284
               clear BK317
               clear HB
               have HO_269001 := n0_
               have HO_274001 := n1_
               have HO_279001 := n2_
               have HO_285001 := n3_
               have HO307 := n4_
               have HO311 := n5_
               have HO315 := n6_
               have BK251 := n7_
               have BK252 := n8_
               have BK268 := n9_
               have BK273 := n10_
               have BK278 := n11_
               have BK284 := n12_
               have BK317 := n13_
               have HB := n14_
               clear n0_ n1_ n2_ n3_ n4_ n5_ n6_ n7_ n8_ n9_ n10_ n11_ n12_ n13_ n14_
               (try clear hb)
               (try clear hb2)
               (try clear hk)
               (try clear hi)
               (try clear ho0)
               refine hK.out _ _ ⟨(blk_cell BK251.out 0).trans rfl,(blk_cell BK251.out 1).trans rfl,(blk_cell BK252.out 0).trans rfl,(blk_cell BK252.out 1).trans rfl⟩ (fun hHeld => ?_)
               clear hK K
               refine norm_ (a' := ?_) ?_ ?_
               rotate_left
               ·show Act.put _ (some 99) _ = _
                simp only [Act.put,List.setIfInBounds_toArray,List.set_cons_zero,List.set_cons_succ,i64_w,i32_w]
                rfl
               refine pure_ (i := 5) (N := some 94) (v := ?_) (a' := ?_) #[true,true,true,true,true,true,false,false,true,false,false] rfl rfl (any_of HT_.out (by kernel_rfl)) (fun _ _ _ h => h) (Or.inl ⟨by rfl,?_⟩) ?_ ?_
               rotate_left
               ·intro w'
                go_simp
                with_reducible rfl
               rotate_left
               ·simp only [Act.put,List.setIfInBounds_toArray,List.set_cons_zero,List.set_cons_succ,i64_w,i32_w]
                rfl
               refine pure_ (i := 6) (N := some 100) (v := ?_) (a' := ?_) #[true,true,true,true,true,true,true,false,true,false,false] rfl rfl (any_of HT_.out (by kernel_rfl)) (fun _ _ _ h => h) (Or.inl ⟨by rfl,?_⟩) ?_ ?_
               rotate_left
               ·intro w'
                go_simp
                with_reducible rfl
               rotate_left
               ·simp only [Act.put,List.setIfInBounds_toArray,List.set_cons_zero,List.set_cons_succ,i64_w,i32_w]
                rfl
               refine pure_ (i := 7) (N := some 101) (v := ?_) (a' := ?_) #[true,true,true,true,true,true,true,true,true,false,false] rfl rfl (any_of HT_.out (by kernel_rfl)) (fun _ _ _ h => h) (Or.inl ⟨by rfl,?_⟩) ?_ ?_
               rotate_left
               ·intro w'
                go_simp
                with_reducible rfl
               rotate_left
               ·simp only [Act.put,List.setIfInBounds_toArray,List.set_cons_zero,List.set_cons_succ,i64_w,i32_w]
                rfl
               exact norm_ (by simp only [putAll,Act.put,List.setIfInBounds_toArray,List.set_cons_zero,List.set_cons_succ]) (hCont (.slice Ao179 t305.length co179,.slice Ao180 t309.length co180,v314,gb317) _ ⟨hHeld,(by refine rX ?_;exact Kd.R_mono HO307.out (fun _ hk => ⟨hk.1.2,⟨hk.2,⟨hk.1.1.1.1.1.2,⟨hk.1.1.1.1.2,⟨hk.1.1.1.2,hk.1.1.2⟩⟩⟩⟩⟩)),(by refine rX ?_;exact Kd.R_mono HO311.out (fun _ hk => ⟨hk.1.2,⟨hk.2,⟨hk.1.1.1.1.1.2,⟨hk.1.1.1.1.2,⟨hk.1.1.1.2,hk.1.1.2⟩⟩⟩⟩⟩)),(by refine rX ?_;exact Kd.R_mono HO315.out (fun _ hk => ⟨hk.1.2,⟨hk.2,⟨hk.1.1.1.1.1.2,⟨hk.1.1.1.1.2,⟨hk.1.1.1.2,hk.1.1.2⟩⟩⟩⟩⟩)),(by refine rX ?_;exact Kd.R_mono HO_269001.out (fun _ hk => ⟨hk.1.1.2,⟨hk.1.2,⟨hk.2,⟨hk.1.1.1.1,⟨hk.1.1.1.2.1,hk.1.1.1.2.2⟩⟩⟩⟩⟩)),(by refine rX ?_;exact Kd.R_mono HO_274001.out (fun _ hk => ⟨hk.1.1.2,⟨hk.1.2,⟨hk.2,⟨hk.1.1.1.1,⟨hk.1.1.1.2.1,hk.1.1.1.2.2⟩⟩⟩⟩⟩)),(by refine rX ?_;exact Kd.R_mono HO_279001.out (fun _ hk => ⟨hk.1.1.2,⟨hk.1.2,⟨hk.2,⟨hk.1.1.1.1,⟨hk.1.1.1.2.1,hk.1.1.1.2.2⟩⟩⟩⟩⟩)),(by refine rX ?_;exact Kd.R_mono HO_285001.out (fun _ hk => ⟨hk.1.1.2,⟨hk.1.2,⟨hk.2,⟨hk.1.1.1.1,⟨hk.1.1.1.2.1,hk.1.1.1.2.2⟩⟩⟩⟩⟩)),(by exact kX BK251.out),(by exact kX BK252.out),(by exact kX BK268.out),(by exact kX BK273.out),(by exact kX BK278.out),(by exact kX BK284.out),(by exact kX BK317.out),GW317.out,GE317.out,NB251_317.out,NB317_251.out,NB252_317.out,NB317_252.out,NB268_317.out,NB317_268.out,NB273_317.out,NB317_273.out,NB278_317.out,NB317_278.out,NB284_317.out,NB317_284.out,(by repeat (first|(with_reducible first|exact HB.out|apply bA|apply bN|apply bD|refine bS ?_ GE251.out|refine bS ?_ GE252.out|refine bS ?_ GE268.out|refine bS ?_ GE273.out|refine bS ?_ GE278.out|refine bS ?_ GE284.out|refine bS ?_ GE317.out)|exact HB.out))⟩)
             rintro ⟨v306,v310,v314,gb317⟩ w182 ⟨hS_,h0_,h1_,h2_,h3_,h4_,h5_,h6_,h7_,h8_,h9_,h10_,h11_,h12_,h13_,h14_,h15_,h16_,h17_,h18_,h19_,h20_,h21_,h22_,h23_,h24_,h25_,h26_,h27_,h28_⟩
             have n0_ : Aside0 (Kd.R k70 70 w182 w.heap.size (fun k_ => some k_ ≠ (v310 : Value).ownBlock ∧ some k_ ≠ (v314 : Value).ownBlock ∧ some k_ ≠ (.slice Ao42 t264.length co42 : Value).ownBlock ∧ some k_ ≠ (.slice Ao52 t297.length co52 : Value).ownBlock ∧ some k_ ≠ (.slice Ao62 t299.length co62 : Value).ownBlock ∧ some k_ ≠ (.slice Ao72 t280.length co72 : Value).ownBlock) v306 t305) := ⟨h0_⟩
             have n1_ : Aside0 (Kd.R k70 70 w182 w.heap.size (fun k_ => some k_ ≠ (v306 : Value).ownBlock ∧ some k_ ≠ (v314 : Value).ownBlock ∧ some k_ ≠ (.slice Ao42 t264.length co42 : Value).ownBlock ∧ some k_ ≠ (.slice Ao52 t297.length co52 : Value).ownBlock ∧ some k_ ≠ (.slice Ao62 t299.length co62 : Value).ownBlock ∧ some k_ ≠ (.slice Ao72 t280.length co72 : Value).ownBlock) v310 t309) := ⟨h1_⟩
             have n2_ : Aside0 (Kd.R k70 70 w182 w.heap.size (fun k_ => some k_ ≠ (v306 : Value).ownBlock ∧ some k_ ≠ (v310 : Value).ownBlock ∧ some k_ ≠ (.slice Ao42 t264.length co42 : Value).ownBlock ∧ some k_ ≠ (.slice Ao52 t297.length co52 : Value).ownBlock ∧ some k_ ≠ (.slice Ao62 t299.length co62 : Value).ownBlock ∧ some k_ ≠ (.slice Ao72 t280.length co72 : Value).ownBlock) v314 t313) := ⟨h2_⟩
             have n3_ : Aside0 (Kd.R k70 70 w182 w.heap.size (fun k_ => some k_ ≠ (v306 : Value).ownBlock ∧ some k_ ≠ (v310 : Value).ownBlock ∧ some k_ ≠ (v314 : Value).ownBlock ∧ some k_ ≠ (.slice Ao52 t297.length co52 : Value).ownBlock ∧ some k_ ≠ (.slice Ao62 t299.length co62 : Value).ownBlock ∧ some k_ ≠ (.slice Ao72 t280.length co72 : Value).ownBlock) (.slice Ao42 t264.length co42) t264) := ⟨h3_⟩
             have n4_ : Aside0 (Kd.R k70 70 w182 w.heap.size (fun k_ => some k_ ≠ (v306 : Value).ownBlock ∧ some k_ ≠ (v310 : Value).ownBlock ∧ some k_ ≠ (v314 : Value).ownBlock ∧ some k_ ≠ (.slice Ao42 t264.length co42 : Value).ownBlock ∧ some k_ ≠ (.slice Ao62 t299.length co62 : Value).ownBlock ∧ some k_ ≠ (.slice Ao72 t280.length co72 : Value).ownBlock) (.slice Ao52 t297.length co52) t297) := ⟨h4_⟩
             have n5_ : Aside0 (Kd.R k70 70 w182 w.heap.size (fun k_ => some k_ ≠ (v306 : Value).ownBlock ∧ some k_ ≠ (v310 : Value).ownBlock ∧ some k_ ≠ (v314 : Value).ownBlock ∧ some k_ ≠ (.slice Ao42 t264.length co42 : Value).ownBlock ∧ some k_ ≠ (.slice Ao52 t297.length co52 : Value).ownBlock ∧ some k_ ≠ (.slice Ao72 t280.length co72 : Value).ownBlock) (.slice Ao62 t299.length co62) t299) := ⟨h5_⟩
             have n6_ : Aside0 (Kd.R k70 70 w182 w.heap.size (fun k_ => some k_ ≠ (v306 : Value).ownBlock ∧ some k_ ≠ (v310 : Value).ownBlock ∧ some k_ ≠ (v314 : Value).ownBlock ∧ some k_ ≠ (.slice Ao42 t264.length co42 : Value).ownBlock ∧ some k_ ≠ (.slice Ao52 t297.length co52 : Value).ownBlock ∧ some k_ ≠ (.slice Ao62 t299.length co62 : Value).ownBlock) (.slice Ao72 t280.length co72) t302) := ⟨h6_⟩
             have n7_ : Aside0 (w182.heap[gb251]? = some (.cells #[.int .i64 a0_0,.slice A0_1 l0_1.length c0_1] 24 (0,0))) := ⟨h7_⟩
             have n8_ : Aside0 (w182.heap[gb252]? = some (.cells #[.int .i64 a1_0,.slice A1_1 l1_1.length c1_1] 24 (0,0))) := ⟨h8_⟩
             have n9_ : Aside0 (w182.heap[gb268]? = some (.cells #[.int .i64 t263,.slice Ao42 t264.length co42] 28 (0,0))) := ⟨h9_⟩
             have n10_ : Aside0 (w182.heap[gb273]? = some (.cells #[.int .i64 t269,.slice Ao52 t297.length co52] 28 (0,0))) := ⟨h10_⟩
             have n11_ : Aside0 (w182.heap[gb278]? = some (.cells #[.int .i64 t274,.slice Ao62 t299.length co62] 28 (0,0))) := ⟨h11_⟩
             have n12_ : Aside0 (w182.heap[gb284]? = some (.cells #[.int .i64 t279,.slice Ao72 t280.length co72] 28 (0,0))) := ⟨h12_⟩
             have n13_ : Aside0 (w182.heap[gb317]? = some (.cells #[.int .i64 0,.slice none 0 0] 28 (0,0))) := ⟨h13_⟩
             have n14_ : Aside0 (w.heap.size ≤ gb317) := ⟨h14_⟩
             have n15_ : Aside0 (w.heap.size ≤ gb317) := ⟨h15_⟩
             have n16_ : Aside0 (gb251 ≠ gb317) := ⟨h16_⟩
             have n17_ : Aside0 (gb317 ≠ gb251) := ⟨h17_⟩
             have n18_ : Aside0 (gb252 ≠ gb317) := ⟨h18_⟩
             have n19_ : Aside0 (gb317 ≠ gb252) := ⟨h19_⟩
             have n20_ : Aside0 (gb268 ≠ gb317) := ⟨h20_⟩
             have n21_ : Aside0 (gb317 ≠ gb268) := ⟨h21_⟩
             have n22_ : Aside0 (gb273 ≠ gb317) := ⟨h22_⟩
             have n23_ : Aside0 (gb317 ≠ gb273) := ⟨h23_⟩
             have n24_ : Aside0 (gb278 ≠ gb317) := ⟨h24_⟩
             have n25_ : Aside0 (gb317 ≠ gb278) := ⟨h25_⟩
             have n26_ : Aside0 (gb284 ≠ gb317) := ⟨h26_⟩
             have n27_ : Aside0 (gb317 ≠ gb284) := ⟨h27_⟩
             have n28_ : Aside0 (Below w.heap.size w w182) := ⟨h28_⟩
             clear HO_269001
             clear HO_274001
             clear HO_279001
             clear HO_285001
             clear BK251
             clear BK252
             clear BK268
             clear BK273
             clear BK278
             clear BK284
             clear HB
             clear h0_ h1_ h2_ h3_ h4_ h5_ h6_ h7_ h8_ h9_ h10_ h11_ h12_ h13_ h14_ h15_ h16_ h17_ h18_ h19_ h20_ h21_ h22_ h23_ h24_ h25_ h26_ h27_ h28_
             have HO307 := n0_
             have HO311 := n1_
             have HO315 := n2_
             have HO_269001 := n3_
             have HO_274001 := n4_
             have HO_279001 := n5_
             have HO_285001 := n6_
             have BK251 := n7_
             have BK252 := n8_
             have BK268 := n9_
             have BK273 := n10_
             have BK278 := n11_
             have BK284 := n12_
             have BK317 := n13_
             have GW317 := n14_
             have GE317 := n15_
             have NB251_317 := n16_
             have NB317_251 := n17_
             have NB252_317 := n18_
             have NB317_252 := n19_
             have NB268_317 := n20_
             have NB317_268 := n21_
             have NB273_317 := n22_
             have NB317_273 := n23_
             have NB278_317 := n24_
             have NB317_278 := n25_
             have NB284_317 := n26_
             have NB317_284 := n27_
             have HB := n28_
             clear n0_ n1_ n2_ n3_ n4_ n5_ n6_ n7_ n8_ n9_ n10_ n11_ n12_ n13_ n14_ n15_ n16_ n17_ n18_ n19_ n20_ n21_ n22_ n23_ n24_ n25_ n26_ n27_ n28_
             have hHeld : w182.cell? ⟨gb251,0,none⟩ = some (.int .i64 a0_0) ∧ w182.cell? ⟨gb251,1,none⟩ = some (.slice A0_1 l0_1.length c0_1) ∧ w182.cell? ⟨gb252,0,none⟩ = some (.int .i64 a1_0) ∧ w182.cell? ⟨gb252,1,none⟩ = some (.slice A1_1 l1_1.length c1_1) := hS_
             obtain ⟨Ao184,co184,eo184⟩ := Kd.R_slice HO315.out
             (first|subst eo184|(injection eo184 with f1_ f2_ f3_;have f4_ := f1_.symm;have f5_ := f3_.symm;clear f1_ f2_ f3_;subst f4_;subst f5_))
             refine norm_ (a' := ?_) ?_ ?_
             rotate_left
             ·simp only [putAll,Act.put,List.setIfInBounds_toArray,List.set_cons_zero,List.set_cons_succ]
              rfl
             refine one_ (i := 9) (N := none) #[true,true,true,true,true,true,true,true,true,true,false] rfl rfl (one_of HT_.out (by kernel_rfl)) (by decide) (fun K hK => ?_)
             have hs183 : w182.cell? ⟨gb317,0,none⟩ = some (.int .i64 0) := (blk_cell BK317.out 0).trans rfl
             have hfs183 := blk_frozen BK317.out 0
             have hns183_0 := NB251_317.out
             have hns183_1 := NB252_317.out
             have hns183_2 := NB268_317.out
             have hns183_3 := NB273_317.out
             have hns183_4 := NB278_317.out
             have hns183_5 := NB284_317.out
             have hms183_0 := NB317_251.out
             have hms183_1 := NB317_252.out
             have hms183_2 := NB317_268.out
             have hms183_3 := NB317_273.out
             have hms183_4 := NB317_278.out
             have hms183_5 := NB317_284.out
             have hs185 : w182.cell? ⟨gb317,1,none⟩ = some (.slice none 0 0) := (blk_cell BK317.out 1).trans rfl
             have hfs185 := blk_frozen BK317.out 1
             have hns185_0 := NB251_317.out
             have hns185_1 := NB252_317.out
             have hns185_2 := NB268_317.out
             have hns185_3 := NB273_317.out
             have hns185_4 := NB278_317.out
             have hns185_5 := NB284_317.out
             have hms185_0 := NB317_251.out
             have hms185_1 := NB317_252.out
             have hms185_2 := NB317_268.out
             have hms185_3 := NB317_273.out
             have hms185_4 := NB317_278.out
             have hms185_5 := NB317_284.out
             refine skip_ (w1 := ?_) (by rfl) rfl ?_ ?_
             rotate_left
             ·go_simp
              rfl
             refine hK.out _ _ ⟨((cell_far (p := ⟨gb317,_,none⟩) NB251_317.out _).trans (((cell_far (p := ⟨gb317,_,none⟩) NB251_317.out _).trans (hHeld.1)))),((cell_far (p := ⟨gb317,_,none⟩) NB251_317.out _).trans (((cell_far (p := ⟨gb317,_,none⟩) NB251_317.out _).trans (hHeld.2.1)))),((cell_far (p := ⟨gb317,_,none⟩) NB252_317.out _).trans (((cell_far (p := ⟨gb317,_,none⟩) NB252_317.out _).trans (hHeld.2.2.1)))),((cell_far (p := ⟨gb317,_,none⟩) NB252_317.out _).trans (((cell_far (p := ⟨gb317,_,none⟩) NB252_317.out _).trans (hHeld.2.2.2))))⟩ (fun hHeld => ?_)
             clear hK K
             refine pure_ (i := 10) (N := some 16) (v := ?_) (a' := ?_) #[true,true,true,true,true,true,true,true,true,true,true] rfl rfl (any_of HT_.out (by kernel_rfl)) (fun _ _ _ h => h) (Or.inl ⟨by rfl,?_⟩) ?_ ?_
             rotate_left
             ·intro w'
              go_simp
              with_reducible rfl
             rotate_left
             ·simp only [Act.put,List.setIfInBounds_toArray,List.set_cons_zero,List.set_cons_succ,i64_w,i32_w]
              rfl
             refine done_ (done_of HT_.out (by kernel_rfl)) ?_
             go_upto_region 32 with (fail)
             go_cut [110] (fun v110 wc => ∃ (kq : Nat) (x110_164 : Bool),v110 = .bool x110_164 ∧ Aside0 (laws_FnExactSubA.j2 kq t301 x110_164 t279 t302 = some r) ∧ Aside0 (kq ≤ kj107) ∧ Aside0 (Kd.R k70 70 wc w.heap.size (fun k_ => some k_ ≠ ((.slice Ao52 t297.length co52) : Value).ownBlock ∧ some k_ ≠ ((.slice Ao62 t299.length co62) : Value).ownBlock ∧ some k_ ≠ ((.slice Ao72 t280.length co72) : Value).ownBlock ∧ some k_ ≠ ((.slice Ao184 t313.length co184) : Value).ownBlock) (.slice Ao42 t264.length co42) t264) ∧ Aside0 (Kd.R k70 70 wc w.heap.size (fun k_ => some k_ ≠ ((.slice Ao42 t264.length co42) : Value).ownBlock ∧ some k_ ≠ ((.slice Ao62 t299.length co62) : Value).ownBlock ∧ some k_ ≠ ((.slice Ao72 t280.length co72) : Value).ownBlock ∧ some k_ ≠ ((.slice Ao184 t313.length co184) : Value).ownBlock) (.slice Ao52 t297.length co52) t297) ∧ Aside0 (Kd.R k70 70 wc w.heap.size (fun k_ => some k_ ≠ ((.slice Ao42 t264.length co42) : Value).ownBlock ∧ some k_ ≠ ((.slice Ao52 t297.length co52) : Value).ownBlock ∧ some k_ ≠ ((.slice Ao72 t280.length co72) : Value).ownBlock ∧ some k_ ≠ ((.slice Ao184 t313.length co184) : Value).ownBlock) (.slice Ao62 t299.length co62) t299) ∧ Aside0 (Kd.R k70 70 wc w.heap.size (fun k_ => some k_ ≠ ((.slice Ao42 t264.length co42) : Value).ownBlock ∧ some k_ ≠ ((.slice Ao52 t297.length co52) : Value).ownBlock ∧ some k_ ≠ ((.slice Ao62 t299.length co62) : Value).ownBlock ∧ some k_ ≠ ((.slice Ao184 t313.length co184) : Value).ownBlock) (.slice Ao72 t280.length co72) t302) ∧ Aside0 (Kd.R k70 70 wc w.heap.size (fun k_ => some k_ ≠ ((.slice Ao42 t264.length co42) : Value).ownBlock ∧ some k_ ≠ ((.slice Ao52 t297.length co52) : Value).ownBlock ∧ some k_ ≠ ((.slice Ao62 t299.length co62) : Value).ownBlock ∧ some k_ ≠ ((.slice Ao72 t280.length co72) : Value).ownBlock) (.slice Ao184 t313.length co184) t313) ∧ Aside0 (wc.heap[gb251]? = some (.cells #[.int .i64 a0_0,(.slice A0_1 l0_1.length c0_1)] 24 (0,0))) ∧ Aside0 (wc.heap[gb252]? = some (.cells #[.int .i64 a1_0,(.slice A1_1 l1_1.length c1_1)] 24 (0,0))) ∧ Aside0 (wc.heap[gb268]? = some (.cells #[.int .i64 t263,(.slice Ao42 t264.length co42)] 28 (0,0))) ∧ Aside0 (wc.heap[gb273]? = some (.cells #[.int .i64 t269,(.slice Ao52 t297.length co52)] 28 (0,0))) ∧ Aside0 (wc.heap[gb278]? = some (.cells #[.int .i64 t274,(.slice Ao62 t299.length co62)] 28 (0,0))) ∧ Aside0 (wc.heap[gb284]? = some (.cells #[.int .i64 t279,(.slice Ao72 t280.length co72)] 28 (0,0))) ∧ Aside0 (wc.heap[gb317]? = some (.cells #[.int .i64 t312,(.slice Ao184 t313.length co184)] 28 (0,0))) ∧ Aside0 (Below w.heap.size w wc))
             case first =>
              have H := HC165.out
              clear HC165
              obtain ⟨t318,A186,H⟩ := bindA H
              by_cases c187 : t318 = true
              ·subst c187
               rw [if_pos rfl] at H
               have H' := mk0 H
               clear H
               have hnb188 := NB317_251.out
               have hnc188 := NB251_317.out
               have hnb189 := NB317_252.out
               have hnc189 := NB252_317.out
               have hnb190 := NB317_268.out
               have hnc190 := NB268_317.out
               have hnb191 := NB317_273.out
               have hnc191 := NB273_317.out
               have hnb192 := NB317_278.out
               have hnc192 := NB278_317.out
               have hnb193 := NB317_284.out
               have hnc193 := NB284_317.out
               have z194 := bc2 BK317.out
               have hnb195 := NB268_251.out
               have hnc195 := NB251_268.out
               have hnb196 := NB268_252.out
               have hnc196 := NB252_268.out
               have hnb197 := NB268_273.out
               have hnc197 := NB273_268.out
               have hnb198 := NB268_278.out
               have hnc198 := NB278_268.out
               have hnb199 := NB268_284.out
               have hnc199 := NB284_268.out
               have z200 := bc2 BK268.out
               go_wp2_with (first|((with_reducible refine gate_callee (f := 12) rfl ?_);refine goesL_ (some 104) rfl rfl Try.func12 (by kernel_rfl) rfl #[.agg #[.int .i64 t312,.slice Ao184 t313.length co184],.agg #[.int .i64 t263,.slice Ao42 t264.length co42]] rfl (by (try simp only [List.map_toArray,List.map_cons,List.map_nil]);first|done|rfl) ?_;(with_reducible refine (laws_eqAff.calls kj107 t312 _ _ t313 t263 _ _ t264 true _ ?side1 ?side2 ?side3 ?side4 A186.out).mono ?_);(case side1 => refine (Kd.R_reads' (e := 70) (base := w.heap.size) (ok := fun k_ => (some k_ ≠ (v306 : Value).ownBlock ∧ (some k_ ≠ (v310 : Value).ownBlock ∧ (some k_ ≠ (.slice Ao42 t264.length co42 : Value).ownBlock ∧ (some k_ ≠ (.slice Ao52 t297.length co52 : Value).ownBlock ∧ (some k_ ≠ (.slice Ao62 t299.length co62 : Value).ownBlock ∧ some k_ ≠ (.slice Ao72 t280.length co72 : Value).ownBlock)))))) (n := t313.length) (c := co184) ?_).2.2;exact (by exact rX (Kd.R_mono (Kd.R_far (p := ⟨gb317,1,none⟩) (Kd.R_far (p := ⟨gb317,0,none⟩) (Kd.R_types HO315.out BK317.out (by decide)) (fun _ hk => hk.2) (.int .i64 t312)) (fun _ hk => hk.2) (.slice Ao184 t313.length co184)) (fun _ h_ => h_.1))));(case side2 => exact (Kd.R_reads' HO315.out).2.1);(case side3 => refine (Kd.R_reads' (e := 70) (base := w.heap.size) (ok := fun k_ => (some k_ ≠ (v306 : Value).ownBlock ∧ (some k_ ≠ (v310 : Value).ownBlock ∧ (some k_ ≠ (.slice Ao184 t313.length co184 : Value).ownBlock ∧ (some k_ ≠ (.slice Ao52 t297.length co52 : Value).ownBlock ∧ (some k_ ≠ (.slice Ao62 t299.length co62 : Value).ownBlock ∧ some k_ ≠ (.slice Ao72 t280.length co72 : Value).ownBlock)))))) (n := t264.length) (c := co42) ?_).2.2;exact (by exact rX (Kd.R_mono (Kd.R_far (p := ⟨gb317,1,none⟩) (Kd.R_far (p := ⟨gb317,0,none⟩) (Kd.R_types HO_269001.out BK317.out (by decide)) (fun _ hk => hk.2) (.int .i64 t312)) (fun _ hk => hk.2) (.slice Ao184 t313.length co184)) (fun _ h_ => h_.1))));(case side4 => exact (Kd.R_reads' HO_269001.out).2.1);rintro e w201 ⟨rfl,hb⟩;refine ⟨_,rfl,?_⟩;have n0_ := mk0 (Kd.R_below (by exact rX (Kd.R_mono (Kd.R_far (p := ⟨gb317,1,none⟩) (Kd.R_far (p := ⟨gb317,0,none⟩) (Kd.R_types HO_269001.out BK317.out (by decide)) (fun _ hk => hk.2) (.int .i64 t312)) (fun _ hk => hk.2) (.slice Ao184 t313.length co184)) (fun _ h_ => h_.1))) hb);have n1_ := mk0 (Kd.R_below (by exact rX (Kd.R_mono (Kd.R_far (p := ⟨gb317,1,none⟩) (Kd.R_far (p := ⟨gb317,0,none⟩) (Kd.R_types HO_274001.out BK317.out (by decide)) (fun _ hk => hk.2) (.int .i64 t312)) (fun _ hk => hk.2) (.slice Ao184 t313.length co184)) (fun _ h_ => h_.1))) hb);have n2_ := mk0 (Kd.R_below (by exact rX (Kd.R_mono (Kd.R_far (p := ⟨gb317,1,none⟩) (Kd.R_far (p := ⟨gb317,0,none⟩) (Kd.R_types HO_279001.out BK317.out (by decide)) (fun _ hk => hk.2) (.int .i64 t312)) (fun _ hk => hk.2) (.slice Ao184 t313.length co184)) (fun _ h_ => h_.1))) hb);have n3_ := mk0 (Kd.R_below (by exact rX (Kd.R_mono (Kd.R_far (p := ⟨gb317,1,none⟩) (Kd.R_far (p := ⟨gb317,0,none⟩) (Kd.R_types HO_285001.out BK317.out (by decide)) (fun _ hk => hk.2) (.int .i64 t312)) (fun _ hk => hk.2) (.slice Ao184 t313.length co184)) (fun _ h_ => h_.1))) hb);have n4_ := mk0 (Kd.R_below (by exact rX (Kd.R_mono (Kd.R_far (p := ⟨gb317,1,none⟩) (Kd.R_far (p := ⟨gb317,0,none⟩) (Kd.R_types HO307.out BK317.out (by decide)) (fun _ hk => hk.2) (.int .i64 t312)) (fun _ hk => hk.2) (.slice Ao184 t313.length co184)) (fun _ h_ => h_.1))) hb);have n5_ := mk0 (Kd.R_below (by exact rX (Kd.R_mono (Kd.R_far (p := ⟨gb317,1,none⟩) (Kd.R_far (p := ⟨gb317,0,none⟩) (Kd.R_types HO311.out BK317.out (by decide)) (fun _ hk => hk.2) (.int .i64 t312)) (fun _ hk => hk.2) (.slice Ao184 t313.length co184)) (fun _ h_ => h_.1))) hb);have n6_ := mk0 (Kd.R_below (by exact rX (Kd.R_mono (Kd.R_far (p := ⟨gb317,1,none⟩) (Kd.R_far (p := ⟨gb317,0,none⟩) (Kd.R_types HO315.out BK317.out (by decide)) (fun _ hk => hk.2) (.int .i64 t312)) (fun _ hk => hk.2) (.slice Ao184 t313.length co184)) (fun _ h_ => h_.1))) hb);have n7_ := mk0 (blk_below (g := gb251) (o := .cells #[.int .i64 a0_0,.slice A0_1 l0_1.length c0_1] 24 (0,0)) (by refine kX ?_;refine blk_far ?_ NB251_317.out _;refine kX ?_;refine blk_far ?_ NB251_317.out _;exact kX BK251.out) hb);have n8_ := mk0 (blk_below (g := gb252) (o := .cells #[.int .i64 a1_0,.slice A1_1 l1_1.length c1_1] 24 (0,0)) (by refine kX ?_;refine blk_far ?_ NB252_317.out _;refine kX ?_;refine blk_far ?_ NB252_317.out _;exact kX BK252.out) hb);have n9_ := mk0 (blk_below (g := gb268) (o := .cells #[.int .i64 t263,.slice Ao42 t264.length co42] 28 (0,0)) (by refine kX ?_;refine blk_far ?_ NB268_317.out _;refine kX ?_;refine blk_far ?_ NB268_317.out _;exact kX BK268.out) hb);have n10_ := mk0 (blk_below (g := gb273) (o := .cells #[.int .i64 t269,.slice Ao52 t297.length co52] 28 (0,0)) (by refine kX ?_;refine blk_far ?_ NB273_317.out _;refine kX ?_;refine blk_far ?_ NB273_317.out _;exact kX BK273.out) hb);have n11_ := mk0 (blk_below (g := gb278) (o := .cells #[.int .i64 t274,.slice Ao62 t299.length co62] 28 (0,0)) (by refine kX ?_;refine blk_far ?_ NB278_317.out _;refine kX ?_;refine blk_far ?_ NB278_317.out _;exact kX BK278.out) hb);have n12_ := mk0 (blk_below (g := gb284) (o := .cells #[.int .i64 t279,.slice Ao72 t280.length co72] 28 (0,0)) (by refine kX ?_;refine blk_far ?_ NB284_317.out _;refine kX ?_;refine blk_far ?_ NB284_317.out _;exact kX BK284.out) hb);have n13_ := mk0 (blk_below (g := gb317) (o := .cells #[.int .i64 t312,.slice Ao184 t313.length co184] 28 (0,0)) (by refine kX ?_;refine blk_put (cs := #[.int .i64 t312,.slice none 0 0]) ?_ 1 _ rfl;refine kX ?_;refine blk_put (cs := #[.int .i64 0,.slice none 0 0]) ?_ 0 _ rfl;exact kX BK317.out) hb);have n14_ := mk0 (below_step (by repeat (first|(with_reducible first|exact HB.out|apply bA|apply bN|apply bD|refine bS ?_ GE251.out|refine bS ?_ GE252.out|refine bS ?_ GE268.out|refine bS ?_ GE273.out|refine bS ?_ GE278.out|refine bS ?_ GE284.out|refine bS ?_ GE317.out)|exact HB.out)) hb);clear HO_269001;clear HO_274001;clear HO_279001;clear HO_285001;clear HO307;clear HO311;clear HO315;clear BK251;clear BK252;clear BK268;clear BK273;clear BK278;clear BK284;clear BK317;clear HB;have HO_269001 := n0_;have HO_274001 := n1_;have HO_279001 := n2_;have HO_285001 := n3_;have HO307 := n4_;have HO311 := n5_;have HO315 := n6_;have BK251 := n7_;have BK252 := n8_;have BK268 := n9_;have BK273 := n10_;have BK278 := n11_;have BK284 := n12_;have BK317 := n13_;have HB := n14_;clear n0_ n1_ n2_ n3_ n4_ n5_ n6_ n7_ n8_ n9_ n10_ n11_ n12_ n13_ n14_;(try clear hb);(try clear hb2);(try clear hk);(try clear hi)))
               go_meet
               case rel => exact ⟨_,((t316 != t267)),(by first|rfl|(simp;done)|(simp [*];done)),H',⟨by have := HJ24.out;have := HJ107.out;first|omega|exact Nat.le_refl _⟩,⟨by (try simp only [hl274001_107]);(try simp only [hl279001_107]);refine rX ?_;exact Kd.R_mono HO_269001.out (fun _ hk => ⟨hk.2.2.2.1,⟨hk.2.2.2.2.1,⟨hk.2.2.2.2.2,hk.2.2.1⟩⟩⟩)⟩,⟨by (try simp only [hl274001_107]);(try simp only [hl279001_107]);refine rX ?_;exact Kd.R_mono HO_274001.out (fun _ hk => ⟨hk.2.2.2.1,⟨hk.2.2.2.2.1,⟨hk.2.2.2.2.2,hk.2.2.1⟩⟩⟩)⟩,⟨by (try simp only [hl274001_107]);(try simp only [hl279001_107]);refine rX ?_;exact Kd.R_mono HO_279001.out (fun _ hk => ⟨hk.2.2.2.1,⟨hk.2.2.2.2.1,⟨hk.2.2.2.2.2,hk.2.2.1⟩⟩⟩)⟩,⟨by (try simp only [hl274001_107]);(try simp only [hl279001_107]);refine rX ?_;exact Kd.R_mono HO_285001.out (fun _ hk => ⟨hk.2.2.2.1,⟨hk.2.2.2.2.1,⟨hk.2.2.2.2.2,hk.2.2.1⟩⟩⟩)⟩,⟨by (try simp only [hl274001_107]);(try simp only [hl279001_107]);refine rX ?_;exact Kd.R_mono HO315.out (fun _ hk => ⟨hk.2.2.1,⟨hk.2.2.2.1,⟨hk.2.2.2.2.1,hk.2.2.2.2.2⟩⟩⟩)⟩,⟨by (try simp only [hl274001_107]);(try simp only [hl279001_107]);refine kX ?_;exact BK251.out⟩,⟨by (try simp only [hl274001_107]);(try simp only [hl279001_107]);refine kX ?_;exact BK252.out⟩,⟨by (try simp only [hl274001_107]);(try simp only [hl279001_107]);refine kX ?_;exact BK268.out⟩,⟨by (try simp only [hl274001_107]);(try simp only [hl279001_107]);refine kX ?_;exact BK273.out⟩,⟨by (try simp only [hl274001_107]);(try simp only [hl279001_107]);refine kX ?_;exact BK278.out⟩,⟨by (try simp only [hl274001_107]);(try simp only [hl279001_107]);refine kX ?_;exact BK284.out⟩,⟨by (try simp only [hl274001_107]);(try simp only [hl279001_107]);refine kX ?_;exact BK317.out⟩,⟨by repeat (first|(with_reducible first|exact HB.out|apply bA|apply bN|apply bD|refine bS ?_ GE251.out|refine bS ?_ GE252.out|refine bS ?_ GE268.out|refine bS ?_ GE273.out|refine bS ?_ GE278.out|refine bS ?_ GE284.out|refine bS ?_ GE317.out)|exact HB.out)⟩⟩
              ·replace c187 := Bool.eq_false_iff.mpr c187
               subst c187
               rw [if_neg (show ¬ (false = true) by decide)] at H
               have H' := mk0 H
               clear H
               have hnb202 := NB317_251.out
               have hnc202 := NB251_317.out
               have hnb203 := NB317_252.out
               have hnc203 := NB252_317.out
               have hnb204 := NB317_268.out
               have hnc204 := NB268_317.out
               have hnb205 := NB317_273.out
               have hnc205 := NB273_317.out
               have hnb206 := NB317_278.out
               have hnc206 := NB278_317.out
               have hnb207 := NB317_284.out
               have hnc207 := NB284_317.out
               have z208 := bc2 BK317.out
               have hnb209 := NB268_251.out
               have hnc209 := NB251_268.out
               have hnb210 := NB268_252.out
               have hnc210 := NB252_268.out
               have hnb211 := NB268_273.out
               have hnc211 := NB273_268.out
               have hnb212 := NB268_278.out
               have hnc212 := NB278_268.out
               have hnb213 := NB268_284.out
               have hnc213 := NB284_268.out
               have z214 := bc2 BK268.out
               go_wp2_with (first|((with_reducible refine gate_callee (f := 12) rfl ?_);refine goesL_ (some 104) rfl rfl Try.func12 (by kernel_rfl) rfl #[.agg #[.int .i64 t312,.slice Ao184 t313.length co184],.agg #[.int .i64 t263,.slice Ao42 t264.length co42]] rfl (by (try simp only [List.map_toArray,List.map_cons,List.map_nil]);first|done|rfl) ?_;(with_reducible refine (laws_eqAff.calls kj107 t312 _ _ t313 t263 _ _ t264 false _ ?side1 ?side2 ?side3 ?side4 A186.out).mono ?_);(case side1 => refine (Kd.R_reads' (e := 70) (base := w.heap.size) (ok := fun k_ => (some k_ ≠ (v306 : Value).ownBlock ∧ (some k_ ≠ (v310 : Value).ownBlock ∧ (some k_ ≠ (.slice Ao42 t264.length co42 : Value).ownBlock ∧ (some k_ ≠ (.slice Ao52 t297.length co52 : Value).ownBlock ∧ (some k_ ≠ (.slice Ao62 t299.length co62 : Value).ownBlock ∧ some k_ ≠ (.slice Ao72 t280.length co72 : Value).ownBlock)))))) (n := t313.length) (c := co184) ?_).2.2;exact (by exact rX (Kd.R_mono (Kd.R_far (p := ⟨gb317,1,none⟩) (Kd.R_far (p := ⟨gb317,0,none⟩) (Kd.R_types HO315.out BK317.out (by decide)) (fun _ hk => hk.2) (.int .i64 t312)) (fun _ hk => hk.2) (.slice Ao184 t313.length co184)) (fun _ h_ => h_.1))));(case side2 => exact (Kd.R_reads' HO315.out).2.1);(case side3 => refine (Kd.R_reads' (e := 70) (base := w.heap.size) (ok := fun k_ => (some k_ ≠ (v306 : Value).ownBlock ∧ (some k_ ≠ (v310 : Value).ownBlock ∧ (some k_ ≠ (.slice Ao184 t313.length co184 : Value).ownBlock ∧ (some k_ ≠ (.slice Ao52 t297.length co52 : Value).ownBlock ∧ (some k_ ≠ (.slice Ao62 t299.length co62 : Value).ownBlock ∧ some k_ ≠ (.slice Ao72 t280.length co72 : Value).ownBlock)))))) (n := t264.length) (c := co42) ?_).2.2;exact (by exact rX (Kd.R_mono (Kd.R_far (p := ⟨gb317,1,none⟩) (Kd.R_far (p := ⟨gb317,0,none⟩) (Kd.R_types HO_269001.out BK317.out (by decide)) (fun _ hk => hk.2) (.int .i64 t312)) (fun _ hk => hk.2) (.slice Ao184 t313.length co184)) (fun _ h_ => h_.1))));(case side4 => exact (Kd.R_reads' HO_269001.out).2.1);rintro e w215 ⟨rfl,hb⟩;refine ⟨_,rfl,?_⟩;have n0_ := mk0 (Kd.R_below (by exact rX (Kd.R_mono (Kd.R_far (p := ⟨gb317,1,none⟩) (Kd.R_far (p := ⟨gb317,0,none⟩) (Kd.R_types HO_269001.out BK317.out (by decide)) (fun _ hk => hk.2) (.int .i64 t312)) (fun _ hk => hk.2) (.slice Ao184 t313.length co184)) (fun _ h_ => h_.1))) hb);have n1_ := mk0 (Kd.R_below (by exact rX (Kd.R_mono (Kd.R_far (p := ⟨gb317,1,none⟩) (Kd.R_far (p := ⟨gb317,0,none⟩) (Kd.R_types HO_274001.out BK317.out (by decide)) (fun _ hk => hk.2) (.int .i64 t312)) (fun _ hk => hk.2) (.slice Ao184 t313.length co184)) (fun _ h_ => h_.1))) hb);have n2_ := mk0 (Kd.R_below (by exact rX (Kd.R_mono (Kd.R_far (p := ⟨gb317,1,none⟩) (Kd.R_far (p := ⟨gb317,0,none⟩) (Kd.R_types HO_279001.out BK317.out (by decide)) (fun _ hk => hk.2) (.int .i64 t312)) (fun _ hk => hk.2) (.slice Ao184 t313.length co184)) (fun _ h_ => h_.1))) hb);have n3_ := mk0 (Kd.R_below (by exact rX (Kd.R_mono (Kd.R_far (p := ⟨gb317,1,none⟩) (Kd.R_far (p := ⟨gb317,0,none⟩) (Kd.R_types HO_285001.out BK317.out (by decide)) (fun _ hk => hk.2) (.int .i64 t312)) (fun _ hk => hk.2) (.slice Ao184 t313.length co184)) (fun _ h_ => h_.1))) hb);have n4_ := mk0 (Kd.R_below (by exact rX (Kd.R_mono (Kd.R_far (p := ⟨gb317,1,none⟩) (Kd.R_far (p := ⟨gb317,0,none⟩) (Kd.R_types HO307.out BK317.out (by decide)) (fun _ hk => hk.2) (.int .i64 t312)) (fun _ hk => hk.2) (.slice Ao184 t313.length co184)) (fun _ h_ => h_.1))) hb);have n5_ := mk0 (Kd.R_below (by exact rX (Kd.R_mono (Kd.R_far (p := ⟨gb317,1,none⟩) (Kd.R_far (p := ⟨gb317,0,none⟩) (Kd.R_types HO311.out BK317.out (by decide)) (fun _ hk => hk.2) (.int .i64 t312)) (fun _ hk => hk.2) (.slice Ao184 t313.length co184)) (fun _ h_ => h_.1))) hb);have n6_ := mk0 (Kd.R_below (by exact rX (Kd.R_mono (Kd.R_far (p := ⟨gb317,1,none⟩) (Kd.R_far (p := ⟨gb317,0,none⟩) (Kd.R_types HO315.out BK317.out (by decide)) (fun _ hk => hk.2) (.int .i64 t312)) (fun _ hk => hk.2) (.slice Ao184 t313.length co184)) (fun _ h_ => h_.1))) hb);have n7_ := mk0 (blk_below (g := gb251) (o := .cells #[.int .i64 a0_0,.slice A0_1 l0_1.length c0_1] 24 (0,0)) (by refine kX ?_;refine blk_far ?_ NB251_317.out _;refine kX ?_;refine blk_far ?_ NB251_317.out _;exact kX BK251.out) hb);have n8_ := mk0 (blk_below (g := gb252) (o := .cells #[.int .i64 a1_0,.slice A1_1 l1_1.length c1_1] 24 (0,0)) (by refine kX ?_;refine blk_far ?_ NB252_317.out _;refine kX ?_;refine blk_far ?_ NB252_317.out _;exact kX BK252.out) hb);have n9_ := mk0 (blk_below (g := gb268) (o := .cells #[.int .i64 t263,.slice Ao42 t264.length co42] 28 (0,0)) (by refine kX ?_;refine blk_far ?_ NB268_317.out _;refine kX ?_;refine blk_far ?_ NB268_317.out _;exact kX BK268.out) hb);have n10_ := mk0 (blk_below (g := gb273) (o := .cells #[.int .i64 t269,.slice Ao52 t297.length co52] 28 (0,0)) (by refine kX ?_;refine blk_far ?_ NB273_317.out _;refine kX ?_;refine blk_far ?_ NB273_317.out _;exact kX BK273.out) hb);have n11_ := mk0 (blk_below (g := gb278) (o := .cells #[.int .i64 t274,.slice Ao62 t299.length co62] 28 (0,0)) (by refine kX ?_;refine blk_far ?_ NB278_317.out _;refine kX ?_;refine blk_far ?_ NB278_317.out _;exact kX BK278.out) hb);have n12_ := mk0 (blk_below (g := gb284) (o := .cells #[.int .i64 t279,.slice Ao72 t280.length co72] 28 (0,0)) (by refine kX ?_;refine blk_far ?_ NB284_317.out _;refine kX ?_;refine blk_far ?_ NB284_317.out _;exact kX BK284.out) hb);have n13_ := mk0 (blk_below (g := gb317) (o := .cells #[.int .i64 t312,.slice Ao184 t313.length co184] 28 (0,0)) (by refine kX ?_;refine blk_put (cs := #[.int .i64 t312,.slice none 0 0]) ?_ 1 _ rfl;refine kX ?_;refine blk_put (cs := #[.int .i64 0,.slice none 0 0]) ?_ 0 _ rfl;exact kX BK317.out) hb);have n14_ := mk0 (below_step (by repeat (first|(with_reducible first|exact HB.out|apply bA|apply bN|apply bD|refine bS ?_ GE251.out|refine bS ?_ GE252.out|refine bS ?_ GE268.out|refine bS ?_ GE273.out|refine bS ?_ GE278.out|refine bS ?_ GE284.out|refine bS ?_ GE317.out)|exact HB.out)) hb);clear HO_269001;clear HO_274001;clear HO_279001;clear HO_285001;clear HO307;clear HO311;clear HO315;clear BK251;clear BK252;clear BK268;clear BK273;clear BK278;clear BK284;clear BK317;clear HB;have HO_269001 := n0_;have HO_274001 := n1_;have HO_279001 := n2_;have HO_285001 := n3_;have HO307 := n4_;have HO311 := n5_;have HO315 := n6_;have BK251 := n7_;have BK252 := n8_;have BK268 := n9_;have BK273 := n10_;have BK278 := n11_;have BK284 := n12_;have BK317 := n13_;have HB := n14_;clear n0_ n1_ n2_ n3_ n4_ n5_ n6_ n7_ n8_ n9_ n10_ n11_ n12_ n13_ n14_;(try clear hb);(try clear hb2);(try clear hk);(try clear hi)))
               go_meet
               case rel => exact ⟨_,(true),(by first|rfl|(simp;done)|(simp [*];done)),H',⟨by have := HJ24.out;have := HJ107.out;first|omega|exact Nat.le_refl _⟩,⟨by (try simp only [hl274001_107]);(try simp only [hl279001_107]);refine rX ?_;exact Kd.R_mono HO_269001.out (fun _ hk => ⟨hk.2.2.2.1,⟨hk.2.2.2.2.1,⟨hk.2.2.2.2.2,hk.2.2.1⟩⟩⟩)⟩,⟨by (try simp only [hl274001_107]);(try simp only [hl279001_107]);refine rX ?_;exact Kd.R_mono HO_274001.out (fun _ hk => ⟨hk.2.2.2.1,⟨hk.2.2.2.2.1,⟨hk.2.2.2.2.2,hk.2.2.1⟩⟩⟩)⟩,⟨by (try simp only [hl274001_107]);(try simp only [hl279001_107]);refine rX ?_;exact Kd.R_mono HO_279001.out (fun _ hk => ⟨hk.2.2.2.1,⟨hk.2.2.2.2.1,⟨hk.2.2.2.2.2,hk.2.2.1⟩⟩⟩)⟩,⟨by (try simp only [hl274001_107]);(try simp only [hl279001_107]);refine rX ?_;exact Kd.R_mono HO_285001.out (fun _ hk => ⟨hk.2.2.2.1,⟨hk.2.2.2.2.1,⟨hk.2.2.2.2.2,hk.2.2.1⟩⟩⟩)⟩,⟨by (try simp only [hl274001_107]);(try simp only [hl279001_107]);refine rX ?_;exact Kd.R_mono HO315.out (fun _ hk => ⟨hk.2.2.1,⟨hk.2.2.2.1,⟨hk.2.2.2.2.1,hk.2.2.2.2.2⟩⟩⟩)⟩,⟨by (try simp only [hl274001_107]);(try simp only [hl279001_107]);refine kX ?_;exact BK251.out⟩,⟨by (try simp only [hl274001_107]);(try simp only [hl279001_107]);refine kX ?_;exact BK252.out⟩,⟨by (try simp only [hl274001_107]);(try simp only [hl279001_107]);refine kX ?_;exact BK268.out⟩,⟨by (try simp only [hl274001_107]);(try simp only [hl279001_107]);refine kX ?_;exact BK273.out⟩,⟨by (try simp only [hl274001_107]);(try simp only [hl279001_107]);refine kX ?_;exact BK278.out⟩,⟨by (try simp only [hl274001_107]);(try simp only [hl279001_107]);refine kX ?_;exact BK284.out⟩,⟨by (try simp only [hl274001_107]);(try simp only [hl279001_107]);refine kX ?_;exact BK317.out⟩,⟨by repeat (first|(with_reducible first|exact HB.out|apply bA|apply bN|apply bD|refine bS ?_ GE251.out|refine bS ?_ GE252.out|refine bS ?_ GE268.out|refine bS ?_ GE273.out|refine bS ?_ GE278.out|refine bS ?_ GE284.out|refine bS ?_ GE317.out)|exact HB.out)⟩⟩
             case rest =>
              clear HC165
              try clear c1
              try clear c2
              try clear p2
              try clear c10
              try clear c12
              try clear c16
              try clear c18
              try clear c19
              try clear c20
              try clear c21
              try clear c187
              try clear c188
              try clear c189
              try clear c190
              try clear c191
              try clear c192
              try clear c193
              try clear c195
              try clear c196
              try clear c197
              try clear c198
              try clear c199
              try clear c202
              try clear c203
              try clear c204
              try clear c205
              try clear c206
              try clear c207
              try clear c209
              try clear c210
              try clear c211
              try clear c212
              try clear c213
              try clear z194
              try clear z200
              try clear z208
              try clear z214
              try clear z194
              try clear z200
              try clear z208
              try clear z214
              obtain ⟨kq,x110_164,rfl,HA,HJ164,HO_269001,HO_274001,HO_279001,HO_285001,HO_318001,BK251,BK252,BK268,BK273,BK278,BK284,BK317,HB⟩ := hcut
              have hl285001_164 := (Kd.R_reads' HO_285001.out).1
              rw [hl285001_164] at HO_285001
              (try simp only [hl285001_164])
              (try simp only [hl285001_164] at BK251)
              (try simp only [hl285001_164] at BK252)
              (try simp only [hl285001_164] at BK268)
              (try simp only [hl285001_164] at BK273)
              (try simp only [hl285001_164] at BK278)
              (try simp only [hl285001_164] at BK284)
              (try simp only [hl285001_164] at BK317)
              (try simp only [hl285001_164] at HO_269001)
              (try simp only [hl285001_164] at HO_274001)
              (try simp only [hl285001_164] at HO_279001)
              (try simp only [hl285001_164] at HO_318001)
              cases kq with
                           |zero => exact absurd HA.out (by simp [laws_FnExactSubA.j2])
                           |succ kj164 =>
               have H := HA.out
               clear HA
               simp only [laws_FnExactSubA.j2] at H
               by_cases c216 : x110_164 = true
               ·subst c216
                rw [if_pos rfl] at H
                exact absurd H (by simp)
               ·replace c216 := Bool.eq_false_iff.mpr c216
                subst c216
                rw [if_neg (show ¬ (false = true) by decide)] at H
                obtain ⟨t319,A217,H⟩ := bindA H
                by_cases c218 : t319 < 0
                ·rw [if_pos c218] at H
                 exact absurd H (by simp)
                ·rw [if_neg c218] at H
                 have c218b0 : decide (t319 < 0) = false := decide_eq_false c218
                 clear c218
                 by_cases c219 : t319 = t301
                 ·rw [if_pos c219] at H
                  have c219b0 : (t319 == t301) = true := beq_iff_eq.mpr c219
                  have c219b1 : (t319 != t301) = false := bne_eq_false_iff_eq.mpr c219
                  clear c219
                  obtain rfl := Option.some.inj H
                  have hnb220 := NB284_251.out
                  have hnc220 := NB251_284.out
                  have hnb221 := NB284_252.out
                  have hnc221 := NB252_284.out
                  have hnb222 := NB284_268.out
                  have hnc222 := NB268_284.out
                  have hnb223 := NB284_273.out
                  have hnc223 := NB273_284.out
                  have hnb224 := NB284_278.out
                  have hnc224 := NB278_284.out
                  have hnb225 := NB284_317.out
                  have hnc225 := NB317_284.out
                  have z226 := bc2 BK284.out
                  go_wp2_with (first|((with_reducible refine gate_callee (f := 14) rfl ?_);refine goesL_ (some 113) rfl rfl Try.func14 (by kernel_rfl) rfl #[.agg #[.int .i64 t279,.slice Ao72 t302.length co72],.int .i64 1] rfl (by (try simp only [List.map_toArray,List.map_cons,List.map_nil]);first|done|rfl) ?_;(with_reducible refine (laws_heldAff.calls kj164 t279 _ _ t302 1 t319 _ ?side1 ?side2 A217.out).mono ?_);(case side1 => repeat (first|exact (Kd.R_reads' HO_285001.out).2.2|(with_reducible refine cA ?_ _)|(with_reducible refine cN ?_ _)|(with_reducible refine cD ?_)));(case side2 => exact (Kd.R_reads' HO_285001.out).2.1);rintro e w227 ⟨rfl,hb⟩;refine ⟨_,rfl,?_⟩;have n0_ := mk0 (Kd.R_below (by exact rX HO_269001.out) hb);have n1_ := mk0 (Kd.R_below (by exact rX HO_274001.out) hb);have n2_ := mk0 (Kd.R_below (by exact rX HO_279001.out) hb);have n3_ := mk0 (Kd.R_below (by exact rX HO_285001.out) hb);have n4_ := mk0 (Kd.R_below (by exact rX HO_318001.out) hb);have n5_ := mk0 (blk_below (by exact kX BK251.out) hb);have n6_ := mk0 (blk_below (by exact kX BK252.out) hb);have n7_ := mk0 (blk_below (by exact kX BK268.out) hb);have n8_ := mk0 (blk_below (by exact kX BK273.out) hb);have n9_ := mk0 (blk_below (by exact kX BK278.out) hb);have n10_ := mk0 (blk_below (by exact kX BK284.out) hb);have n11_ := mk0 (blk_below (by exact kX BK317.out) hb);have n12_ := mk0 (below_step (by repeat (first|(with_reducible first|exact HB.out|apply bA|apply bN|apply bD|refine bS ?_ GE251.out|refine bS ?_ GE252.out|refine bS ?_ GE268.out|refine bS ?_ GE273.out|refine bS ?_ GE278.out|refine bS ?_ GE284.out|refine bS ?_ GE317.out)|exact HB.out)) hb);clear HO_269001;clear HO_274001;clear HO_279001;clear HO_285001;clear HO_318001;clear BK251;clear BK252;clear BK268;clear BK273;clear BK278;clear BK284;clear BK317;clear HB;have HO_269001 := n0_;have HO_274001 := n1_;have HO_279001 := n2_;have HO_285001 := n3_;have HO_318001 := n4_;have BK251 := n5_;have BK252 := n6_;have BK268 := n7_;have BK273 := n8_;have BK278 := n9_;have BK284 := n10_;have BK317 := n11_;have HB := n12_;clear n0_ n1_ n2_ n3_ n4_ n5_ n6_ n7_ n8_ n9_ n10_ n11_ n12_;(try clear hb);(try clear hb2);(try clear hk);(try clear hi)))
                  go_ret
                  exact ⟨by first|rfl|(simp [errW_none,errW_some] <;> rfl)|(simp [*,errW_none,errW_some] <;> rfl),by repeat (first|(with_reducible first|exact HB.out|apply bA|apply bN|apply bD|refine bS ?_ GE251.out|refine bS ?_ GE252.out|refine bS ?_ GE268.out|refine bS ?_ GE273.out|refine bS ?_ GE278.out|refine bS ?_ GE284.out|refine bS ?_ GE317.out)|exact HB.out)⟩
                 ·rw [if_neg c219] at H
                  exact absurd H (by simp)
            ·rw [if_neg c161] at H
             exact absurd H (by simp)
       ·replace c105 := Bool.eq_false_iff.mpr c105
        subst c105
        rw [if_neg (show ¬ (false = true) by decide)] at H
        exact absurd H (by simp)
      ·replace c102 := Bool.eq_false_iff.mpr c102
       subst c102
       rw [if_neg (show ¬ (false = true) by decide)] at H
       exact absurd H (by simp)
 all_goals
  go_enter Try.func4,Try.ntmps4
  go_wp2_with (first|((with_reducible refine gate_dst (N := 2) rfl ?_);refine box_event ?hg (N := 2) ?hd (cs := #[.int .i64 a0_0,.slice A0_1 l0_1.length c0_1]) (t := 24) ?hr ?_;(case hd => rfl);(case hg => rfl);(case hr => first|(go_simp;done)|(go_simp;rfl));intro gb251 hg w12 hbox hb;have q_ := qB (by repeat (first|(with_reducible first|exact HB.out|apply bA|apply bN|apply bD)|exact HB.out)) hb;have n0_ := mk0 (below_step q_ hb);have n1_ := mk0 (hbox);have n2_ := mk0 (below_size2 q_ hg);have n3_ := n2_;clear HB;have HB := n0_;have BK251 := n1_;have GW251 := n2_;have GE251 := n3_;clear q_ n0_ n1_ n2_ n3_;clear hb hbox hg)|((with_reducible refine gate_dst (N := 3) rfl ?_);refine box_event ?hg (N := 3) ?hd (cs := #[.int .i64 a1_0,.slice A1_1 l1_1.length c1_1]) (t := 24) ?hr ?_;(case hd => rfl);(case hg => rfl);(case hr => first|(go_simp;done)|(go_simp;rfl));intro gb252 hg w13 hbox hb;have q_ := qB (by repeat (first|(with_reducible first|exact HB.out|apply bA|apply bN|apply bD|refine bS ?_ GE251.out)|exact HB.out)) hb;have n0_ := mk0 (blk_below (by exact kX BK251.out) hb);have n1_ := mk0 (below_step q_ hb);have n2_ := mk0 (hbox);have n3_ := mk0 (below_size2 q_ hg);have n4_ := n3_;have n5_ := mk0 ((by rw [hg];exact Nat.ne_of_lt (blk_lt (by exact kX BK251.out)) : gb251 ≠ gb252));have n6_ := mk0 ((by rw [hg];exact Nat.ne_of_gt (blk_lt (by exact kX BK251.out)) : gb252 ≠ gb251));clear BK251;clear HB;have BK251 := n0_;have HB := n1_;have BK252 := n2_;have GW252 := n3_;have GE252 := n4_;have NB251_252 := n5_;have NB252_251 := n6_;clear q_ n0_ n1_ n2_ n3_ n4_ n5_ n6_;clear hb hbox hg;have hnb14 := NB251_252.out;have hnc14 := NB252_251.out;have z15 := bc2 BK251.out)|((with_reducible refine gate_callee (f := 8) rfl ?_);refine goesL_ (some 19) rfl rfl Try.func8 (by kernel_rfl) rfl #[.agg #[.int .i64 a0_0,.slice A0_1 l0_1.length c0_1],.int .i64 1048576] rfl (by (try simp only [List.map_toArray,List.map_cons,List.map_nil]);first|done|rfl) ?_;(with_reducible refine (laws_szAff.calls k a0_0 _ _ l0_1 1048576 t253 _ ?side1 ?side2 A3.out).mono ?_);(case side1 => repeat (first|exact (Kd.C_below HR0_1.out HB.out)|(with_reducible refine cA ?_ _)|(with_reducible refine cN ?_ _)|(with_reducible refine cD ?_)));(case side2 => exact HC0_1.out);rintro e w16 ⟨rfl,hb⟩;refine ⟨_,rfl,?_⟩;have n0_ := mk0 (blk_below (by exact kX BK251.out) hb);have n1_ := mk0 (blk_below (by exact kX BK252.out) hb);have n2_ := mk0 (below_step (by repeat (first|(with_reducible first|exact HB.out|apply bA|apply bN|apply bD|refine bS ?_ GE251.out|refine bS ?_ GE252.out)|exact HB.out)) hb);clear BK251;clear BK252;clear HB;have BK251 := n0_;have BK252 := n1_;have HB := n2_;clear n0_ n1_ n2_;(try clear hb);(try clear hb2);(try clear hk);(try clear hi);have z17 := bc2 BK252.out)|((with_reducible refine gate_callee (f := 8) rfl ?_);refine goesL_ (some 24) rfl rfl Try.func8 (by kernel_rfl) rfl #[.agg #[.int .i64 a1_0,.slice A1_1 l1_1.length c1_1],.int .i64 t253] rfl (by (try simp only [List.map_toArray,List.map_cons,List.map_nil]);first|done|rfl) ?_;(with_reducible refine (laws_szAff.calls k a1_0 _ _ l1_1 t253 t254 _ ?side1 ?side2 A10.out).mono ?_);(case side1 => repeat (first|exact (Kd.C_below HR1_1.out HB.out)|(with_reducible refine cA ?_ _)|(with_reducible refine cN ?_ _)|(with_reducible refine cD ?_)));(case side2 => exact HC1_1.out);rintro e w18 ⟨rfl,hb⟩;refine ⟨_,rfl,?_⟩;have n0_ := mk0 (blk_below (by exact kX BK251.out) hb);have n1_ := mk0 (blk_below (by exact kX BK252.out) hb);have n2_ := mk0 (below_step (by repeat (first|(with_reducible first|exact HB.out|apply bA|apply bN|apply bD|refine bS ?_ GE251.out|refine bS ?_ GE252.out)|exact HB.out)) hb);clear BK251;clear BK252;clear HB;have BK251 := n0_;have BK252 := n1_;have HB := n2_;clear n0_ n1_ n2_;(try clear hb);(try clear hb2);(try clear hk);(try clear hi)))
  go_ret
  exact ⟨by first|rfl|(simp [errW_none,errW_some] <;> rfl)|(simp [*,errW_none,errW_some] <;> rfl),by repeat (first|(with_reducible first|exact HB.out|apply bA|apply bN|apply bD|refine bS ?_ GE251.out|refine bS ?_ GE252.out)|exact HB.out)⟩
end Go.Proofs.Ytmomablfmhkppaa.PFnExactSubA
