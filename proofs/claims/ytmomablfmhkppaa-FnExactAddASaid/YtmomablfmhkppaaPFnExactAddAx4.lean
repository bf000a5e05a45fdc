-- The functions of a law as plain Lean functions, each with its contract: written by a program of this session.
import Derived.Test.YtmomablfmhkppaaPFnExactAddAx0
import Derived.Test.YtmomablfmhkppaaPFnExactAddAx3
namespace Go.Proofs.Ytmomablfmhkppaa.PFnExactAddA
open Go.RowKit Go.Proofs.YtmomablfmhkppaaW.PrintWords Go.Proofs.YtmomablfmhkppaaW.PrintLast Go.Proofs.YtmomablfmhkppaaW.PrintMore
attribute [local go_sem] max2_int min2_int max_two min_two max_three min_three max_four min_four   -- for this text's walks alone
set_option linter.unusedVariables false
set_option linter.unusedSimpArgs false

/-! ### spec_AddA: function 9 -/
def spec_AddA.f (k : Nat) (a0_0 : Int) (l0_1 : List (S70)) (a1_0 : Int) (l1_1 : List (S70)) : Option (Int × (List (S70)) × Bool) := (spec_l8Sum.f k a0_0 l0_1 a1_0 l1_1 1).bind fun bt173 => (some (bt173.1, bt173.2.1, bt173.2.2))
theorem spec_AddA.mono : ∀ a0 a1 a2 a3 k, LeO (spec_AddA.f k a0 a1 a2 a3) (spec_AddA.f (k + 1) a0 a1 a2 a3) := by
 intro a0 a1 a2 a3 k
 unfold spec_AddA.f
 repeat' first
   | (with_reducible exact spec_l8Sum.mono _ _ _ _ _ _)
   | (with_reducible exact LeO.refl _)
   | (with_reducible exact LeO.none _)
   | (with_reducible refine LeO.ite ?_ ?_)
   | (with_reducible refine LeO.bind ?_ (fun _ => ?_))
   | exact spec_l8Sum.mono _ _ _ _ _ _
   | exact LeO.none _
   | refine LeO.ite ?_ ?_
   | refine LeO.bind ?_ (fun _ => ?_)
set_option maxHeartbeats 8000000 in
set_option maxRecDepth 100000 in
theorem spec_AddA.calls (k : Nat) (a0_0 : Int) (A0_1 : Option Addr) (c0_1 : Nat) (l0_1 : List (S70)) (a1_0 : Int) (A1_1 : Option Addr) (c1_1 : Nat) (l1_1 : List (S70)) (r1 : Int) (r2 : List (S70)) (r3 : Bool) (w : World) (hr0_1 : Kd.C k70 w A0_1 l0_1.length l0_1) (hc0_1 : l0_1.length ≤ c0_1) (hr1_1 : Kd.C k70 w A1_1 l1_1.length l1_1) (hc1_1 : l1_1.length ≤ c1_1) (h : spec_AddA.f k a0_0 l0_1 a1_0 l1_1 = some (r1, r2, r3)) :
  Calls Try.prog 9 #[.agg #[.int .i64 a0_0, .slice A0_1 l0_1.length c0_1], .agg #[.int .i64 a1_0, .slice A1_1 l1_1.length c1_1]] w fun e w' => ∃ v1_ : Value, e = .returned (.tuple #[.agg #[.int .i64 r1, v1_], .bool r3]) ∧ Kd.R k70 70 w' w.heap.size (fun _ => True) v1_ r2 ∧ Below w.heap.size w w' := by
 have hu28 := Try.underlying28
 have HR0_1 := mk0 hr0_1
 have HC0_1 := mk0 hc0_1
 clear hr0_1 hc0_1
 have HR1_1 := mk0 hr1_1
 have HC1_1 := mk0 hc1_1
 clear hr1_1 hc1_1
 have HB := mk0 (Below.refl w.heap.size w)
 have H : ((spec_l8Sum.f k a0_0 l0_1 a1_0 l1_1 1).bind fun bt173 => (some (bt173.1,bt173.2.1,bt173.2.2))) = some (r1,r2,r3) := h
 clear h
 replace H := Option.bind_eq_some_iff.mp H
 obtain ⟨⟨t173,t174,t177⟩,A30,H⟩ := H
 replace H : (some (t173,t174,t177)) = some (r1,r2,r3) := H
 have A3 := mk0 A30
 clear A30
 simp only [Option.some.injEq,Prod.mk.injEq] at H
 obtain ⟨rfl,rfl,rfl⟩ := H
 go_enter Try.func9,Try.ntmps9
 go_wp2_with (first|((with_reducible refine gate_dst (N := 2) rfl ?_);refine box_event ?hg (N := 2) ?hd (cs := #[.int .i64 a0_0,.slice A0_1 l0_1.length c0_1]) (t := 28) ?hr ?_;(case hd => rfl);(case hg => rfl);(case hr => first|(go_simp;done)|(go_simp;rfl));intro gb170 hg w4 hbox hb;have q_ := qB (by repeat (first|(with_reducible first|exact HB.out|apply bA|apply bN|apply bD)|exact HB.out)) hb;have n0_ := mk0 (below_step q_ hb);have n1_ := mk0 (hbox);have n2_ := mk0 (below_size2 q_ hg);have n3_ := n2_;clear HB;have HB := n0_;have BK170 := n1_;have GW170 := n2_;have GE170 := n3_;clear q_ n0_ n1_ n2_ n3_;clear hb hbox hg)|((with_reducible refine gate_dst (N := 3) rfl ?_);refine box_event ?hg (N := 3) ?hd (cs := #[.int .i64 a1_0,.slice A1_1 l1_1.length c1_1]) (t := 28) ?hr ?_;(case hd => rfl);(case hg => rfl);(case hr => first|(go_simp;done)|(go_simp;rfl));intro gb171 hg w5 hbox hb;have q_ := qB (by repeat (first|(with_reducible first|exact HB.out|apply bA|apply bN|apply bD|refine bS ?_ GE170.out)|exact HB.out)) hb;have n0_ := mk0 (blk_below (by exact kX BK170.out) hb);have n1_ := mk0 (below_step q_ hb);have n2_ := mk0 (hbox);have n3_ := mk0 (below_size2 q_ hg);have n4_ := n3_;have n5_ := mk0 ((by rw [hg];exact Nat.ne_of_lt (blk_lt (by exact kX BK170.out)) : gb170 ≠ gb171));have n6_ := mk0 ((by rw [hg];exact Nat.ne_of_gt (blk_lt (by exact kX BK170.out)) : gb171 ≠ gb170));clear BK170;clear HB;have BK170 := n0_;have HB := n1_;have BK171 := n2_;have GW171 := n3_;have GE171 := n4_;have NB170_171 := n5_;have NB171_170 := n6_;clear q_ n0_ n1_ n2_ n3_ n4_ n5_ n6_;clear hb hbox hg)|((with_reducible refine gate_dst (N := 4) rfl ?_);refine box_event ?hg (N := 4) ?hd (cs := #[.int .i64 0,.slice none 0 0]) (t := 28) ?hr ?_;(case hd => rfl);(case hg => rfl);(case hr => first|(go_simp;done)|(go_simp;rfl));intro gb172 hg w6 hbox hb;have q_ := qB (by repeat (first|(with_reducible first|exact HB.out|apply bA|apply bN|apply bD|refine bS ?_ GE170.out|refine bS ?_ GE171.out)|exact HB.out)) hb;have n0_ := mk0 (blk_below (by exact kX BK170.out) hb);have n1_ := mk0 (blk_below (by exact kX BK171.out) hb);have n2_ := mk0 (below_step q_ hb);have n3_ := mk0 (hbox);have n4_ := mk0 (below_size2 q_ hg);have n5_ := n4_;have n6_ := mk0 ((by rw [hg];exact Nat.ne_of_lt (blk_lt (by exact kX BK170.out)) : gb170 ≠ gb172));have n7_ := mk0 ((by rw [hg];exact Nat.ne_of_gt (blk_lt (by exact kX BK170.out)) : gb172 ≠ gb170));have n8_ := mk0 ((by rw [hg];exact Nat.ne_of_lt (blk_lt (by exact kX BK171.out)) : gb171 ≠ gb172));have n9_ := mk0 ((by rw [hg];exact Nat.ne_of_gt (blk_lt (by exact kX BK171.out)) : gb172 ≠ gb171));clear BK170;clear BK171;clear HB;have BK170 := n0_;have BK171 := n1_;have HB := n2_;have BK172 := n3_;have GW172 := n4_;have GE172 := n5_;have NB170_172 := n6_;have NB172_170 := n7_;have NB171_172 := n8_;have NB172_171 := n9_;clear q_ n0_ n1_ n2_ n3_ n4_ n5_ n6_ n7_ n8_ n9_;clear hb hbox hg;have hnb7 := NB170_171.out;have hnc7 := NB171_170.out;have hnb8 := NB170_172.out;have hnc8 := NB172_170.out;have z9 := bc2 BK170.out;have hnb10 := NB171_172.out;have hnc10 := NB172_171.out;have z11 := bc2 BK171.out)|((with_reducible refine gate_callee (f := 38) rfl ?_);refine goesL_ (some 8) rfl rfl Try.func38 (by kernel_rfl) rfl #[.agg #[.int .i64 a0_0,.slice A0_1 l0_1.length c0_1],.agg #[.int .i64 a1_0,.slice A1_1 l1_1.length c1_1],.int .i64 1] rfl (by (try simp only [List.map_toArray,List.map_cons,List.map_nil]);first|done|rfl) ?_;(with_reducible refine (spec_l8Sum.calls k a0_0 _ _ l0_1 a1_0 _ _ l1_1 1 t173 t174 t177 _ ?side1 ?side2 ?side3 ?side4 A3.out).mono ?_);(case side1 => repeat (first|exact (Kd.C_below HR0_1.out HB.out)|(with_reducible refine cA ?_ _)|(with_reducible refine cN ?_ _)|(with_reducible refine cD ?_)));(case side2 => exact HC0_1.out);(case side3 => repeat (first|exact (Kd.C_below HR1_1.out HB.out)|(with_reducible refine cA ?_ _)|(with_reducible refine cN ?_ _)|(with_reducible refine cD ?_)));(case side4 => exact HC1_1.out);rintro e w12 ⟨v175,rfl,ho0,hb⟩;refine ⟨_,rfl,?_⟩;have q_ := qB (by repeat (first|(with_reducible first|exact HB.out|apply bA|apply bN|apply bD|refine bS ?_ GE170.out|refine bS ?_ GE171.out|refine bS ?_ GE172.out)|exact HB.out)) hb;have n0_ := mk0 (Kd.R_lower ho0 (below_size q_));have n1_ := mk0 (blk_below (by exact kX BK170.out) hb);have n2_ := mk0 (blk_below (by exact kX BK171.out) hb);have n3_ := mk0 (blk_below (by exact kX BK172.out) hb);have n4_ := mk0 (below_step q_ hb);clear BK170;clear BK171;clear BK172;clear HB;have HO176 := n0_;have BK170 := n1_;have BK171 := n2_;have BK172 := n3_;have HB := n4_;clear q_ n0_ n1_ n2_ n3_ n4_;(try clear hb);(try clear hb2);(try clear hk);(try clear hi);(try clear ho0);have z13 := bc2 BK172.out;obtain ⟨Ao14,co14,eo14⟩ := Kd.R_slice HO176.out;subst eo14))
 refine bodyPost_ret (results_ct rfl _ _ gb172 28 #[.int .i64 t173,.slice Ao14 t174.length co14] (0,0) _ rfl (by refine kX ?_;refine blk_put (cs := #[.int .i64 t173,.slice none 0 0]) ?_ 1 _ rfl;refine kX ?_;refine blk_put (cs := #[.int .i64 0,.slice none 0 0]) ?_ 0 _ rfl;exact kX BK172.out) Try.underlying28 rfl (by kernel_rfl)) rfl ?_
 exact ⟨_,by first|rfl|(simp [errW_none,errW_some] <;> rfl)|(simp [*,errW_none,errW_some] <;> rfl),by refine rX ?_;exact Kd.R_mono (Kd.R_far (p := ⟨gb172,1,none⟩) (Kd.R_far (p := ⟨gb172,0,none⟩) (Kd.R_types HO176.out BK172.out (by decide)) (fun _ hk => hk.2) (.int .i64 t173)) (fun _ hk => hk.2) (.slice Ao14 t174.length co14)) (fun _ hk => trivial),by repeat (first|(with_reducible first|exact HB.out|apply bA|apply bN|apply bD|refine bS ?_ GE170.out|refine bS ?_ GE171.out|refine bS ?_ GE172.out)|exact HB.out)⟩

/-! ### laws_toTerm: function 74 -/
def laws_toTerm.f (a0_0 : ByteArray) (a0_1 : Int) : Option (ByteArray × Int) := some (a0_0,a0_1)
set_option maxHeartbeats 8000000 in
set_option maxRecDepth 100000 in
theorem laws_toTerm.calls (a0_0 : ByteArray) (a0_1 : Int) (r1 : ByteArray) (r2 : Int) (w : World) (h : laws_toTerm.f a0_0 a0_1 = some (r1, r2)) :
  Calls Try.prog 74 #[.agg #[.string a0_0, .int .i64 a0_1]] w fun e w' => e = .returned (.agg #[.string r1, .int .i64 r2]) ∧ Below w.heap.size w w' := by
 have hu92 := Try.underlying92
 have hu70 := Try.underlying70
 have HB := mk0 (Below.refl w.heap.size w)
 have H : (some (a0_0,a0_1)) = some (r1,r2) := h
 clear h
 simp only [Option.some.injEq,Prod.mk.injEq] at H
 obtain ⟨rfl,rfl⟩ := H
 go_enter Try.func74,Try.ntmps74
 go_wp2_with (first|((with_reducible refine gate_dst (N := 1) rfl ?_);refine box_event ?hg (N := 1) ?hd (cs := #[.string a0_0,.int .i64 a0_1]) (t := 92) ?hr ?_;(case hd => rfl);(case hg => rfl);(case hr => first|(go_simp;done)|(go_simp;rfl));intro gb178 hg w2 hbox hb;have q_ := qB (by repeat (first|(with_reducible first|exact HB.out|apply bA|apply bN|apply bD)|exact HB.out)) hb;have n0_ := mk0 (below_step q_ hb);have n1_ := mk0 (hbox);have n2_ := mk0 (below_size2 q_ hg);have n3_ := n2_;clear HB;have HB := n0_;have BK178 := n1_;have GW178 := n2_;have GE178 := n3_;clear q_ n0_ n1_ n2_ n3_;clear hb hbox hg)|((with_reducible refine gate_dst (N := 2) rfl ?_);refine box_event ?hg (N := 2) ?hd (cs := #[.string (⟨#[]⟩ : ByteArray),.int .i64 0]) (t := 70) ?hr ?_;(case hd => rfl);(case hg => rfl);(case hr => first|(go_simp;done)|(go_simp;rfl));intro gb179 hg w3 hbox hb;have q_ := qB (by repeat (first|(with_reducible first|exact HB.out|apply bA|apply bN|apply bD|refine bS ?_ GE178.out)|exact HB.out)) hb;have n0_ := mk0 (blk_below (by exact kX BK178.out) hb);have n1_ := mk0 (below_step q_ hb);have n2_ := mk0 (hbox);have n3_ := mk0 (below_size2 q_ hg);have n4_ := n3_;have n5_ := mk0 ((by rw [hg];exact Nat.ne_of_lt (blk_lt (by exact kX BK178.out)) : gb178 ≠ gb179));have n6_ := mk0 ((by rw [hg];exact Nat.ne_of_gt (blk_lt (by exact kX BK178.out)) : gb179 ≠ gb178));clear BK178;clear HB;have BK178 := n0_;have HB := n1_;have BK179 := n2_;have GW179 := n3_;have GE179 := n4_;have NB178_179 := n5_;have NB179_178 := n6_;clear q_ n0_ n1_ n2_ n3_ n4_ n5_ n6_;clear hb hbox hg)|((with_reducible refine gate_dst (N := 3) rfl ?_);refine box_event ?hg (N := 3) ?hd (cs := #[.string (⟨#[]⟩ : ByteArray),.int .i64 0]) (t := 70) ?hr ?_;(case hd => rfl);(case hg => rfl);(case hr => first|(go_simp;done)|(go_simp;rfl));intro gb180 hg w4 hbox hb;have q_ := qB (by repeat (first|(with_reducible first|exact HB.out|apply bA|apply bN|apply bD|refine bS ?_ GE178.out|refine bS ?_ GE179.out)|exact HB.out)) hb;have n0_ := mk0 (blk_below (by exact kX BK178.out) hb);have n1_ := mk0 (blk_below (by exact kX BK179.out) hb);have n2_ := mk0 (below_step q_ hb);have n3_ := mk0 (hbox);have n4_ := mk0 (below_size2 q_ hg);have n5_ := n4_;have n6_ := mk0 ((by rw [hg];exact Nat.ne_of_lt (blk_lt (by exact kX BK178.out)) : gb178 ≠ gb180));have n7_ := mk0 ((by rw [hg];exact Nat.ne_of_gt (blk_lt (by exact kX BK178.out)) : gb180 ≠ gb178));have n8_ := mk0 ((by rw [hg];exact Nat.ne_of_lt (blk_lt (by exact kX BK179.out)) : gb179 ≠ gb180));have n9_ := mk0 ((by rw [hg];exact Nat.ne_of_gt (blk_lt (by exact kX BK179.out)) : gb180 ≠ gb179));clear BK178;clear BK179;clear HB;have BK178 := n0_;have BK179 := n1_;have HB := n2_;have BK180 := n3_;have GW180 := n4_;have GE180 := n5_;have NB178_180 := n6_;have NB180_178 := n7_;have NB179_180 := n8_;have NB180_179 := n9_;clear q_ n0_ n1_ n2_ n3_ n4_ n5_ n6_ n7_ n8_ n9_;clear hb hbox hg;have hnb5 := NB178_179.out;have hnc5 := NB179_178.out;have hnb6 := NB178_180.out;have hnc6 := NB180_178.out;have z7 := bc2 BK178.out;have hnb8 := NB180_179.out;have hnc8 := NB179_180.out;have z9 := bc2 BK180.out;have z10 := bc2 BK179.out))
 refine bodyPost_ret (results_cell_row rfl _ _ gb179 70 #[.string a0_0,.int .i64 a0_1] (0,0) _ rfl (by refine kX ?_;refine blk_put (cs := #[.string a0_0,.int .i64 0]) ?_ 1 _ rfl;refine kX ?_;refine blk_put (cs := #[.string (⟨#[]⟩ : ByteArray),.int .i64 0]) ?_ 0 _ rfl;refine kX ?_;refine blk_far ?_ NB179_180.out _;refine kX ?_;refine blk_far ?_ NB179_180.out _;exact kX BK179.out) Try.underlying70 rfl (by kernel_rfl)) rfl ?_
 exact ⟨by first|rfl|(simp [errW_none,errW_some] <;> rfl)|(simp [*,errW_none,errW_some] <;> rfl),by repeat (first|(with_reducible first|exact HB.out|apply bA|apply bN|apply bD|refine bS ?_ GE178.out|refine bS ?_ GE179.out|refine bS ?_ GE180.out)|exact HB.out)⟩

/-! ### laws_toTermS: function 39 -/
def laws_toTermS.l0 : Nat → List (S92) → List (S70) → Int → Option ((List (S70)))
 |0,_,_,_ => none
 |k + 1,x0,x3,x4 => if x4 < (x0.length : Int) then (if 0 ≤ x4 then ((laws_toTerm.f ((rd_T92 x0 x4).f0) ((rd_T92 x0 x4).f1)).bind fun bt185 => (if x4 < (x3.length : Int) then (laws_toTermS.l0 k x0 (x3.set (x4 : Int).toNat (⟨bt185.1,bt185.2⟩ : S70)) (wrap64 (x4 + 1))) else (none))) else (none)) else (some x3)
def laws_toTermS.f (k : Nat) (l0 : List (S92)) : Option ((List (S70))) := if 0 ≤ (l0.length : Int) then (if ((l0.length : Int) : Int).toNat ≤ 11728124029610 then (laws_toTermS.l0 k l0 (List.replicate ((l0.length : Int) : Int).toNat z70) 0) else (none)) else (none)
theorem laws_toTermS.mono_l : ∀ k, (∀ y0 y1 y2, LeO (laws_toTermS.l0 k y0 y1 y2) (laws_toTermS.l0 (k + 1) y0 y1 y2))
 | 0 => fun _ _ _ r h => by simp [laws_toTermS.l0] at h
 | k + 1 => by
  have ih0 := laws_toTermS.mono_l k
  ·intro y0 y1 y2
   unfold laws_toTermS.l0
   repeat' first
   | (with_reducible exact ih0 _ _ _)
   | (with_reducible exact LeO.refl _)
   | (with_reducible exact LeO.none _)
   | (with_reducible refine LeO.ite ?_ ?_)
   | (with_reducible refine LeO.bind ?_ (fun _ => ?_))
   | exact ih0 _ _ _
   | exact LeO.none _
   | refine LeO.ite ?_ ?_
   | refine LeO.bind ?_ (fun _ => ?_)
theorem laws_toTermS.mono : ∀ a0 k, LeO (laws_toTermS.f k a0) (laws_toTermS.f (k + 1) a0) := by
 intro a0 k
 have ih0 := laws_toTermS.mono_l k
 unfold laws_toTermS.f
 repeat' first
   | (with_reducible exact ih0 _ _ _)
   | (with_reducible exact LeO.refl _)
   | (with_reducible exact LeO.none _)
   | (with_reducible refine LeO.ite ?_ ?_)
   | (with_reducible refine LeO.bind ?_ (fun _ => ?_))
   | exact ih0 _ _ _
   | exact LeO.none _
   | refine LeO.ite ?_ ?_
   | refine LeO.bind ?_ (fun _ => ?_)
set_option maxHeartbeats 8000000 in
set_option maxRecDepth 100000 in
theorem laws_toTermS.calls (k : Nat) (A0 : Option Addr) (c0 : Nat) (l0 : List (S92)) (r : List (S70)) (w : World) (hr0 : Kd.C k92 w A0 l0.length l0) (hc0 : l0.length ≤ c0) (h : laws_toTermS.f k l0 = some r) :
  Calls Try.prog 39 #[.slice A0 l0.length c0] w fun e w' => ∃ v0_ : Value, e = .returned (v0_) ∧ Kd.R k70 70 w' w.heap.size (fun _ => True) v0_ r ∧ Below w.heap.size w w' := by
 have hu92 := Try.underlying92
 have hu70 := Try.underlying70
 have HR0 := mk0 hr0
 have HC0 := mk0 hc0
 clear hr0 hc0
 have HB := mk0 (Below.refl w.heap.size w)
 have H : (if 0 ≤ (l0.length : Int) then (if ((l0.length : Int) : Int).toNat ≤ 11728124029610 then (laws_toTermS.l0 k l0 (List.replicate ((l0.length : Int) : Int).toNat z70) 0) else (none)) else (none)) = some r := h
 clear h
 by_cases c2 : 0 ≤ (l0.length : Int)
 ·rw [if_pos c2] at H
  have c2b0 := eq_true c2
  have c2b1 : decide (0 ≤ (l0.length : Int)) = true := decide_eq_true c2
  clear c2
  by_cases c3 : ((l0.length : Int) : Int).toNat ≤ 11728124029610
  ·rw [if_pos c3] at H
   have c3b0 := eq_true c3
   have c3b1 : decide (((l0.length : Int) : Int).toNat ≤ 11728124029610) = true := decide_eq_true c3
   clear c3
   obtain ⟨y181,hy181⟩ : ∃ y_ : List (S70),y_ = (List.replicate ((l0.length : Int) : Int).toNat z70) := ⟨_,rfl⟩
   replace H : (laws_toTermS.l0 k l0 y181 0) = some r := by first|(rw [hy181];with_reducible exact H)|(have H2_ := (Option.bind_some _ _).symm.trans H;rw [hy181];with_reducible exact H2_)|(have H2_ := (Option.bind_some _ _).symm.trans H;with_reducible exact H2_)|with_reducible exact H|(rw [hy181];exact H)|exact H
   have Ny181 := mk0 hy181
   clear hy181
   have H' := mk0 H
   clear H
   go_enter Try.func39,Try.ntmps39
   go_wp2_with (first|((with_reducible refine gate_dst (N := 7) rfl ?_);refine Kd.R_make k70 _ 70 rfl (N := 7) rfl 26 _ _ rfl (l0.length : Int) rfl rfl Try.underlying26 (.agg #[(.string ⟨#[]⟩),(.int .i64 0)]) 24 info70 rfl (by decide) (by omega) z70 (ok := fun _ => True) (okp := fun _ => True) (k70_mkM _ _ _ z70 ) (fun _ hk => hk) trivial (of_decide_eq_true (by first|(with_reducible assumption)|assumption)) (Nat.le_trans (Nat.mul_le_mul_right _ (of_decide_eq_true (by first|(with_reducible assumption)|assumption) : (l0.length : Int).toNat ≤ 11728124029610)) (by omega)) (Below.refl _ _) (Nat.le_refl _) ?_;intro v182 w4 ho5 hb hg_ hnew_;clear hg_ hnew_;(first|rw [← Ny181.out] at ho5|(simp only [Int.reduceToNat] at ho5;rw [← Ny181.out] at ho5));have q_ := qB (by repeat (first|(with_reducible first|exact HB.out|apply bA|apply bN|apply bD)|exact HB.out)) hb;have n0_ := mk0 (Kd.R_lower ho5 (below_size q_));have n1_ := mk0 (below_step q_ hb);clear HB;have HO183 := n0_;have HB := n1_;clear q_ n0_ n1_;clear hb ho5))
   go_loopg [4] k (fun kq v4 w' => ∃ (x3_1 : List (S70)) (x4_1 : Int),v4 = .int .i64 x4_1 ∧ Aside0 (laws_toTermS.l0 kq l0 x3_1 x4_1 = some r) ∧ Aside0 (kq ≤ k) ∧ Aside0 (Kd.R k70 70 w' w.heap.size (fun _ => True) v182 x3_1) ∧ Aside0 (Below w.heap.size w w'))
   case atStart => exact ⟨(y181),(0),(by first|rfl|(simp;done)|(simp [*];done)),H',⟨Nat.le_refl _⟩,⟨by refine rX ?_;exact HO183.out⟩,⟨by repeat (first|(with_reducible first|exact HB.out|apply bA|apply bN|apply bD)|exact HB.out)⟩⟩
   case round =>
    clear H'
    try clear c2
    try clear c2b0
    try clear c2b1
    try clear p2
    try clear c3
    try clear c3b0
    try clear c3b1
    obtain ⟨x3_1,x4_1,rfl,HA,HK1,HO_3,HB⟩ := hrel
    cases gk with
       |zero => exact absurd HA.out (by simp [laws_toTermS.l0])
       |succ k1 =>
     have H := HA.out
     clear HA
     simp only [laws_toTermS.l0] at H
     by_cases c6 : x4_1 < (l0.length : Int)
     ·rw [if_pos c6] at H
      have c6b0 : decide (x4_1 < (l0.length : Int)) = true := decide_eq_true c6
      clear c6
      by_cases c7 : 0 ≤ x4_1
      ·rw [if_pos c7] at H
       have c7b0 : decide (0 ≤ x4_1) = true := decide_eq_true c7
       clear c7
       replace H := Option.bind_eq_some_iff.mp H
       obtain ⟨⟨t185,t186⟩,A80,H⟩ := H
       replace H : (if x4_1 < (x3_1.length : Int) then (laws_toTermS.l0 k1 l0 (x3_1.set (x4_1 : Int).toNat (⟨t185,t186⟩ : S70)) (wrap64 (x4_1 + 1))) else (none)) = some r := H
       have A8 := mk0 A80
       clear A80
       by_cases c9 : x4_1 < (x3_1.length : Int)
       ·rw [if_pos c9] at H
        have c9b0 : decide (x4_1 < (x3_1.length : Int)) = true := decide_eq_true c9
        clear c9
        obtain ⟨y187,hy187⟩ : ∃ y_ : List (S70),y_ = (x3_1.set (x4_1 : Int).toNat (⟨t185,t186⟩ : S70)) := ⟨_,rfl⟩
        replace H : (laws_toTermS.l0 k1 l0 y187 (wrap64 (x4_1 + 1))) = some r := by first|(rw [hy187];with_reducible exact H)|(have H2_ := (Option.bind_some _ _).symm.trans H;rw [hy187];with_reducible exact H2_)|(have H2_ := (Option.bind_some _ _).symm.trans H;with_reducible exact H2_)|with_reducible exact H|(rw [hy187];exact H)|exact H
        have Ny187 := mk0 hy187
        clear hy187
        have H' := mk0 H
        clear H
        have p184 : 0 ≤ (x4_1 : Int) := of_decide_eq_true (by first|(with_reducible assumption)|assumption)
        have q184 : x4_1 < (l0.length : Int) := of_decide_eq_true (by first|(with_reducible assumption)|assumption)
        obtain ⟨ad184,e184,hx184_0,hx184_1⟩ := at_T92 HR0.out x4_1 p184 q184
        cases e184
        replace hx184_0 := hbc HB.out hx184_0
        replace hx184_1 := hbc HB.out hx184_1
        replace p184 := eq_true p184
        replace q184 := eq_true q184
        go_wp2_with (first|((with_reducible refine gate_callee (f := 74) rfl ?_);refine goesL_ (some 20) rfl rfl Try.func74 (by kernel_rfl) rfl #[.agg #[.string ((rd_T92 l0 x4_1).f0),.int .i64 ((rd_T92 l0 x4_1).f1)]] rfl (by (try simp only [List.map_toArray,List.map_cons,List.map_nil]);first|done|rfl) ?_;(with_reducible refine (laws_toTerm.calls ((rd_T92 l0 x4_1).f0) ((rd_T92 l0 x4_1).f1) t185 t186 _ A8.out).mono ?_);rintro e w11 ⟨rfl,hb⟩;refine ⟨_,rfl,?_⟩;have n0_ := mk0 (Kd.R_below (by exact rX HO_3.out) hb);have n1_ := mk0 (below_step (by repeat (first|(with_reducible first|exact HB.out|apply bA|apply bN|apply bD)|exact HB.out)) hb);clear HO_3;clear HB;have HO_3 := n0_;have HB := n1_;clear n0_ n1_;(try clear hb);(try clear hb2);(try clear hk);(try clear hi);have p10 : 0 ≤ (x4_1 : Int) := of_decide_eq_true (by first|(with_reducible assumption)|assumption);have q10 : (x4_1 : Int) < ((x3_1.length : Int) : Int) := of_decide_eq_true (by first|(with_reducible assumption)|assumption);obtain ⟨go10,co10,eo10,gb10,gl10,cl10,HG10⟩ := Kd.R_form HO_3.out (by omega);(first|cases eo10|(injection eo10 with ea_ en_ ec_;(first|subst ea_|(injection ea_ with ea_;subst ea_));subst ec_;clear en_));have GB10 := mk0 gb10;have GG10 := mk0 HG10;clear gb10 gl10 HG10;obtain ⟨ce10,hcl10,hM10,hcc10,hfr10⟩ := Kd.R_elem HO_3.out z70 (x4_1 : Int) p10 q10;obtain rfl := k70_openM hM10;have hx10_0 : w11.cell? ⟨go10,(x4_1 : Int).toNat * 2,none⟩ = some (.string ((rd_T70 x3_1 x4_1).f0)) := hcc10 0 _ rfl;have hx10_1 : w11.cell? ⟨go10,(x4_1 : Int).toNat * 2 + 1,none⟩ = some (.int .i64 ((rd_T70 x3_1 x4_1).f1)) := hcc10 1 _ rfl;have hf10_0 : w11.frozen? ⟨go10,(x4_1 : Int).toNat * 2,none⟩ = false := hfr10 0;have hf10_1 : w11.frozen? ⟨go10,(x4_1 : Int).toNat * 2 + 1,none⟩ = false := hfr10 1;(try clear hM10);clear hcl10 hcc10 hfr10;replace p10 := eq_true p10;replace q10 := eq_true q10;have HX12 := mk0 (show Kd.R k70 70 w11 w.heap.size (fun _ => True) (.slice (some ⟨go10,0,none⟩) x3_1.length co10) x3_1 from (by exact rX HO_3.out));obtain ⟨ce12,hcl12,hM12,hcc12,hfr12⟩ := Kd.R_elem HX12.out z70 (x4_1 : Int) (of_decide_eq_true (by first|(with_reducible assumption)|assumption)) (by have h_ : (x4_1 : Int) < ((x3_1.length : Int) : Int) := of_decide_eq_true (by first|(with_reducible assumption)|assumption);first|exact h_|(have e_ := (Kd.R_reads' HO_3.out).1;omega)|simpa using h_);obtain rfl := k70_openM hM12;have HP12 := Kd.R_seg HX12.out (x4_1 : Int) (of_decide_eq_true (by first|(with_reducible assumption)|assumption)) (by have h_ : (x4_1 : Int) < ((x3_1.length : Int) : Int) := of_decide_eq_true (by first|(with_reducible assumption)|assumption);first|exact h_|(have e_ := (Kd.R_reads' HO_3.out).1;omega)|simpa using h_) (seg := [.string t185,.int .i64 t186]) (j := 0) hcl12 hcc12 (show 2 ≤ 2 from by decide) (x' := (⟨t185,t186⟩ : S70)) (k70_mkM _ _ _ (⟨t185,t186⟩ : S70) ) (fun _ hk => hk);have hx12_0 := hcc12 0 _ rfl;(try simp only [show (k70).sz = 2 from rfl,Nat.mul_one,Nat.add_zero] at hx12_0);have hf12_0 := hfr12 0;(try simp only [show (k70).sz = 2 from rfl,Nat.mul_one,Nat.add_zero] at hf12_0);have hx12_1 := hcc12 1 _ rfl;(try simp only [show (k70).sz = 2 from rfl,Nat.mul_one,Nat.add_zero] at hx12_1);have hf12_1 := hfr12 1;(try simp only [show (k70).sz = 2 from rfl,Nat.mul_one,Nat.add_zero] at hf12_1);(try clear hM12);clear hcl12 hcc12 hfr12)|((with_reducible refine gate_store (t := 70) (p := 21) rfl ?_);refine store_event (t := 70) (p := 21) (v := ?vo_w13) (w1 := ((w11.setCell ⟨go10,(x4_1 : Int).toNat * 2,none⟩ (.string t185)).setCell ⟨go10,(x4_1 : Int).toNat * 2 + 1,none⟩ (.int .i64 t186))) ?hg ?ho ?hn ?hr ?_;(case ho => rfl);(case hg => rfl);(case hn => rfl);(case hr => first|(go_simp;done)|(go_simp;rfl));intro w13 hw;have hg : w11.grownBy w13 (some go10) := (by rw [hw];exact HP12.2);have hp_ : Kd.R k70 70 w13 w.heap.size (fun _ => True) (.slice (some ⟨go10,0,none⟩) x3_1.length co10) y187 := (by rw [hw,Ny187.out];exact HP12.1);clear HP12;have n0_ := mk0 (hp_);have n1_ := mk0 ((by rw [hw];exact bS (bS (HB.out) GB10.out) GB10.out : Below w.heap.size w w13));clear HO_3;clear HB;have HO_3 := n0_;have HB := n1_;clear n0_ n1_;clear hg hw hp_))
        go_roundg k1
        case measure => have := HK1.out;omega
        case rel => exact ⟨(y187),(wrap64 (x4_1 + 1)),(by first|rfl|(simp;done)|(simp [*];done)),H',⟨by have := HK1.out;omega⟩,⟨by refine rX ?_;exact HO_3.out⟩,⟨by repeat (first|(with_reducible first|exact HB.out|apply bA|apply bN|apply bD)|exact HB.out)⟩⟩
       ·rw [if_neg c9] at H
        exact absurd H (by simp)
      ·rw [if_neg c7] at H
       exact absurd H (by simp)
     ·rw [if_neg c6] at H
      have c6b0 : decide (x4_1 < (l0.length : Int)) = false := decide_eq_false c6
      clear c6
      obtain rfl := Option.some.inj H
      go_wp2
      go_ret
      exact ⟨_,by first|rfl|(simp [errW_none,errW_some] <;> rfl)|(simp [*,errW_none,errW_some] <;> rfl),by refine rX ?_;exact HO_3.out,by repeat (first|(with_reducible first|exact HB.out|apply bA|apply bN|apply bD)|exact HB.out)⟩
  ·rw [if_neg c3] at H
   exact absurd H (by simp)
 ·rw [if_neg c2] at H
  exact absurd H (by simp)

/-! ### laws_toAff: function 10 -/
def laws_toAff.f (k : Nat) (a0_0 : Int) (l0_1 : List (S92)) : Option (Int × (List (S70))) := (laws_toTermS.f k l0_1).bind fun t191 => (some (a0_0,t191))
theorem laws_toAff.mono : ∀ a0 a1 k, LeO (laws_toAff.f k a0 a1) (laws_toAff.f (k + 1) a0 a1) := by
 intro a0 a1 k
 unfold laws_toAff.f
 repeat' first
   | (with_reducible exact laws_toTermS.mono _ _)
   | (with_reducible exact LeO.refl _)
   | (with_reducible exact LeO.none _)
   | (with_reducible refine LeO.ite ?_ ?_)
   | (with_reducible refine LeO.bind ?_ (fun _ => ?_))
   | exact laws_toTermS.mono _ _
   | exact LeO.none _
   | refine LeO.ite ?_ ?_
   | refine LeO.bind ?_ (fun _ => ?_)
set_option maxHeartbeats 8000000 in
set_option maxRecDepth 100000 in
theorem laws_toAff.calls (k : Nat) (a0_0 : Int) (A0_1 : Option Addr) (c0_1 : Nat) (l0_1 : List (S92)) (r1 : Int) (r2 : List (S70)) (w : World) (hr0_1 : Kd.C k92 w A0_1 l0_1.length l0_1) (hc0_1 : l0_1.length ≤ c0_1) (h : laws_toAff.f k a0_0 l0_1 = some (r1, r2)) :
  Calls Try.prog 10 #[.agg #[.int .i64 a0_0, .slice A0_1 l0_1.length c0_1]] w fun e w' => ∃ v1_ : Value, e = .returned (.agg #[.int .i64 r1, v1_]) ∧ Kd.R k70 70 w' w.heap.size (fun _ => True) v1_ r2 ∧ Below w.heap.size w w' := by
 have hu24 := Try.underlying24
 have hu28 := Try.underlying28
 have HR0_1 := mk0 hr0_1
 have HC0_1 := mk0 hc0_1
 clear hr0_1 hc0_1
 have HB := mk0 (Below.refl w.heap.size w)
 have H : ((laws_toTermS.f k l0_1).bind fun t191 => (some (a0_0,t191))) = some (r1,r2) := h
 clear h
 obtain ⟨t191,A2,H⟩ := bindA H
 simp only [Option.some.injEq,Prod.mk.injEq] at H
 obtain ⟨rfl,rfl⟩ := H
 go_enter Try.func10,Try.ntmps10
 go_wp2_with (first|((with_reducible refine gate_dst (N := 1) rfl ?_);refine box_event ?hg (N := 1) ?hd (cs := #[.int .i64 a0_0,.slice A0_1 l0_1.length c0_1]) (t := 24) ?hr ?_;(case hd => rfl);(case hg => rfl);(case hr => first|(go_simp;done)|(go_simp;rfl));intro gb188 hg w3 hbox hb;have q_ := qB (by repeat (first|(with_reducible first|exact HB.out|apply bA|apply bN|apply bD)|exact HB.out)) hb;have n0_ := mk0 (below_step q_ hb);have n1_ := mk0 (hbox);have n2_ := mk0 (below_size2 q_ hg);have n3_ := n2_;clear HB;have HB := n0_;have BK188 := n1_;have GW188 := n2_;have GE188 := n3_;clear q_ n0_ n1_ n2_ n3_;clear hb hbox hg)|((with_reducible refine gate_dst (N := 2) rfl ?_);refine box_event ?hg (N := 2) ?hd (cs := #[.int .i64 0,.slice none 0 0]) (t := 28) ?hr ?_;(case hd => rfl);(case hg => rfl);(case hr => first|(go_simp;done)|(go_simp;rfl));intro gb189 hg w4 hbox hb;have q_ := qB (by repeat (first|(with_reducible first|exact HB.out|apply bA|apply bN|apply bD|refine bS ?_ GE188.out)|exact HB.out)) hb;have n0_ := mk0 (blk_below (by exact kX BK188.out) hb);have n1_ := mk0 (below_step q_ hb);have n2_ := mk0 (hbox);have n3_ := mk0 (below_size2 q_ hg);have n4_ := n3_;have n5_ := mk0 ((by rw [hg];exact Nat.ne_of_lt (blk_lt (by exact kX BK188.out)) : gb188 ≠ gb189));have n6_ := mk0 ((by rw [hg];exact Nat.ne_of_gt (blk_lt (by exact kX BK188.out)) : gb189 ≠ gb188));clear BK188;clear HB;have BK188 := n0_;have HB := n1_;have BK189 := n2_;have GW189 := n3_;have GE189 := n4_;have NB188_189 := n5_;have NB189_188 := n6_;clear q_ n0_ n1_ n2_ n3_ n4_ n5_ n6_;clear hb hbox hg)|((with_reducible refine gate_dst (N := 3) rfl ?_);refine box_event ?hg (N := 3) ?hd (cs := #[.int .i64 0,.slice none 0 0]) (t := 28) ?hr ?_;(case hd => rfl);(case hg => rfl);(case hr => first|(go_simp;done)|(go_simp;rfl));intro gb190 hg w5 hbox hb;have q_ := qB (by repeat (first|(with_reducible first|exact HB.out|apply bA|apply bN|apply bD|refine bS ?_ GE188.out|refine bS ?_ GE189.out)|exact HB.out)) hb;have n0_ := mk0 (blk_below (by exact kX BK188.out) hb);have n1_ := mk0 (blk_below (by exact kX BK189.out) hb);have n2_ := mk0 (below_step q_ hb);have n3_ := mk0 (hbox);have n4_ := mk0 (below_size2 q_ hg);have n5_ := n4_;have n6_ := mk0 ((by rw [hg];exact Nat.ne_of_lt (blk_lt (by exact kX BK188.out)) : gb188 ≠ gb190));have n7_ := mk0 ((by rw [hg];exact Nat.ne_of_gt (blk_lt (by exact kX BK188.out)) : gb190 ≠ gb188));have n8_ := mk0 ((by rw [hg];exact Nat.ne_of_lt (blk_lt (by exact kX BK189.out)) : gb189 ≠ gb190));have n9_ := mk0 ((by rw [hg];exact Nat.ne_of_gt (blk_lt (by exact kX BK189.out)) : gb190 ≠ gb189));clear BK188;clear BK189;clear HB;have BK188 := n0_;have BK189 := n1_;have HB := n2_;have BK190 := n3_;have GW190 := n4_;have GE190 := n5_;have NB188_190 := n6_;have NB190_188 := n7_;have NB189_190 := n8_;have NB190_189 := n9_;clear q_ n0_ n1_ n2_ n3_ n4_ n5_ n6_ n7_ n8_ n9_;clear hb hbox hg;have hnb6 := NB188_189.out;have hnc6 := NB189_188.out;have hnb7 := NB188_190.out;have hnc7 := NB190_188.out;have z8 := bc2 BK188.out;have hnb9 := NB190_189.out;have hnc9 := NB189_190.out;have z10 := bc2 BK190.out)|((with_reducible refine gate_callee (f := 39) rfl ?_);refine goesL_ (some 9) rfl rfl Try.func39 (by kernel_rfl) rfl #[.slice A0_1 l0_1.length c0_1] rfl (by (try simp only [List.map_toArray,List.map_cons,List.map_nil]);first|done|rfl) ?_;(with_reducible refine (laws_toTermS.calls k _ _ l0_1 t191 _ ?side1 ?side2 A2.out).mono ?_);(case side1 => exact Kd.C_below HR0_1.out (by repeat (first|(with_reducible first|exact HB.out|apply bA|apply bN|apply bD|refine bS ?_ GE188.out|refine bS ?_ GE189.out|refine bS ?_ GE190.out)|exact HB.out)));(case side2 => exact HC0_1.out);rintro e w11 ⟨v192,rfl,ho0,hb⟩;refine ⟨_,rfl,?_⟩;have q_ := qB (by repeat (first|(with_reducible first|exact HB.out|apply bA|apply bN|apply bD|refine bS ?_ GE188.out|refine bS ?_ GE189.out|refine bS ?_ GE190.out)|exact HB.out)) hb;have n0_ := mk0 (Kd.R_lower ho0 (below_size q_));have n1_ := mk0 (blk_below (g := gb188) (o := .cells #[.int .i64 a0_0,.slice A0_1 l0_1.length c0_1] 24 (0,0)) (by refine kX ?_;refine blk_far ?_ NB188_190.out _;exact kX BK188.out) hb);have n2_ := mk0 (blk_below (g := gb189) (o := .cells #[.int .i64 0,.slice none 0 0] 28 (0,0)) (by refine kX ?_;refine blk_far ?_ NB189_190.out _;exact kX BK189.out) hb);have n3_ := mk0 (blk_below (g := gb190) (o := .cells #[.int .i64 a0_0,.slice none 0 0] 28 (0,0)) (by refine kX ?_;refine blk_put (cs := #[.int .i64 0,.slice none 0 0]) ?_ 0 _ rfl;exact kX BK190.out) hb);have n4_ := mk0 (below_step q_ hb);clear BK188;clear BK189;clear BK190;clear HB;have HO193 := n0_;have BK188 := n1_;have BK189 := n2_;have BK190 := n3_;have HB := n4_;clear q_ n0_ n1_ n2_ n3_ n4_;(try clear hb);(try clear hb2);(try clear hk);(try clear hi);(try clear ho0);obtain ⟨Ao12,co12,eo12⟩ := Kd.R_slice HO193.out;subst eo12;have z13 := bc2 BK190.out;have z14 := bc2 BK189.out))
 refine bodyPost_ret (results_cell_row rfl _ _ gb189 28 #[.int .i64 a0_0,.slice Ao12 t191.length co12] (0,0) _ rfl (by refine kX ?_;refine blk_put (cs := #[.int .i64 a0_0,.slice none 0 0]) ?_ 1 _ rfl;refine kX ?_;refine blk_put (cs := #[.int .i64 0,.slice none 0 0]) ?_ 0 _ rfl;refine kX ?_;refine blk_far ?_ NB189_190.out _;exact kX BK189.out) Try.underlying28 rfl (by kernel_rfl)) rfl ?_
 exact ⟨_,by first|rfl|(simp [errW_none,errW_some] <;> rfl)|(simp [*,errW_none,errW_some] <;> rfl),by refine rX ?_;exact Kd.R_mono (Kd.R_far (p := ⟨gb189,1,none⟩) (Kd.R_far (p := ⟨gb189,0,none⟩) (Kd.R_far (p := ⟨gb190,1,none⟩) (Kd.R_types (Kd.R_types HO193.out BK190.out (by decide)) BK189.out (by decide)) (fun _ hk => hk.1.2) (.slice Ao12 t191.length co12)) (fun _ hk => hk.2) (.int .i64 a0_0)) (fun _ hk => hk.2) (.slice Ao12 t191.length co12)) (fun _ hk => trivial),by repeat (first|(with_reducible first|exact HB.out|apply bA|apply bN|apply bD|refine bS ?_ GE188.out|refine bS ?_ GE189.out|refine bS ?_ GE190.out)|exact HB.out)⟩

/-! ### impl_inRange: function 60 -/
def impl_inRange.f (a0 : Int) (a1 : Int) (a2 : Int) : Option (Bool) := if a0 ≥ a1 then (some (decide (a0 ≤ a2))) else (some false)
set_option maxHeartbeats 8000000 in
set_option maxRecDepth 100000 in
theorem impl_inRange.calls (a0 : Int) (a1 : Int) (a2 : Int) (r : Bool) (w : World) (h : impl_inRange.f a0 a1 a2 = some r) :
  Calls Try.prog 60 #[.int .i64 a0, .int .i64 a1, .int .i64 a2] w fun e w' => e = .returned (.bool r) ∧ Drawn0 w w' := by
 have H : (if a0 ≥ a1 then (some (decide (a0 ≤ a2))) else (some false)) = some r := h
 clear h
 by_cases c4 : a0 ≥ a1
 ·rw [if_pos c4] at H
  have c4b0 : decide (a1 ≤ a0) = true := decide_eq_true c4
  clear c4
  obtain rfl := Option.some.inj H
  go_enter Try.func60,Try.ntmps60
  go_wp2
  go_ret
  exact ⟨by first|rfl|(simp;done)|(simp [*];done),by repeat (first|exact Drawn0.refl _|apply Drawn0.step)⟩
 ·rw [if_neg c4] at H
  have c4b0 : decide (a1 ≤ a0) = false := decide_eq_false c4
  clear c4
  obtain rfl := Option.some.inj H
  go_enter Try.func60,Try.ntmps60
  go_wp2
  go_ret
  exact ⟨by first|rfl|(simp;done)|(simp [*];done),by repeat (first|exact Drawn0.refl _|apply Drawn0.step)⟩

/-! ### impl_isLetter: function 82 -/
def impl_isLetter.f (a0 : Int) : Option (Bool) := if a0 ≥ 97 then (some (decide (a0 ≤ 122))) else (some false)
set_option maxHeartbeats 8000000 in
set_option maxRecDepth 100000 in
theorem impl_isLetter.calls (a0 : Int) (r : Bool) (w : World) (h : impl_isLetter.f a0 = some r) :
  Calls Try.prog 82 #[.int .u8 a0] w fun e w' => e = .returned (.bool r) ∧ Drawn0 w w' := by
 have H : (if a0 ≥ 97 then (some (decide (a0 ≤ 122))) else (some false)) = some r := h
 clear h
 by_cases c2 : a0 ≥ 97
 ·rw [if_pos c2] at H
  have c2b0 : decide (97 ≤ a0) = true := decide_eq_true c2
  clear c2
  obtain rfl := Option.some.inj H
  go_enter Try.func82,Try.ntmps82
  go_wp2
  go_ret
  exact ⟨by first|rfl|(simp;done)|(simp [*];done),by repeat (first|exact Drawn0.refl _|apply Drawn0.step)⟩
 ·rw [if_neg c2] at H
  have c2b0 : decide (97 ≤ a0) = false := decide_eq_false c2
  clear c2
  obtain rfl := Option.some.inj H
  go_enter Try.func82,Try.ntmps82
  go_wp2
  go_ret
  exact ⟨by first|rfl|(simp;done)|(simp [*];done),by repeat (first|exact Drawn0.refl _|apply Drawn0.step)⟩

/-! ### impl_isKept: function 83 -/
def impl_isKept.f (a0 : ByteArray) : Option (Bool) := if a0.toList = ([97,114,114,97,121] : List UInt8) then (some true) else (if a0.toList = ([102,111,114] : List UInt8) then (some true) else (if a0.toList = ([116,111] : List UInt8) then (some true) else (if a0.toList = ([112,114,105,110,116] : List UInt8) then (some true) else (if a0.toList = ([109,105,110] : List UInt8) then (some true) else (if a0.toList = ([109,97,120] : List UInt8) then (some true) else (some false))))))
set_option maxHeartbeats 8000000 in
set_option maxRecDepth 100000 in
theorem impl_isKept.calls (a0 : ByteArray) (r : Bool) (w : World) (h : impl_isKept.f a0 = some r) :
  Calls Try.prog 83 #[.string a0] w fun e w' => e = .returned (.bool r) ∧ Drawn0 w w' := by
 have H : (if a0.toList = ([97,114,114,97,121] : List UInt8) then (some true) else (if a0.toList = ([102,111,114] : List UInt8) then (some true) else (if a0.toList = ([116,111] : List UInt8) then (some true) else (if a0.toList = ([112,114,105,110,116] : List UInt8) then (some true) else (if a0.toList = ([109,105,110] : List UInt8) then (some true) else (if a0.toList = ([109,97,120] : List UInt8) then (some true) else (some false))))))) = some r := h
 clear h
 by_cases c2 : a0.toList = ([97,114,114,97,121] : List UInt8)
 ·rw [if_pos c2] at H
  have c2b0 : (a0.toList == ([97,114,114,97,121] : List UInt8)) = true := beq_iff_eq.mpr c2
  have c2b1 : (a0.toList != ([97,114,114,97,121] : List UInt8)) = false := bne_eq_false_iff_eq.mpr c2
  clear c2
  obtain rfl := Option.some.inj H
  go_enter Try.func83,Try.ntmps83
  go_wp2
  go_ret
  exact ⟨by first|rfl|(simp;done)|(simp [*];done),by repeat (first|exact Drawn0.refl _|apply Drawn0.step)⟩
 ·rw [if_neg c2] at H
  have c2b0 : (a0.toList == ([97,114,114,97,121] : List UInt8)) = false := beq_eq_false_iff_ne.mpr c2
  have c2b1 : (a0.toList != ([97,114,114,97,121] : List UInt8)) = true := bne_iff_ne.mpr c2
  by_cases c3 : a0.toList = ([102,111,114] : List UInt8)
  ·rw [if_pos c3] at H
   have c3b0 : (a0.toList == ([102,111,114] : List UInt8)) = true := beq_iff_eq.mpr c3
   have c3b1 : (a0.toList != ([102,111,114] : List UInt8)) = false := bne_eq_false_iff_eq.mpr c3
   clear c3
   obtain rfl := Option.some.inj H
   go_enter Try.func83,Try.ntmps83
   go_wp2
   go_ret
   exact ⟨by first|rfl|(simp;done)|(simp [*];done),by repeat (first|exact Drawn0.refl _|apply Drawn0.step)⟩
  ·rw [if_neg c3] at H
   have c3b0 : (a0.toList == ([102,111,114] : List UInt8)) = false := beq_eq_false_iff_ne.mpr c3
   have c3b1 : (a0.toList != ([102,111,114] : List UInt8)) = true := bne_iff_ne.mpr c3
   by_cases c4 : a0.toList = ([116,111] : List UInt8)
   ·rw [if_pos c4] at H
    have c4b0 : (a0.toList == ([116,111] : List UInt8)) = true := beq_iff_eq.mpr c4
    have c4b1 : (a0.toList != ([116,111] : List UInt8)) = false := bne_eq_false_iff_eq.mpr c4
    clear c4
    obtain rfl := Option.some.inj H
    go_enter Try.func83,Try.ntmps83
    go_wp2
    go_ret
    exact ⟨by first|rfl|(simp;done)|(simp [*];done),by repeat (first|exact Drawn0.refl _|apply Drawn0.step)⟩
   ·rw [if_neg c4] at H
    have c4b0 : (a0.toList == ([116,111] : List UInt8)) = false := beq_eq_false_iff_ne.mpr c4
    have c4b1 : (a0.toList != ([116,111] : List UInt8)) = true := bne_iff_ne.mpr c4
    by_cases c5 : a0.toList = ([112,114,105,110,116] : List UInt8)
    ·rw [if_pos c5] at H
     have c5b0 : (a0.toList == ([112,114,105,110,116] : List UInt8)) = true := beq_iff_eq.mpr c5
     have c5b1 : (a0.toList != ([112,114,105,110,116] : List UInt8)) = false := bne_eq_false_iff_eq.mpr c5
     clear c5
     obtain rfl := Option.some.inj H
     go_enter Try.func83,Try.ntmps83
     go_wp2
     go_ret
     exact ⟨by first|rfl|(simp;done)|(simp [*];done),by repeat (first|exact Drawn0.refl _|apply Drawn0.step)⟩
    ·rw [if_neg c5] at H
     have c5b0 : (a0.toList == ([112,114,105,110,116] : List UInt8)) = false := beq_eq_false_iff_ne.mpr c5
     have c5b1 : (a0.toList != ([112,114,105,110,116] : List UInt8)) = true := bne_iff_ne.mpr c5
     by_cases c6 : a0.toList = ([109,105,110] : List UInt8)
     ·rw [if_pos c6] at H
      have c6b0 : (a0.toList == ([109,105,110] : List UInt8)) = true := beq_iff_eq.mpr c6
      have c6b1 : (a0.toList != ([109,105,110] : List UInt8)) = false := bne_eq_false_iff_eq.mpr c6
      clear c6
      obtain rfl := Option.some.inj H
      go_enter Try.func83,Try.ntmps83
      go_wp2
      go_ret
      exact ⟨by first|rfl|(simp;done)|(simp [*];done),by repeat (first|exact Drawn0.refl _|apply Drawn0.step)⟩
     ·rw [if_neg c6] at H
      have c6b0 : (a0.toList == ([109,105,110] : List UInt8)) = false := beq_eq_false_iff_ne.mpr c6
      have c6b1 : (a0.toList != ([109,105,110] : List UInt8)) = true := bne_iff_ne.mpr c6
      by_cases c7 : a0.toList = ([109,97,120] : List UInt8)
      ·rw [if_pos c7] at H
       have c7b0 : (a0.toList == ([109,97,120] : List UInt8)) = true := beq_iff_eq.mpr c7
       have c7b1 : (a0.toList != ([109,97,120] : List UInt8)) = false := bne_eq_false_iff_eq.mpr c7
       clear c7
       obtain rfl := Option.some.inj H
       go_enter Try.func83,Try.ntmps83
       go_wp2
       go_ret
       exact ⟨by first|rfl|(simp;done)|(simp [*];done),by repeat (first|exact Drawn0.refl _|apply Drawn0.step)⟩
      ·rw [if_neg c7] at H
       have c7b0 : (a0.toList == ([109,97,120] : List UInt8)) = false := beq_eq_false_iff_ne.mpr c7
       have c7b1 : (a0.toList != ([109,97,120] : List UInt8)) = true := bne_iff_ne.mpr c7
       obtain rfl := Option.some.inj H
       go_enter Try.func83,Try.ntmps83
       go_wp2
       go_ret
       exact ⟨by first|rfl|(simp;done)|(simp [*];done),by repeat (first|exact Drawn0.refl _|apply Drawn0.step)⟩

/-! ### impl_NameOk: function 47 -/
def impl_NameOk.l0 : Nat → ByteArray → Int → Option (Bool)
 |0,_,_ => none
 |k + 1,x0,x3 => if x3 < (x0.size : Int) then (if 0 ≤ x3 then ((impl_isLetter.f (bt x0 x3)).bind fun t194 => (if t194 = true then (impl_NameOk.l0 k x0 (wrap64 (x3 + 1))) else (some false))) else (none)) else ((impl_inRange.f (x0.size : Int) 1 6).bind fun t195 => (if t195 = true then ((impl_isKept.f x0).bind fun t196 => (some (!t196))) else (some false)))
def impl_NameOk.f (k : Nat) (a0 : ByteArray) : Option (Bool) := impl_NameOk.l0 k a0 0
theorem impl_NameOk.mono_l : ∀ k, (∀ y0 y1, LeO (impl_NameOk.l0 k y0 y1) (impl_NameOk.l0 (k + 1) y0 y1))
 | 0 => fun _ _ r h => by simp [impl_NameOk.l0] at h
 | k + 1 => by
  have ih0 := impl_NameOk.mono_l k
  ·intro y0 y1
   unfold impl_NameOk.l0
   repeat' first
   | (with_reducible exact ih0 _ _)
   | (with_reducible exact LeO.refl _)
   | (with_reducible exact LeO.none _)
   | (with_reducible refine LeO.ite ?_ ?_)
   | (with_reducible refine LeO.bind ?_ (fun _ => ?_))
   | exact ih0 _ _
   | exact LeO.none _
   | refine LeO.ite ?_ ?_
   | refine LeO.bind ?_ (fun _ => ?_)
theorem impl_NameOk.mono : ∀ a0 k, LeO (impl_NameOk.f k a0) (impl_NameOk.f (k + 1) a0) := by
 intro a0 k
 have ih0 := impl_NameOk.mono_l k
 unfold impl_NameOk.f
 repeat' first
   | (with_reducible exact ih0 _ _)
   | (with_reducible exact LeO.refl _)
   | (with_reducible exact LeO.none _)
   | (with_reducible refine LeO.ite ?_ ?_)
   | (with_reducible refine LeO.bind ?_ (fun _ => ?_))
   | exact ih0 _ _
   | exact LeO.none _
   | refine LeO.ite ?_ ?_
   | refine LeO.bind ?_ (fun _ => ?_)
set_option maxHeartbeats 8000000 in
set_option maxRecDepth 100000 in
theorem impl_NameOk.calls (k : Nat) (a0 : ByteArray) (r : Bool) (w : World) (h : impl_NameOk.f k a0 = some r) :
  Calls Try.prog 47 #[.string a0] w fun e w' => e = .returned (.bool r) ∧ Drawn0 w w' := by
 have H : (impl_NameOk.l0 k a0 0) = some r := h
 clear h
 have H' := mk0 H
 clear H
 go_enter Try.func47,Try.ntmps47
 go_wp2
 go_loopg [3] k (fun kq v3 w' => ∃ (x3_1 : Int),v3 = .int .i64 x3_1 ∧ Aside0 (impl_NameOk.l0 kq a0 x3_1 = some r) ∧ Aside0 (kq ≤ k) ∧ Drawn0 w w')
 case atStart => exact ⟨(0),(by first|rfl|(simp;done)|(simp [*];done)),H',⟨Nat.le_refl _⟩,by repeat (first|exact Drawn0.refl _|apply Drawn0.step)⟩
 case round =>
  clear H'
  obtain ⟨x3_1,rfl,HA,HK1,⟨m1,rfl⟩⟩ := hrel
  cases gk with
   |zero => exact absurd HA.out (by simp [impl_NameOk.l0])
   |succ k1 =>
   have H := HA.out
   clear HA
   simp only [impl_NameOk.l0] at H
   by_cases c2 : x3_1 < (a0.size : Int)
   ·rw [if_pos c2] at H
    have c2b0 : decide (x3_1 < (a0.size : Int)) = true := decide_eq_true c2
    clear c2
    by_cases c3 : 0 ≤ x3_1
    ·rw [if_pos c3] at H
     have c3b0 : decide (0 ≤ x3_1) = true := decide_eq_true c3
     clear c3
     obtain ⟨t194,A5,H⟩ := bindA H
     by_cases c6 : t194 = true
     ·subst c6
      rw [if_pos rfl] at H
      have H' := mk0 H
      clear H
      have p4 : 0 ≤ (x3_1 : Int) := of_decide_eq_true (by first|(with_reducible assumption)|assumption)
      have q4 : x3_1 < (a0.size : Int) := of_decide_eq_true (by first|(with_reducible assumption)|assumption)
      have hx4 := bt_at a0 x3_1
      replace p4 := eq_true p4
      replace q4 := eq_true q4
      go_wp2_with (first|((with_reducible refine gate_callee (f := 82) rfl ?_);refine goesL_ (some 13) rfl rfl Try.func82 (by kernel_rfl) rfl #[.int .u8 (bt a0 x3_1)] rfl (by (try simp only [List.map_toArray,List.map_cons,List.map_nil]);first|done|rfl) ?_;(with_reducible refine (impl_isLetter.calls (bt a0 x3_1) true _ A5.out).mono ?_);rintro e w' ⟨rfl,⟨nd,rfl⟩⟩;refine ⟨_,rfl,?_⟩))
      go_roundg k1
      case measure => have := HK1.out;omega
      case rel => exact ⟨(wrap64 (x3_1 + 1)),(by first|rfl|(simp;done)|(simp [*];done)),H',⟨by have := HK1.out;omega⟩,by repeat (first|exact Drawn0.refl _|apply Drawn0.step)⟩
     ·replace c6 := Bool.eq_false_iff.mpr c6
      subst c6
      rw [if_neg (show ¬ (false = true) by decide)] at H
      obtain rfl := Option.some.inj H
      have p4 : 0 ≤ (x3_1 : Int) := of_decide_eq_true (by first|(with_reducible assumption)|assumption)
      have q4 : x3_1 < (a0.size : Int) := of_decide_eq_true (by first|(with_reducible assumption)|assumption)
      have hx4 := bt_at a0 x3_1
      replace p4 := eq_true p4
      replace q4 := eq_true q4
      go_wp2_with (first|((with_reducible refine gate_callee (f := 82) rfl ?_);refine goesL_ (some 13) rfl rfl Try.func82 (by kernel_rfl) rfl #[.int .u8 (bt a0 x3_1)] rfl (by (try simp only [List.map_toArray,List.map_cons,List.map_nil]);first|done|rfl) ?_;(with_reducible refine (impl_isLetter.calls (bt a0 x3_1) false _ A5.out).mono ?_);rintro e w' ⟨rfl,⟨nd,rfl⟩⟩;refine ⟨_,rfl,?_⟩))
      go_ret
      exact ⟨by first|rfl|(simp;done)|(simp [*];done),by repeat (first|exact Drawn0.refl _|apply Drawn0.step)⟩
    ·rw [if_neg c3] at H
     exact absurd H (by simp)
   ·rw [if_neg c2] at H
    have c2b0 : decide (x3_1 < (a0.size : Int)) = false := decide_eq_false c2
    clear c2
    obtain ⟨t195,A7,H⟩ := bindA H
    by_cases c8 : t195 = true
    ·subst c8
     rw [if_pos rfl] at H
     obtain ⟨t196,A9,H⟩ := bindA H
     obtain rfl := Option.some.inj H
     go_wp2_with (first|((with_reducible refine gate_callee (f := 60) rfl ?_);refine goesL_ (some 17) rfl rfl Try.func60 (by kernel_rfl) rfl #[.int .i64 (a0.size : Int),.int .i64 1,.int .i64 6] rfl (by (try simp only [List.map_toArray,List.map_cons,List.map_nil]);first|done|rfl) ?_;(with_reducible refine (impl_inRange.calls (a0.size : Int) 1 6 true _ A7.out).mono ?_);rintro e w' ⟨rfl,⟨nd,rfl⟩⟩;refine ⟨_,rfl,?_⟩)|(go_at_call 83;(with_reducible refine (impl_isKept.calls a0 t196 _ A9.out).mono ?_);rintro e w' ⟨rfl,⟨nd,rfl⟩⟩))
     go_ret
     exact ⟨by first|rfl|(simp;done)|(simp [*];done),by repeat (first|exact Drawn0.refl _|apply Drawn0.step)⟩
    ·replace c8 := Bool.eq_false_iff.mpr c8
     subst c8
     rw [if_neg (show ¬ (false = true) by decide)] at H
     obtain rfl := Option.some.inj H
     go_wp2_with (first|((with_reducible refine gate_callee (f := 60) rfl ?_);refine goesL_ (some 17) rfl rfl Try.func60 (by kernel_rfl) rfl #[.int .i64 (a0.size : Int),.int .i64 1,.int .i64 6] rfl (by (try simp only [List.map_toArray,List.map_cons,List.map_nil]);first|done|rfl) ?_;(with_reducible refine (impl_inRange.calls (a0.size : Int) 1 6 false _ A7.out).mono ?_);rintro e w' ⟨rfl,⟨nd,rfl⟩⟩;refine ⟨_,rfl,?_⟩))
     go_ret
     exact ⟨by first|rfl|(simp;done)|(simp [*];done),by repeat (first|exact Drawn0.refl _|apply Drawn0.step)⟩

/-! ### impl_isCoef: function 48 -/
def impl_isCoef.f (a0 : Int) : Option (Bool) := (impl_inRange.f a0 (-100000) 100000).bind fun t197 => (some t197)
set_option maxHeartbeats 8000000 in
set_option maxRecDepth 100000 in
theorem impl_isCoef.calls (a0 : Int) (r : Bool) (w : World) (h : impl_isCoef.f a0 = some r) :
  Calls Try.prog 48 #[.int .i64 a0] w fun e w' => e = .returned (.bool r) ∧ Drawn0 w w' := by
 have H : ((impl_inRange.f a0 (-100000) 100000).bind fun t197 => (some t197)) = some r := h
 clear h
 obtain ⟨t197,A2,H⟩ := bindA H
 obtain rfl := Option.some.inj H
 go_enter Try.func48,Try.ntmps48
 go_wp2_with (first|((with_reducible refine gate_callee (f := 60) rfl ?_);refine goesL_ (some 4) rfl rfl Try.func60 (by kernel_rfl) rfl #[.int .i64 a0,.int .i64 (-100000),.int .i64 100000] rfl (by (try simp only [List.map_toArray,List.map_cons,List.map_nil]);first|done|rfl) ?_;(with_reducible refine (impl_inRange.calls a0 (-100000) 100000 t197 _ A2.out).mono ?_);rintro e w' ⟨rfl,⟨nd,rfl⟩⟩;refine ⟨_,rfl,?_⟩))
 go_ret
 exact ⟨by first|rfl|(simp;done)|(simp [*];done),by repeat (first|exact Drawn0.refl _|apply Drawn0.step)⟩

def impl_AffOk.l0 : Nat → List (S70) → Int → Int → Int → List (S70) → Option (Bool)
 |0,_,_,_,_,_ => none
 |k + 1,x6,x7,x8,x154000,x154001 => if x8 < x7 then (if 0 ≤ x8 then (if x8 < (x6.length : Int) then ((impl_NameOk.f k ((rd_T70 x6 x8).f0)).bind fun t157 => (if t157 = true then (if ((rd_T70 x6 x8).f1) = 0 then (some false) else ((impl_isCoef.f ((rd_T70 x6 x8).f1)).bind fun t158 => (if t158 = true then (if x8 > 0 then (if 0 ≤ (wrap64 (x8 - 1)) then (if (wrap64 (x8 - 1)) < (x154001.length : Int) then (if ((Op.bytesLess (((rd_T70 x154001 (wrap64 (x8 - 1))).f0).toList) (((rd_T70 x6 x8).f0).toList)) = true) then (impl_AffOk.l0 k x6 x7 (wrap64 (x8 + 1)) x154000 x154001) else (some false)) else (none)) else (none)) else (impl_AffOk.l0 k x6 x7 (wrap64 (x8 + 1)) x154000 x154001)) else (some false)))) else (some false))) else (none)) else (none)) else ((impl_isCoef.f x154000).bind fun t154 => (some t154))
def impl_AffOk.f (k : Nat) (a0_0 : Int) (l0_1 : List (S70)) : Option (Bool) := impl_AffOk.l0 k l0_1 (l0_1.length : Int) 0 a0_0 l0_1
theorem impl_AffOk.mono_l : ∀ k, (∀ y0 y1 y2 y3 y4, LeO (impl_AffOk.l0 k y0 y1 y2 y3 y4) (impl_AffOk.l0 (k + 1) y0 y1 y2 y3 y4))
 | 0 => fun _ _ _ _ _ r h => by simp [impl_AffOk.l0] at h
 | k + 1 => by
  have ih0 := impl_AffOk.mono_l k
  ·intro y0 y1 y2 y3 y4
   unfold impl_AffOk.l0
   repeat' first
   | (with_reducible exact ih0 _ _ _ _ _)
   | (with_reducible exact impl_NameOk.mono _ _)
   | (with_reducible exact LeO.refl _)
   | (with_reducible exact LeO.none _)
   | (with_reducible refine LeO.ite ?_ ?_)
   | (with_reducible refine LeO.bind ?_ (fun _ => ?_))
   | exact ih0 _ _ _ _ _
   | exact impl_NameOk.mono _ _
   | exact LeO.none _
   | refine LeO.ite ?_ ?_
   | refine LeO.bind ?_ (fun _ => ?_)
theorem impl_AffOk.mono : ∀ a0 a1 k, LeO (impl_AffOk.f k a0 a1) (impl_AffOk.f (k + 1) a0 a1) := by
 intro a0 a1 k
 have ih0 := impl_AffOk.mono_l k
 unfold impl_AffOk.f
 repeat' first
   | (with_reducible exact ih0 _ _ _ _ _)
   | (with_reducible exact impl_NameOk.mono _ _)
   | (with_reducible exact LeO.refl _)
   | (with_reducible exact LeO.none _)
   | (with_reducible refine LeO.ite ?_ ?_)
   | (with_reducible refine LeO.bind ?_ (fun _ => ?_))
   | exact ih0 _ _ _ _ _
   | exact impl_NameOk.mono _ _
   | exact LeO.none _
   | refine LeO.ite ?_ ?_
   | refine LeO.bind ?_ (fun _ => ?_)
theorem impl_AffOk.leq_not : ∀ a b : List UInt8, (Op.bytesLess a b || a == b) = !Op.bytesLess b a
 | [], [] => by simp [Op.bytesLess]
 | [], b :: ys => by simp [Op.bytesLess]
 | a :: xs, [] => by simp [Op.bytesLess]
 | a :: xs, b :: ys => by
  have ih := impl_AffOk.leq_not xs ys
  simp only [Op.bytesLess]
  rcases Nat.lt_trichotomy a.toNat b.toNat with h | h | h
  ·have h1 : a < b := h
   have h2 : ¬ b < a := fun k => by have : b.toNat < a.toNat := k; omega
   have h3 : ¬ b = a := fun e => by subst e; omega
   have h4 : ¬ a = b := fun e => h3 e.symm
   simp [h1, h2, h3, h4]
  ·have h3 : a = b := UInt8.toNat_inj.1 h
   subst h3
   have h2 : ¬ a < a := fun k => by have : a.toNat < a.toNat := k; omega
   simp [h2]
   simpa using ih
  ·have h1 : b < a := h
   have h2 : ¬ a < b := fun k => by have : a.toNat < b.toNat := k; omega
   have h3 : ¬ b = a := fun e => by subst e; omega
   have h4 : ¬ a = b := fun e => h3 e.symm
   simp [h1, h2, h3, h4]
theorem impl_AffOk.binOp_leq (t : TypeId) (a b : ByteArray) : binOp .leq t (.string a) (.string b) = pure (.bool (!Op.bytesLess b.toList a.toList)) := by
 rw [← impl_AffOk.leq_not]
 simp [binOp, Op.stringOp]
set_option maxHeartbeats 8000000 in
set_option maxRecDepth 100000 in
theorem impl_AffOk.calls (k : Nat) (a0_0 : Int) (A0_1 : Option Addr) (c0_1 : Nat) (l0_1 : List (S70)) (r : Bool) (w : World) (hr0_1 : Kd.C k70 w A0_1 l0_1.length l0_1) (hc0_1 : l0_1.length ≤ c0_1) (h : impl_AffOk.f k a0_0 l0_1 = some r) :
  Calls Try.prog 20 #[.agg #[.int .i64 a0_0, .slice A0_1 l0_1.length c0_1]] w fun e w' => e = .returned (.bool r) ∧ Below w.heap.size w w' := by
 have hu28 := Try.underlying28
 have hu70 := Try.underlying70
 have HR0_1 := mk0 hr0_1
 have HC0_1 := mk0 hc0_1
 clear hr0_1 hc0_1
 have HB := mk0 (Below.refl w.heap.size w)
 have H : (impl_AffOk.l0 k l0_1 (l0_1.length : Int) 0 a0_0 l0_1) = some r := h
 clear h
 have H' := mk0 H
 clear H
 go_enter Try.func20,Try.ntmps20
 go_wp2_with (first|((with_reducible refine gate_dst (N := 1) rfl ?_);refine box_event ?hg (N := 1) ?hd (cs := #[.int .i64 a0_0,.slice A0_1 l0_1.length c0_1]) (t := 28) ?hr ?_;(case hd => rfl);(case hg => rfl);(case hr => first|(go_simp;done)|(go_simp;rfl));intro gb153 hg w2 hbox hb;have q_ := qB (by repeat (first|(with_reducible first|exact HB.out|apply bA|apply bN|apply bD)|exact HB.out)) hb;have n0_ := mk0 (below_step q_ hb);have n1_ := mk0 (hbox);have n2_ := mk0 (below_size2 q_ hg);have n3_ := n2_;clear HB;have HB := n0_;have BK153 := n1_;have GW153 := n2_;have GE153 := n3_;clear q_ n0_ n1_ n2_ n3_;clear hb hbox hg;have z3 := bc2 BK153.out))
 go_loopg [8] k (fun kq v8 w' => ∃ (x8_1 : Int),v8 = .int .i64 x8_1 ∧ Aside0 (impl_AffOk.l0 kq l0_1 (l0_1.length : Int) x8_1 a0_0 l0_1 = some r) ∧ Aside0 (kq ≤ k) ∧ Aside0 (w'.heap[gb153]? = some (.cells #[.int .i64 a0_0,(.slice A0_1 l0_1.length c0_1)] 28 (0,0))) ∧ Aside0 (Below w.heap.size w w'))
 case atStart => exact ⟨(0),(by first|rfl|(simp;done)|(simp [*];done)),H',⟨Nat.le_refl _⟩,⟨by refine kX ?_;exact BK153.out⟩,⟨by repeat (first|(with_reducible first|exact HB.out|apply bA|apply bN|apply bD|refine bS ?_ GE153.out)|exact HB.out)⟩⟩
 case round =>
  clear H'
  try clear p2
  try clear c3
  try clear z3
  obtain ⟨x8_1,rfl,HA,HK1,BK153,HB⟩ := hrel
  cases gk with
   |zero => exact absurd HA.out (by simp [impl_AffOk.l0])
   |succ k1 =>
   have H := HA.out
   clear HA
   simp only [impl_AffOk.l0] at H
   by_cases c4 : x8_1 < (l0_1.length : Int)
   ·rw [if_pos c4] at H
    have c4b0 : decide (x8_1 < (l0_1.length : Int)) = true := decide_eq_true c4
    clear c4
    by_cases c5 : 0 ≤ x8_1
    ·rw [if_pos c5] at H
     have c5b0 : decide (0 ≤ x8_1) = true := decide_eq_true c5
     clear c5
     rw [if_pos (of_decide_eq_true c4b0)] at H
     have p155 : 0 ≤ (x8_1 : Int) := of_decide_eq_true c5b0
     have q155 : x8_1 < (l0_1.length : Int) := of_decide_eq_true c4b0
     obtain ⟨ad155,e155,hx155_0,hx155_1⟩ := at_T70 HR0_1.out x8_1 p155 q155
     cases e155
     replace hx155_0 := hbc HB.out hx155_0
     replace hx155_1 := hbc HB.out hx155_1
     replace p155 := eq_true p155
     replace q155 := eq_true q155
     try go_wp2_with (first|((with_reducible refine gate_dst (N := 4) rfl ?_);refine box_event ?hg (N := 4) ?hd (cs := #[.string (⟨#[]⟩ : ByteArray),.int .i64 0]) (t := 70) ?hr ?_;(case hd => rfl);(case hg => rfl);(case hr => first|(go_simp;done)|(go_simp;rfl));intro gb156 hg w10 hbox hb;have q_ := qB (by repeat (first|(with_reducible first|exact HB.out|apply bA|apply bN|apply bD|refine bS ?_ GE153.out)|exact HB.out)) hb;have n0_ := mk0 (blk_below (by exact kX BK153.out) hb);have n1_ := mk0 (below_step q_ hb);have n2_ := mk0 (hbox);have n3_ := mk0 (below_size2 q_ hg);have n4_ := n3_;have n5_ := mk0 ((by rw [hg];exact Nat.ne_of_lt (blk_lt (by exact kX BK153.out)) : gb153 ≠ gb156));have n6_ := mk0 ((by rw [hg];exact Nat.ne_of_gt (blk_lt (by exact kX BK153.out)) : gb156 ≠ gb153));clear BK153;clear HB;have BK153 := n0_;have HB := n1_;have BK156 := n2_;have GW156 := n3_;have GE156 := n4_;have NB153_156 := n5_;have NB156_153 := n6_;clear q_ n0_ n1_ n2_ n3_ n4_ n5_ n6_;clear hb hbox hg;have hnb11 := NB156_153.out;have hnc11 := NB153_156.out;have hcz12_0 : w10.cell? ⟨gb156,0,none⟩ = some (.string (⟨#[]⟩ : ByteArray)) := (blk_cell BK156.out 0).trans rfl;have hcz12_1 : w10.cell? ⟨gb156,1,none⟩ = some (.int .i64 0) := (blk_cell BK156.out 1).trans rfl;have hfz12_0 := blk_frozen BK156.out 0;have hfz12_1 := blk_frozen BK156.out 1))
     have n0_ : Aside0 (((w10.setCell ⟨gb156,0,none⟩ (.string ((rd_T70 l0_1 x8_1).f0))).setCell ⟨gb156,1,none⟩ (.int .i64 ((rd_T70 l0_1 x8_1).f1))).heap[gb153]? = some (.cells #[.int .i64 a0_0,.slice (some ad155) l0_1.length c0_1] 28 (0,0))) := ⟨by refine kX ?_;refine blk_far ?_ NB153_156.out _;refine kX ?_;refine blk_far ?_ NB153_156.out _;refine kX ?_;exact BK153.out⟩
     have n1_ : Aside0 (((w10.setCell ⟨gb156,0,none⟩ (.string ((rd_T70 l0_1 x8_1).f0))).setCell ⟨gb156,1,none⟩ (.int .i64 ((rd_T70 l0_1 x8_1).f1))).heap[gb156]? = some (.cells #[.string ((rd_T70 l0_1 x8_1).f0),.int .i64 ((rd_T70 l0_1 x8_1).f1)] 70 (0,0))) := ⟨by refine kX ?_;refine blk_put (cs := #[.string ((rd_T70 l0_1 x8_1).f0),.int .i64 0]) ?_ 1 _ rfl;refine kX ?_;refine blk_put (cs := #[.string (⟨#[]⟩ : ByteArray),.int .i64 0]) ?_ 0 _ rfl;refine kX ?_;exact BK156.out⟩
     have n2_ : Aside0 (Below w.heap.size w ((w10.setCell ⟨gb156,0,none⟩ (.string ((rd_T70 l0_1 x8_1).f0))).setCell ⟨gb156,1,none⟩ (.int .i64 ((rd_T70 l0_1 x8_1).f1)))) := ⟨by repeat (first|(with_reducible first|exact HB.out|apply bA|apply bN|apply bD|refine bS ?_ GE153.out|refine bS ?_ GE156.out)|exact HB.out)⟩
     (try clear BK153)
     (try clear BK156)
     (try clear HB)
     generalize ((w10.setCell ⟨gb156,0,none⟩ (.string ((rd_T70 l0_1 x8_1).f0))).setCell ⟨gb156,1,none⟩ (.int .i64 ((rd_T70 l0_1 x8_1).f1))) = w13 at n0_ n1_ n2_ ⊢
     have BK153 := n0_
     have BK156 := n1_
     have HB := n2_
     clear n0_ n1_ n2_
     have hz0 : w13.cell? ⟨gb156,0,none⟩ = some (.string (rd_T70 l0_1 x8_1).f0) := (blk_cell BK156.out 0).trans rfl
     have hz1 : w13.cell? ⟨gb156,1,none⟩ = some (.int .i64 (rd_T70 l0_1 x8_1).f1) := (blk_cell BK156.out 1).trans rfl
     have hy1 : w13.cell? ⟨gb153,1,none⟩ = some (.slice (some ad155) l0_1.length c0_1) := (blk_cell BK153.out 1).trans rfl
     clear hx155_0 hx155_1 hcz12_0 hcz12_1 hfz12_0 hfz12_1 hnb11 hnc11
     replace H := Option.bind_eq_some_iff.mp H
     obtain ⟨t157,A7,H⟩ := H
     have A7 := mk0 A7
     have hbq : ∀ n,Below w.heap.size w (w13.drewN n) := fun n => bN HB.out n
     have HBQ := mk0 hbq
     clear hbq
     have C7 := fun W => (impl_NameOk.calls k1 _ t157 W A7.out).mono (fun e w_ h_ => (⟨h_.1,h_.2.out⟩ : e = Ending.returned (Value.bool t157) ∧ ∃ m,w_ = W.drewN m))
     have CC7 := mk0 C7
     clear C7
     cases t157 with
         |false =>
      rw [if_neg (show ¬ (false = true) by decide)] at H
      obtain rfl := Option.some.inj H
      clear H
      go_quiet (first|(go_at_call 47;refine Calls.quiet_of (CC7.out _)))
      go_wp2
      go_ret
      exact ⟨rfl,HBQ.out _⟩
         |true =>
      rw [if_pos rfl] at H
      by_cases c9 : (rd_T70 l0_1 x8_1).f1 = 0
      ·rw [if_pos c9] at H
       have c9b0 : ((rd_T70 l0_1 x8_1).f1 == 0) = true := beq_iff_eq.mpr c9
       clear c9
       obtain rfl := Option.some.inj H
       clear H
       go_quiet (first|(go_at_call 47;refine Calls.quiet_of (CC7.out _)))
       go_wp2
       go_ret
       exact ⟨rfl,HBQ.out _⟩
      ·rw [if_neg c9] at H
       have c9b0 : ((rd_T70 l0_1 x8_1).f1 == 0) = false := beq_eq_false_iff_ne.mpr c9
       clear c9
       replace H := Option.bind_eq_some_iff.mp H
       obtain ⟨t158,A8,H⟩ := H
       have A8 := mk0 A8
       have CC8 := mk0 (fun W => (impl_isCoef.calls _ t158 W A8.out).mono (fun e w_ h_ => (⟨h_.1,h_.2.out⟩ : e = Ending.returned (Value.bool t158) ∧ ∃ m,w_ = W.drewN m)))
       cases t158 with
             |false =>
        rw [if_neg (show ¬ (false = true) by decide)] at H
        obtain rfl := Option.some.inj H
        clear H
        go_quiet (first|(go_at_call 47;refine Calls.quiet_of (CC7.out _))|(go_at_call 48;refine Calls.quiet_of (CC8.out _)))
        go_wp2
        go_ret
        exact ⟨rfl,HBQ.out _⟩
             |true =>
        rw [if_pos rfl] at H
        by_cases c10 : x8_1 > 0
        ·rw [if_pos c10] at H
         have c10b0 : decide (0 < x8_1) = true := decide_eq_true c10
         have hlm : l0_1.length ≤ 9223372036854775807 := HR0_1.out.2.1
         have hlt : x8_1 < (l0_1.length : Int) := of_decide_eq_true c4b0
         have ew : wrap64 (x8_1 - 1) = x8_1 - 1 := by unfold wrap64;omega
         rw [ew,if_pos (by omega),if_pos (by omega)] at H
         obtain ⟨ji,hji⟩ : ∃ ji : Int,x8_1 - 1 = ji := ⟨_,rfl⟩
         have hw2 : IntKind.i64.wrap (x8_1 - 1) = ji := by rw [IntKind.wrap_i64];omega
         rw [hji] at H
         have p2 : 0 ≤ ji := by omega
         have q2 : ji < (l0_1.length : Int) := by omega
         obtain ⟨ad2,e2,hv0,_⟩ := at_T70 HR0_1.out ji p2 q2
         cases e2
         replace hv0 := hbc HB.out hv0
         clear hlm hlt c10 ew hji
         replace p2 := eq_true p2
         replace q2 := eq_true q2
         have hle := fun t => impl_AffOk.binOp_leq t (rd_T70 l0_1 x8_1).f0 (rd_T70 l0_1 ji).f0
         cases c11 : Op.bytesLess (rd_T70 l0_1 ji).f0.toList (rd_T70 l0_1 x8_1).f0.toList with
                 |false =>
          rw [c11] at hle
          simp only [Bool.not_false] at hle
          rw [c11,if_neg (show ¬ (false = true) by decide)] at H
          obtain rfl := Option.some.inj H
          clear H
          go_quiet (first|(go_at_call 47;refine Calls.quiet_of (CC7.out _))|(go_at_call 48;refine Calls.quiet_of (CC8.out _)))
          go_wp2
          go_ret
          exact ⟨rfl,HBQ.out _⟩
                 |true =>
          rw [c11] at hle
          simp only [Bool.not_true] at hle
          rw [c11,if_pos rfl] at H
          have H' := mk0 H
          clear H
          go_quiet (first|(go_at_call 47;refine Calls.quiet_of (CC7.out _))|(go_at_call 48;refine Calls.quiet_of (CC8.out _)))
          go_wp2
          go_roundg k1
          case measure => have := HK1.out;omega
          case rel => exact ⟨(wrap64 (x8_1 + 1)),rfl,H',⟨by have := HK1.out;omega⟩,⟨by refine kX ?_;exact BK153.out⟩,⟨HBQ.out _⟩⟩
        ·rw [if_neg c10] at H
         have c10b0 : decide (0 < x8_1) = false := decide_eq_false c10
         clear c10
         have H' := mk0 H
         clear H
         go_quiet (first|(go_at_call 47;refine Calls.quiet_of (CC7.out _))|(go_at_call 48;refine Calls.quiet_of (CC8.out _)))
         go_wp2
         go_roundg k1
         case measure => have := HK1.out;omega
         case rel => exact ⟨(wrap64 (x8_1 + 1)),rfl,H',⟨by have := HK1.out;omega⟩,⟨by refine kX ?_;exact BK153.out⟩,⟨HBQ.out _⟩⟩

    ·rw [if_neg c5] at H
     exact absurd H (by simp)
   ·rw [if_neg c4] at H
    have c4b0 : decide (x8_1 < (l0_1.length : Int)) = false := decide_eq_false c4
    clear c4
    replace H := Option.bind_eq_some_iff.mp H
    obtain ⟨t154,A8,H⟩ := H
    obtain rfl := Option.some.inj H
    clear H
    have hy0 : wr.cell? ⟨gb153,0,none⟩ = some (.int .i64 a0_0) := (blk_cell BK153.out 0).trans rfl
    have A8 := mk0 A8
    have CC8 := mk0 (fun W => (impl_isCoef.calls _ t154 W A8.out))
    go_wp2_with (go_at_call 48;refine (CC8.out _).mono ?_;rintro e w' ⟨rfl,⟨nd,rfl⟩⟩)
    go_ret
    exact ⟨rfl,by repeat (first|exact HB.out|apply bN|apply bD)⟩

/-! ### impl_CoefOf: function 21 -/
def impl_CoefOf.l0 : Nat → ByteArray → List (S70) → Int → Int → Option (Int)
 |0,_,_,_,_ => none
 |k + 1,x1,x8,x9,x10 => if x10 < x9 then (if 0 ≤ x10 then (if x10 < (x8.length : Int) then (if ((rd_T70 x8 x10).f0).toList = x1.toList then (some ((rd_T70 x8 x10).f1)) else (impl_CoefOf.l0 k x1 x8 x9 (wrap64 (x10 + 1)))) else (none)) else (none)) else (some 0)
def impl_CoefOf.f (k : Nat) (a0_0 : Int) (l0_1 : List (S70)) (a1 : ByteArray) : Option (Int) := impl_CoefOf.l0 k a1 l0_1 (l0_1.length : Int) 0
theorem impl_CoefOf.mono_l : ∀ k, (∀ y0 y1 y2 y3, LeO (impl_CoefOf.l0 k y0 y1 y2 y3) (impl_CoefOf.l0 (k + 1) y0 y1 y2 y3))
 | 0 => fun _ _ _ _ r h => by simp [impl_CoefOf.l0] at h
 | k + 1 => by
  have ih0 := impl_CoefOf.mono_l k
  ·intro y0 y1 y2 y3
   unfold impl_CoefOf.l0
   repeat' first
   | (with_reducible exact ih0 _ _ _ _)
   | (with_reducible exact LeO.refl _)
   | (with_reducible exact LeO.none _)
   | (with_reducible refine LeO.ite ?_ ?_)
   | (with_reducible refine LeO.bind ?_ (fun _ => ?_))
   | exact ih0 _ _ _ _
   | exact LeO.none _
   | refine LeO.ite ?_ ?_
   | refine LeO.bind ?_ (fun _ => ?_)
theorem impl_CoefOf.mono : ∀ a0 a1 a2 k, LeO (impl_CoefOf.f k a0 a1 a2) (impl_CoefOf.f (k + 1) a0 a1 a2) := by
 intro a0 a1 a2 k
 have ih0 := impl_CoefOf.mono_l k
 unfold impl_CoefOf.f
 repeat' first
   | (with_reducible exact ih0 _ _ _ _)
   | (with_reducible exact LeO.refl _)
   | (with_reducible exact LeO.none _)
   | (with_reducible refine LeO.ite ?_ ?_)
   | (with_reducible refine LeO.bind ?_ (fun _ => ?_))
   | exact ih0 _ _ _ _
   | exact LeO.none _
   | refine LeO.ite ?_ ?_
   | refine LeO.bind ?_ (fun _ => ?_)
set_option maxHeartbeats 8000000 in
set_option maxRecDepth 100000 in
theorem impl_CoefOf.calls (k : Nat) (a0_0 : Int) (A0_1 : Option Addr) (c0_1 : Nat) (l0_1 : List (S70)) (a1 : ByteArray) (r : Int) (w : World) (hr0_1 : Kd.C k70 w A0_1 l0_1.length l0_1) (hc0_1 : l0_1.length ≤ c0_1) (h : impl_CoefOf.f k a0_0 l0_1 a1 = some r) :
  Calls Try.prog 21 #[.agg #[.int .i64 a0_0, .slice A0_1 l0_1.length c0_1], .string a1] w fun e w' => e = .returned (.int .i64 r) ∧ Below w.heap.size w w' := by
 have hu28 := Try.underlying28
 have hu70 := Try.underlying70
 have HR0_1 := mk0 hr0_1
 have HC0_1 := mk0 hc0_1
 clear hr0_1 hc0_1
 have HB := mk0 (Below.refl w.heap.size w)
 have H : (impl_CoefOf.l0 k a1 l0_1 (l0_1.length : Int) 0) = some r := h
 clear h
 have H' := mk0 H
 clear H
 go_enter Try.func21,Try.ntmps21
 go_wp2_with (first|((with_reducible refine gate_dst (N := 2) rfl ?_);refine box_event ?hg (N := 2) ?hd (cs := #[.int .i64 a0_0,.slice A0_1 l0_1.length c0_1]) (t := 28) ?hr ?_;(case hd => rfl);(case hg => rfl);(case hr => first|(go_simp;done)|(go_simp;rfl));intro gb198 hg w3 hbox hb;have q_ := qB (by repeat (first|(with_reducible first|exact HB.out|apply bA|apply bN|apply bD)|exact HB.out)) hb;have n0_ := mk0 (below_step q_ hb);have n1_ := mk0 (hbox);have n2_ := mk0 (below_size2 q_ hg);have n3_ := n2_;clear HB;have HB := n0_;have BK198 := n1_;have GW198 := n2_;have GE198 := n3_;clear q_ n0_ n1_ n2_ n3_;clear hb hbox hg;have z4 := bc2 BK198.out))
 go_loopg [10] k (fun kq v10 w' => ∃ (x10_1 : Int),v10 = .int .i64 x10_1 ∧ Aside0 (impl_CoefOf.l0 kq a1 l0_1 (l0_1.length : Int) x10_1 = some r) ∧ Aside0 (kq ≤ k) ∧ Aside0 (w'.heap[gb198]? = some (.cells #[.int .i64 a0_0,(.slice A0_1 l0_1.length c0_1)] 28 (0,0))) ∧ Aside0 (Below w.heap.size w w'))
 case atStart => exact ⟨(0),(by first|rfl|(simp;done)|(simp [*];done)),H',⟨Nat.le_refl _⟩,⟨by refine kX ?_;exact BK198.out⟩,⟨by repeat (first|(with_reducible first|exact HB.out|apply bA|apply bN|apply bD|refine bS ?_ GE198.out)|exact HB.out)⟩⟩
 case round =>
  clear H'
  try clear c2
  try clear p2
  try clear z4
  obtain ⟨x10_1,rfl,HA,HK1,BK198,HB⟩ := hrel
  cases gk with
   |zero => exact absurd HA.out (by simp [impl_CoefOf.l0])
   |succ k1 =>
   have H := HA.out
   clear HA
   simp only [impl_CoefOf.l0] at H
   refine Or.elim (Classical.em (x10_1 < (l0_1.length : Int))) (fun c5 => ?yes1) (fun c5 => ?no1)
   case' yes1 =>
    rw [if_pos c5] at H
    have c5b0 : decide (x10_1 < (l0_1.length : Int)) = true := decide_eq_true c5
    clear c5
    refine Or.elim (Classical.em (0 ≤ x10_1)) (fun c6 => ?yes2) (fun c6 => ?no2)
    case' yes2 =>
     rw [if_pos c6] at H
     have c6b0 : decide (0 ≤ x10_1) = true := decide_eq_true c6
     clear c6
     refine Or.elim (Classical.em (x10_1 < (l0_1.length : Int))) (fun c7 => ?yes3) (fun c7 => ?no3)
     case' yes3 =>
      rw [if_pos c7] at H
      have c7b0 : decide (x10_1 < (l0_1.length : Int)) = true := decide_eq_true c7
      clear c7
      refine Or.elim (Classical.em (((rd_T70 l0_1 x10_1).f0).toList = a1.toList)) (fun c8 => ?yes4) (fun c8 => ?no4)
      case' yes4 =>
       rw [if_pos c8] at H
       have c8b0 : (((rd_T70 l0_1 x10_1).f0).toList == a1.toList) = true := beq_iff_eq.mpr c8
       have c8b1 : (((rd_T70 l0_1 x10_1).f0).toList != a1.toList) = false := bne_eq_false_iff_eq.mpr c8
       clear c8
       obtain rfl := Option.some.inj H
       have p199 : 0 ≤ (x10_1 : Int) := of_decide_eq_true (by first|(with_reducible assumption)|assumption)
       have q199 : x10_1 < (l0_1.length : Int) := of_decide_eq_true (by first|(with_reducible assumption)|assumption)
       obtain ⟨ad199,e199,hx199_0,hx199_1⟩ := at_T70 HR0_1.out x10_1 p199 q199
       cases e199
       replace hx199_0 := hbc HB.out hx199_0
       replace hx199_1 := hbc HB.out hx199_1
       replace p199 := eq_true p199
       replace q199 := eq_true q199
      case' no4 =>
       rw [if_neg c8] at H
       have c8b0 : (((rd_T70 l0_1 x10_1).f0).toList == a1.toList) = false := beq_eq_false_iff_ne.mpr c8
       have c8b1 : (((rd_T70 l0_1 x10_1).f0).toList != a1.toList) = true := bne_iff_ne.mpr c8
       have H' := mk0 H
       clear H
       have p199 : 0 ≤ (x10_1 : Int) := of_decide_eq_true (by first|(with_reducible assumption)|assumption)
       have q199 : x10_1 < (l0_1.length : Int) := of_decide_eq_true (by first|(with_reducible assumption)|assumption)
       obtain ⟨ad199,e199,hx199_0,hx199_1⟩ := at_T70 HR0_1.out x10_1 p199 q199
       cases e199
       replace hx199_0 := hbc HB.out hx199_0
       replace hx199_1 := hbc HB.out hx199_1
       replace p199 := eq_true p199
       replace q199 := eq_true q199
       go_wp2_with (first|((with_reducible refine gate_dst (N := 6) rfl ?_);refine box_event ?hg (N := 6) ?hd (cs := #[.string (⟨#[]⟩ : ByteArray),.int .i64 0]) (t := 70) ?hr ?_;(case hd => rfl);(case hg => rfl);(case hr => first|(go_simp;done)|(go_simp;rfl));intro gb200 hg w12 hbox hb;have q_ := qB (by repeat (first|(with_reducible first|exact HB.out|apply bA|apply bN|apply bD|refine bS ?_ GE198.out)|exact HB.out)) hb;have n0_ := mk0 (blk_below (by exact kX BK198.out) hb);have n1_ := mk0 (below_step q_ hb);have n2_ := mk0 (hbox);have n3_ := mk0 (below_size2 q_ hg);have n4_ := n3_;have n5_ := mk0 ((by rw [hg];exact Nat.ne_of_lt (blk_lt (by exact kX BK198.out)) : gb198 ≠ gb200));have n6_ := mk0 ((by rw [hg];exact Nat.ne_of_gt (blk_lt (by exact kX BK198.out)) : gb200 ≠ gb198));clear BK198;clear HB;have BK198 := n0_;have HB := n1_;have BK200 := n2_;have GW200 := n3_;have GE200 := n4_;have NB198_200 := n5_;have NB200_198 := n6_;clear q_ n0_ n1_ n2_ n3_ n4_ n5_ n6_;clear hb hbox hg;have hnb13 := NB200_198.out;have hnc13 := NB198_200.out;have z14 := bc2 BK200.out))
       go_roundg k1
       case measure => have := HK1.out;omega
       case rel => exact ⟨(wrap64 (x10_1 + 1)),(by first|rfl|(simp;done)|(simp [*];done)),H',⟨by have := HK1.out;omega⟩,⟨by refine kX ?_;refine blk_far ?_ NB198_200.out _;refine kX ?_;refine blk_far ?_ NB198_200.out _;refine kX ?_;exact BK198.out⟩,⟨by repeat (first|(with_reducible first|exact HB.out|apply bA|apply bN|apply bD|refine bS ?_ GE198.out|refine bS ?_ GE200.out)|exact HB.out)⟩⟩
     case' no3 =>
      rw [if_neg c7] at H
      exact absurd H (by simp)
    case' no2 =>
     rw [if_neg c6] at H
     exact absurd H (by simp)
   case' no1 =>
    rw [if_neg c5] at H
    have c5b0 : decide (x10_1 < (l0_1.length : Int)) = false := decide_eq_false c5
    clear c5
    obtain rfl := Option.some.inj H
   all_goals
    go_wp2_with (first|((with_reducible refine gate_dst (N := 6) rfl ?_);refine box_event ?hg (N := 6) ?hd (cs := #[.string (⟨#[]⟩ : ByteArray),.int .i64 0]) (t := 70) ?hr ?_;(case hd => rfl);(case hg => rfl);(case hr => first|(go_simp;done)|(go_simp;rfl));intro gb200 hg w9 hbox hb;have q_ := qB (by repeat (first|(with_reducible first|exact HB.out|apply bA|apply bN|apply bD|refine bS ?_ GE198.out)|exact HB.out)) hb;have n0_ := mk0 (blk_below (by exact kX BK198.out) hb);have n1_ := mk0 (below_step q_ hb);have n2_ := mk0 (hbox);have n3_ := mk0 (below_size2 q_ hg);have n4_ := n3_;have n5_ := mk0 ((by rw [hg];exact Nat.ne_of_lt (blk_lt (by exact kX BK198.out)) : gb198 ≠ gb200));have n6_ := mk0 ((by rw [hg];exact Nat.ne_of_gt (blk_lt (by exact kX BK198.out)) : gb200 ≠ gb198));clear BK198;clear HB;have BK198 := n0_;have HB := n1_;have BK200 := n2_;have GW200 := n3_;have GE200 := n4_;have NB198_200 := n5_;have NB200_198 := n6_;clear q_ n0_ n1_ n2_ n3_ n4_ n5_ n6_;clear hb hbox hg;have hnb10 := NB200_198.out;have hnc10 := NB198_200.out;have z11 := bc2 BK200.out))
    go_ret
    exact ⟨by first|rfl|(simp [errW_none,errW_some] <;> rfl)|(simp [*,errW_none,errW_some] <;> rfl),by repeat (first|(with_reducible first|exact HB.out|apply bA|apply bN|apply bD|refine bS ?_ GE198.out|refine bS ?_ GE200.out)|exact HB.out)⟩
end Go.Proofs.Ytmomablfmhkppaa.PFnExactAddA
