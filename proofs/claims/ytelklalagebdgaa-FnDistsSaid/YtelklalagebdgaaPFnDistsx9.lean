-- The functions of a law as plain Lean functions, each with its contract: written by a program of this session.
import Derived.Test.YtelklalagebdgaaPFnDistsx0
import Derived.Test.YtelklalagebdgaaPFnDistsx3
import Derived.Test.YtelklalagebdgaaPFnDistsx6
import Derived.Test.YtelklalagebdgaaPFnDistsx7
import Derived.Test.YtelklalagebdgaaPFnDistsx8
namespace Go.Proofs.Ytelklalagebdgaa.PFnDists
open Go.RowKit Go.Proofs.YtelklalagebdgaaW.PrintWords Go.Proofs.YtelklalagebdgaaW.PrintLast Go.Proofs.YtelklalagebdgaaW.PrintMore
attribute [local go_sem] max2_int min2_int max_two min_two max_three min_three max_four min_four   -- for this text's walks alone
set_option linter.unusedVariables false
set_option linter.unusedSimpArgs false

/-! ### impl_valuesOf: function 64 -/
mutual
def impl_valuesOf.l0 : Nat → ByteArray → List Int → List (S33) → Int → Int → Int → List (S73) → Option (List Int)
  | 0, _, _, _, _, _, _, _ => none
  | k + 1, x1, x9, x28, x29, x30, x306000, x306001 => if x30 < x29 then (if 0 ≤ x30 then (if x30 < (x28.length : Int) then ((impl_CoefOf.f k x306000 x306001 ((rd_T33 x28 x30).f0)).bind fun t315 => (if ((rd_T33 x28 x30).f0).toList = x1.toList then (impl_valuesOf.j1 k x1 x9 t315 x28 x29 x30 true x306000 x306001 ((rd_T33 x28 x30).f0) ((rd_T33 x28 x30).f1) ((rd_T33 x28 x30).f2)) else (impl_valuesOf.j1 k x1 x9 t315 x28 x29 x30 (t315 == 0) x306000 x306001 ((rd_T33 x28 x30).f0) ((rd_T33 x28 x30).f1) ((rd_T33 x28 x30).f2)))) else (none)) else (none)) else (some x9)
def impl_valuesOf.j1 : Nat → ByteArray → List Int → Int → List (S33) → Int → Int → Bool → Int → List (S73) → ByteArray → Int → Int → Option (List Int)
  | 0, _, _, _, _, _, _, _, _, _, _, _, _ => none
  | k + 1, x1, x9, x12, x28, x29, x30, x45, x306000, x306001, x315000, x315001, x315002 => if x45 = true then (impl_valuesOf.l0 k x1 x9 x28 x29 (wrap64 (x30 + 1)) x306000 x306001) else (impl_valuesOf.l1 k x1 x12 ([] : List Int) x28 x29 x30 x9 (x9.length : Int) 0 x306000 x306001 x315000 x315001 x315002)
def impl_valuesOf.l1 : Nat → ByteArray → Int → List Int → List (S33) → Int → Int → List Int → Int → Int → Int → List (S73) → ByteArray → Int → Int → Option (List Int)
  | 0, _, _, _, _, _, _, _, _, _, _, _, _, _, _ => none
  | k + 1, x1, x12, x13, x28, x29, x30, x46, x47, x48, x306000, x306001, x315000, x315001, x315002 => if x48 < x47 then (if 0 ≤ x48 then (if x48 < (x46.length : Int) then (impl_valuesOf.l2 k x1 x12 x13 (rd x46 x48) x315001 x28 x29 x30 x46 x47 x48 x306000 x306001 x315000 x315001 x315002) else (none)) else (none)) else (impl_valuesOf.l0 k x1 x13 x28 x29 (wrap64 (x30 + 1)) x306000 x306001)
def impl_valuesOf.l2 : Nat → ByteArray → Int → List Int → Int → Int → List (S33) → Int → Int → List Int → Int → Int → Int → List (S73) → ByteArray → Int → Int → Option (List Int)
  | 0, _, _, _, _, _, _, _, _, _, _, _, _, _, _, _, _ => none
  | k + 1, x1, x12, x13, x15, x16, x28, x29, x30, x46, x47, x48, x306000, x306001, x315000, x315001, x315002 => if x16 ≤ x315002 then (if x13.length < 17592186044416 then (impl_valuesOf.l2 k x1 x12 (x13 ++ [wrap64 (x15 + (wrap64 (x12 * x16)))]) x15 (wrap64 (x16 + 1)) x28 x29 x30 x46 x47 x48 x306000 x306001 x315000 x315001 x315002) else (none)) else (impl_valuesOf.l1 k x1 x12 x13 x28 x29 x30 x46 x47 (wrap64 (x48 + 1)) x306000 x306001 x315000 x315001 x315002)
end
def impl_valuesOf.f (k : Nat) (a0_0 : Int) (l0_1 : List (S73)) (a1 : ByteArray) (a2 : Int) (l3 : List (S33)) : Option (List Int) := (impl_AffAt.f k a0_0 l0_1 (([(⟨a1, a2⟩ : S36)] : List (S36)))).bind fun t309 => (impl_valuesOf.l0 k a1 (([t309] : List Int)) l3 (l3.length : Int) 0 a0_0 l0_1)
theorem impl_valuesOf.mono_l : ∀ k, (∀ y0 y1 y2 y3 y4 y5 y6, LeO (impl_valuesOf.l0 k y0 y1 y2 y3 y4 y5 y6) (impl_valuesOf.l0 (k + 1) y0 y1 y2 y3 y4 y5 y6)) ∧ (∀ y0 y1 y2 y3 y4 y5 y6 y7 y8 y9 y10 y11, LeO (impl_valuesOf.j1 k y0 y1 y2 y3 y4 y5 y6 y7 y8 y9 y10 y11) (impl_valuesOf.j1 (k + 1) y0 y1 y2 y3 y4 y5 y6 y7 y8 y9 y10 y11)) ∧ (∀ y0 y1 y2 y3 y4 y5 y6 y7 y8 y9 y10 y11 y12 y13, LeO (impl_valuesOf.l1 k y0 y1 y2 y3 y4 y5 y6 y7 y8 y9 y10 y11 y12 y13) (impl_valuesOf.l1 (k + 1) y0 y1 y2 y3 y4 y5 y6 y7 y8 y9 y10 y11 y12 y13)) ∧ (∀ y0 y1 y2 y3 y4 y5 y6 y7 y8 y9 y10 y11 y12 y13 y14 y15, LeO (impl_valuesOf.l2 k y0 y1 y2 y3 y4 y5 y6 y7 y8 y9 y10 y11 y12 y13 y14 y15) (impl_valuesOf.l2 (k + 1) y0 y1 y2 y3 y4 y5 y6 y7 y8 y9 y10 y11 y12 y13 y14 y15))
  | 0 => ⟨fun _ _ _ _ _ _ _ r h => by simp [impl_valuesOf.l0] at h, fun _ _ _ _ _ _ _ _ _ _ _ _ r h => by simp [impl_valuesOf.j1] at h, fun _ _ _ _ _ _ _ _ _ _ _ _ _ _ r h => by simp [impl_valuesOf.l1] at h, fun _ _ _ _ _ _ _ _ _ _ _ _ _ _ _ _ r h => by simp [impl_valuesOf.l2] at h⟩
  | k + 1 => by
    obtain ⟨ih0, ih1, ih2, ih3⟩ := impl_valuesOf.mono_l k
    refine ⟨?_, ?_, ?_, ?_⟩
    · intro y0 y1 y2 y3 y4 y5 y6
      unfold impl_valuesOf.l0
      repeat' first
      | (with_reducible exact ih0 _ _ _ _ _ _ _)
      | (with_reducible exact ih1 _ _ _ _ _ _ _ _ _ _ _ _)
      | (with_reducible exact ih2 _ _ _ _ _ _ _ _ _ _ _ _ _ _)
      | (with_reducible exact ih3 _ _ _ _ _ _ _ _ _ _ _ _ _ _ _ _)
      | (with_reducible exact impl_AffAt.mono _ _ _ _)
      | (with_reducible exact impl_CoefOf.mono _ _ _ _)
      | (with_reducible exact LeO.refl _)
      | (with_reducible exact LeO.none _)
      | (with_reducible refine LeO.ite ?_ ?_)
      | (with_reducible refine LeO.bind ?_ (fun _ => ?_))
      | exact ih0 _ _ _ _ _ _ _
      | exact ih1 _ _ _ _ _ _ _ _ _ _ _ _
      | exact ih2 _ _ _ _ _ _ _ _ _ _ _ _ _ _
      | exact ih3 _ _ _ _ _ _ _ _ _ _ _ _ _ _ _ _
      | exact impl_AffAt.mono _ _ _ _
      | exact impl_CoefOf.mono _ _ _ _
      | exact LeO.none _
      | refine LeO.ite ?_ ?_
      | refine LeO.bind ?_ (fun _ => ?_)
    · intro y0 y1 y2 y3 y4 y5 y6 y7 y8 y9 y10 y11
      unfold impl_valuesOf.j1
      repeat' first
      | (with_reducible exact ih0 _ _ _ _ _ _ _)
      | (with_reducible exact ih1 _ _ _ _ _ _ _ _ _ _ _ _)
      | (with_reducible exact ih2 _ _ _ _ _ _ _ _ _ _ _ _ _ _)
      | (with_reducible exact ih3 _ _ _ _ _ _ _ _ _ _ _ _ _ _ _ _)
      | (with_reducible exact impl_AffAt.mono _ _ _ _)
      | (with_reducible exact impl_CoefOf.mono _ _ _ _)
      | (with_reducible exact LeO.refl _)
      | (with_reducible exact LeO.none _)
      | (with_reducible refine LeO.ite ?_ ?_)
      | (with_reducible refine LeO.bind ?_ (fun _ => ?_))
      | exact ih0 _ _ _ _ _ _ _
      | exact ih1 _ _ _ _ _ _ _ _ _ _ _ _
      | exact ih2 _ _ _ _ _ _ _ _ _ _ _ _ _ _
      | exact ih3 _ _ _ _ _ _ _ _ _ _ _ _ _ _ _ _
      | exact impl_AffAt.mono _ _ _ _
      | exact impl_CoefOf.mono _ _ _ _
      | exact LeO.none _
      | refine LeO.ite ?_ ?_
      | refine LeO.bind ?_ (fun _ => ?_)
    · intro y0 y1 y2 y3 y4 y5 y6 y7 y8 y9 y10 y11 y12 y13
      unfold impl_valuesOf.l1
      repeat' first
      | (with_reducible exact ih0 _ _ _ _ _ _ _)
      | (with_reducible exact ih1 _ _ _ _ _ _ _ _ _ _ _ _)
      | (with_reducible exact ih2 _ _ _ _ _ _ _ _ _ _ _ _ _ _)
      | (with_reducible exact ih3 _ _ _ _ _ _ _ _ _ _ _ _ _ _ _ _)
      | (with_reducible exact impl_AffAt.mono _ _ _ _)
      | (with_reducible exact impl_CoefOf.mono _ _ _ _)
      | (with_reducible exact LeO.refl _)
      | (with_reducible exact LeO.none _)
      | (with_reducible refine LeO.ite ?_ ?_)
      | (with_reducible refine LeO.bind ?_ (fun _ => ?_))
      | exact ih0 _ _ _ _ _ _ _
      | exact ih1 _ _ _ _ _ _ _ _ _ _ _ _
      | exact ih2 _ _ _ _ _ _ _ _ _ _ _ _ _ _
      | exact ih3 _ _ _ _ _ _ _ _ _ _ _ _ _ _ _ _
      | exact impl_AffAt.mono _ _ _ _
      | exact impl_CoefOf.mono _ _ _ _
      | exact LeO.none _
      | refine LeO.ite ?_ ?_
      | refine LeO.bind ?_ (fun _ => ?_)
    · intro y0 y1 y2 y3 y4 y5 y6 y7 y8 y9 y10 y11 y12 y13 y14 y15
      unfold impl_valuesOf.l2
      repeat' first
      | (with_reducible exact ih0 _ _ _ _ _ _ _)
      | (with_reducible exact ih1 _ _ _ _ _ _ _ _ _ _ _ _)
      | (with_reducible exact ih2 _ _ _ _ _ _ _ _ _ _ _ _ _ _)
      | (with_reducible exact ih3 _ _ _ _ _ _ _ _ _ _ _ _ _ _ _ _)
      | (with_reducible exact impl_AffAt.mono _ _ _ _)
      | (with_reducible exact impl_CoefOf.mono _ _ _ _)
      | (with_reducible exact LeO.refl _)
      | (with_reducible exact LeO.none _)
      | (with_reducible refine LeO.ite ?_ ?_)
      | (with_reducible refine LeO.bind ?_ (fun _ => ?_))
      | exact ih0 _ _ _ _ _ _ _
      | exact ih1 _ _ _ _ _ _ _ _ _ _ _ _
      | exact ih2 _ _ _ _ _ _ _ _ _ _ _ _ _ _
      | exact ih3 _ _ _ _ _ _ _ _ _ _ _ _ _ _ _ _
      | exact impl_AffAt.mono _ _ _ _
      | exact impl_CoefOf.mono _ _ _ _
      | exact LeO.none _
      | refine LeO.ite ?_ ?_
      | refine LeO.bind ?_ (fun _ => ?_)
theorem impl_valuesOf.mono : ∀ a0 a1 a2 a3 a4 k, LeO (impl_valuesOf.f k a0 a1 a2 a3 a4) (impl_valuesOf.f (k + 1) a0 a1 a2 a3 a4) := by
  intro a0 a1 a2 a3 a4 k
  obtain ⟨ih0, ih1, ih2, ih3⟩ := impl_valuesOf.mono_l k
  unfold impl_valuesOf.f
  repeat' first
      | (with_reducible exact ih0 _ _ _ _ _ _ _)
      | (with_reducible exact ih1 _ _ _ _ _ _ _ _ _ _ _ _)
      | (with_reducible exact ih2 _ _ _ _ _ _ _ _ _ _ _ _ _ _)
      | (with_reducible exact ih3 _ _ _ _ _ _ _ _ _ _ _ _ _ _ _ _)
      | (with_reducible exact impl_AffAt.mono _ _ _ _)
      | (with_reducible exact impl_CoefOf.mono _ _ _ _)
      | (with_reducible exact LeO.refl _)
      | (with_reducible exact LeO.none _)
      | (with_reducible refine LeO.ite ?_ ?_)
      | (with_reducible refine LeO.bind ?_ (fun _ => ?_))
      | exact ih0 _ _ _ _ _ _ _
      | exact ih1 _ _ _ _ _ _ _ _ _ _ _ _
      | exact ih2 _ _ _ _ _ _ _ _ _ _ _ _ _ _
      | exact ih3 _ _ _ _ _ _ _ _ _ _ _ _ _ _ _ _
      | exact impl_AffAt.mono _ _ _ _
      | exact impl_CoefOf.mono _ _ _ _
      | exact LeO.none _
      | refine LeO.ite ?_ ?_
      | refine LeO.bind ?_ (fun _ => ?_)
set_option maxHeartbeats 8000000 in
set_option maxRecDepth 100000 in
theorem impl_valuesOf.calls (k : Nat) (a0_0 : Int) (A0_1 : Option Addr) (c0_1 : Nat) (l0_1 : List (S73)) (a1 : ByteArray) (a2 : Int) (A3 : Option Addr) (c3 : Nat) (l3 : List (S33)) (r : List Int) (w : World) (hr0_1 : Kd.C k73 w A0_1 l0_1.length l0_1) (hc0_1 : l0_1.length ≤ c0_1) (hr3 : Kd.C k33 w A3 l3.length l3) (hc3 : l3.length ≤ c3) (h : impl_valuesOf.f k a0_0 l0_1 a1 a2 l3 = some r) :
    Calls Try.prog 64 #[.agg #[.int .i64 a0_0, .slice A0_1 l0_1.length c0_1], .string a1, .int .i64 a2, .slice A3 l3.length c3] w fun e w' => ∃ v0_ : Value, e = .returned (v0_) ∧ Kd.R (Kd.int .i64) 3 w' w.heap.size (fun _ => True) v0_ r ∧ Below w.heap.size w w' := by
  have hu26 := Try.underlying26
  have hu36 := Try.underlying36
  have hu33 := Try.underlying33
  have HR0_1 := Aside0.mk hr0_1
  have HC0_1 := Aside0.mk hc0_1
  clear hr0_1 hc0_1
  have HR3 := Aside0.mk hr3
  have HC3 := Aside0.mk hc3
  clear hr3 hc3
  have HB := Aside0.mk (Below.refl w.heap.size w)
  have H : ((impl_AffAt.f k a0_0 l0_1 (([(⟨a1, a2⟩ : S36)] : List (S36)))).bind fun t309 => (impl_valuesOf.l0 k a1 (([t309] : List Int)) l3 (l3.length : Int) 0 a0_0 l0_1)) = some r := h
  clear h
  obtain ⟨y306, hy306⟩ : ∃ y_ : List (S36), y_ = (([(⟨a1, a2⟩ : S36)] : List (S36))) := ⟨_, rfl⟩
  replace H : ((impl_AffAt.f k a0_0 l0_1 y306).bind fun t309 => (impl_valuesOf.l0 k a1 (([t309] : List Int)) l3 (l3.length : Int) 0 a0_0 l0_1)) = some r := by first | (rw [hy306]; with_reducible exact H) | (have H2_ := (Option.bind_some _ _).symm.trans H; rw [hy306]; with_reducible exact H2_) | (have H2_ := (Option.bind_some _ _).symm.trans H; with_reducible exact H2_) | with_reducible exact H | (rw [hy306]; exact H) | exact H
  have Ny306 := Aside0.mk hy306
  clear hy306
  replace H := Option.bind_eq_some_iff.mp H
  obtain ⟨t309, A50, H⟩ := H
  replace H : (impl_valuesOf.l0 k a1 (([t309] : List Int)) l3 (l3.length : Int) 0 a0_0 l0_1) = some r := H
  have A5 := Aside0.mk A50
  clear A50
  obtain ⟨y310, hy310⟩ : ∃ y_ : List Int, y_ = (([t309] : List Int)) := ⟨_, rfl⟩
  replace H : (impl_valuesOf.l0 k a1 y310 l3 (l3.length : Int) 0 a0_0 l0_1) = some r := by first | (rw [hy310]; with_reducible exact H) | (have H2_ := (Option.bind_some _ _).symm.trans H; rw [hy310]; with_reducible exact H2_) | (have H2_ := (Option.bind_some _ _).symm.trans H; with_reducible exact H2_) | with_reducible exact H | (rw [hy310]; exact H) | exact H
  have Ny310 := Aside0.mk hy310
  clear hy310
  have H' := Aside0.mk H
  clear H
  go_enter Try.func64, Try.ntmps64
  go_wp2_with (first | ((with_reducible refine gate_dst (N := 4) rfl ?_); refine box_event ?hg (N := 4) ?hd (cs := #[.int .i64 a0_0, .slice A0_1 l0_1.length c0_1]) (t := 26) ?hr ?_; (case hd => rfl); (case hg => rfl); (case hr => first | (go_simp; done) | (go_simp; rfl)); intro gb305 hg w6 hbox hb; have n0_ := Aside0.mk (below_step (by repeat (first | (with_reducible first | exact HB.out | apply below_alloc | apply pw_below_drewN | apply below_drew1) | exact HB.out)) hb); have n1_ := Aside0.mk (hbox); have n2_ := Aside0.mk ((by rw [hg]; exact (below_size (by repeat (first | (with_reducible first | exact HB.out | apply below_alloc | apply pw_below_drewN | apply below_drew1) | exact HB.out))) : w.heap.size ≤ gb305)); have n3_ := Aside0.mk ((by rw [hg]; exact (below_size (by repeat (first | (with_reducible first | exact HB.out | apply below_alloc | apply pw_below_drewN | apply below_drew1) | exact HB.out))) : w.heap.size ≤ gb305)); clear HB; have HB := n0_; have BK305 := n1_; have GW305 := n2_; have GE305 := n3_; clear n0_ n1_ n2_ n3_; clear hb hbox hg; have hcz7_0 : w6.cell? ⟨gb305, 0, none⟩ = some (.int .i64 a0_0) := (blk_cell BK305.out 0).trans rfl; have hcz7_1 : w6.cell? ⟨gb305, 1, none⟩ = some (.slice A0_1 l0_1.length c0_1) := (blk_cell BK305.out 1).trans rfl; have hfz7_0 := blk_frozen BK305.out 0; have hfz7_1 := blk_frozen BK305.out 1) | ((with_reducible refine gate_dst (N := 25) rfl ?_); refine Kd.R_lit k36 _ 36 ?hg (N := 25) ?hd (xs := ([(⟨a1, a2⟩ : S36)] : List (S36))) (inner := [.string a1, .int .i64 a2]) (ok := fun _ => True) (okp := fun _ => True) ?hr ?hp (fun _ hk => hk) trivial (Below.refl _ _) (Nat.le_refl _) (by simp) ?_; (case hd => rfl); (case hg => rfl); (case hr => first | (go_simp; done) | (go_simp; rfl)); (case hp => exact (Reps.c2 (show Kd.M k36 _ _ _ (⟨a1, a2⟩ : S36) [.string a1, .int .i64 a2] from (k36_mkM _ _ _ (⟨a1, a2⟩ : S36) )) (Reps.none _ _))); intro v307 w8 ho9 hb hg_ hnew_; clear hg_ hnew_; (first | rw [← Ny306.out] at ho9 | (simp only [Int.reduceToNat] at ho9; rw [← Ny306.out] at ho9)); have n0_ := Aside0.mk (Kd.R_lower ho9 (below_size (by repeat (first | (with_reducible first | exact HB.out | apply below_alloc | apply pw_below_drewN | apply below_drew1 | refine below_set ?_ GE305.out) | exact HB.out)))); have n1_ := Aside0.mk (blk_below (g := gb305) (o := .cells #[.int .i64 a0_0, .slice A0_1 l0_1.length c0_1] 26 (0, 0)) (by (with_reducible repeat (first | refine blk_drewN ?_ _ | refine blk_drew ?_ | refine blk_alloc ?_ _)); exact BK305.out) hb); have n2_ := Aside0.mk (below_step (by repeat (first | (with_reducible first | exact HB.out | apply below_alloc | apply pw_below_drewN | apply below_drew1 | refine below_set ?_ GE305.out) | exact HB.out)) hb); clear BK305; clear HB; have HO308 := n0_; have BK305 := n1_; have HB := n2_; clear n0_ n1_ n2_; clear hb ho9; obtain ⟨Ao10, co10, eo10⟩ := Kd.R_slice HO308.out; subst eo10) | ((with_reducible refine gate_callee (f := 13) rfl ?_); refine goesL_ (some 26) rfl rfl Try.func13 (by kernel_rfl) rfl #[.agg #[.int .i64 a0_0, .slice A0_1 l0_1.length c0_1], .slice Ao10 y306.length co10] rfl (by (try simp only [List.map_toArray, List.map_cons, List.map_nil]); first | done | rfl | (simp only [List.length_drop, List.length_take]; rfl)) ?_; (with_reducible refine (impl_AffAt.calls k a0_0 _ _ l0_1 _ _ y306 t309 _ ?side1 ?side2 ?side3 ?side4 A5.out).mono ?_); (case side1 => repeat (first | exact (Kd.C_below HR0_1.out HB.out) | (with_reducible refine Kd.C_alloc ?_ _) | (with_reducible refine Kd.C_drewN ?_ _) | (with_reducible refine Kd.C_drew ?_))); (case side2 => exact HC0_1.out); (case side3 => repeat (first | exact (Kd.R_reads' HO308.out).2.2 | (with_reducible refine Kd.C_alloc ?_ _) | (with_reducible refine Kd.C_drewN ?_ _) | (with_reducible refine Kd.C_drew ?_))); (case side4 => exact (Kd.R_reads' HO308.out).2.1); rintro e w11 ⟨rfl, hb⟩; refine ⟨_, rfl, ?_⟩; have n0_ := Aside0.mk (Kd.R_below (by (with_reducible repeat (first | apply Kd.R_alloc | apply Kd.R_drewN | apply Kd.R_drew)); exact HO308.out) hb); have n1_ := Aside0.mk (blk_below (g := gb305) (o := .cells #[.int .i64 a0_0, .slice A0_1 l0_1.length c0_1] 26 (0, 0)) (by (with_reducible repeat (first | refine blk_drewN ?_ _ | refine blk_drew ?_ | refine blk_alloc ?_ _)); exact BK305.out) hb); have n2_ := Aside0.mk (below_step (by repeat (first | (with_reducible first | exact HB.out | apply below_alloc | apply pw_below_drewN | apply below_drew1 | refine below_set ?_ GE305.out) | exact HB.out)) hb); clear HO308; clear BK305; clear HB; have HO308 := n0_; have BK305 := n1_; have HB := n2_; clear n0_ n1_ n2_; (try clear hb); (try clear hb2); (try clear hk); (try clear hi)) | ((with_reducible refine gate_dst (N := 27) rfl ?_); refine Kd.R_lit (Kd.int .i64) _ 3 ?hg (N := 27) ?hd (xs := ([t309] : List Int)) (inner := [.int .i64 t309]) (ok := fun _ => True) (okp := fun _ => True) ?hr ?hp (fun _ hk => hk) trivial (Below.refl _ _) (Nat.le_refl _) (by simp) ?_; (case hd => rfl); (case hg => rfl); (case hr => first | (go_simp; done) | (go_simp; rfl)); (case hp => exact (Reps.one (show Kd.M (Kd.int .i64) _ _ _ t309 [.int .i64 t309] from rfl) (Reps.none _ _))); intro v311 w12 ho13 hb hg_ hnew_; clear hg_ hnew_; (first | rw [← Ny310.out] at ho13 | (simp only [Int.reduceToNat] at ho13; rw [← Ny310.out] at ho13)); have n0_ := Aside0.mk (Kd.R_below (by (with_reducible repeat (first | apply Kd.R_alloc | apply Kd.R_drewN | apply Kd.R_drew)); exact HO308.out) hb); have n1_ := Aside0.mk (Kd.R_lower ho13 (below_size (by repeat (first | (with_reducible first | exact HB.out | apply below_alloc | apply pw_below_drewN | apply below_drew1 | refine below_set ?_ GE305.out) | exact HB.out)))); have n2_ := Aside0.mk (blk_below (g := gb305) (o := .cells #[.int .i64 a0_0, .slice A0_1 l0_1.length c0_1] 26 (0, 0)) (by (with_reducible repeat (first | refine blk_drewN ?_ _ | refine blk_drew ?_ | refine blk_alloc ?_ _)); exact BK305.out) hb); have n3_ := Aside0.mk (below_step (by repeat (first | (with_reducible first | exact HB.out | apply below_alloc | apply pw_below_drewN | apply below_drew1 | refine below_set ?_ GE305.out) | exact HB.out)) hb); clear HO308; clear BK305; clear HB; have HO308 := n0_; have HO312 := n1_; have BK305 := n2_; have HB := n3_; clear n0_ n1_ n2_ n3_; clear hb ho13))
  go_loopg [9, 30] k (fun kq v9 v30 w' => ∃ (x9_1 : List Int) (x30_1 : Int), v30 = .int .i64 x30_1 ∧ Aside0 (impl_valuesOf.l0 kq a1 x9_1 l3 (l3.length : Int) x30_1 a0_0 l0_1 = some r) ∧ Aside0 (kq ≤ k) ∧ Aside0 (Kd.R (Kd.int .i64) 3 w' w.heap.size (fun _ => True) v9 x9_1) ∧ Aside0 (w'.heap[gb305]? = some (.cells #[.int .i64 a0_0, (.slice A0_1 l0_1.length c0_1)] 26 (0, 0))) ∧ Aside0 (Below w.heap.size w w'))
  case atStart => exact ⟨(y310), (0), (by first | rfl | (simp; done) | (simp [*]; done)), H', ⟨Nat.le_refl _⟩, ⟨by (with_reducible repeat (first | apply Kd.R_alloc | apply Kd.R_drewN | apply Kd.R_drew)); exact HO312.out⟩, ⟨by (with_reducible repeat (first | refine blk_drewN ?_ _ | refine blk_drew ?_ | refine blk_alloc ?_ _)); exact BK305.out⟩, ⟨by repeat (first | (with_reducible first | exact HB.out | apply below_alloc | apply pw_below_drewN | apply below_drew1 | refine below_set ?_ GE305.out) | exact HB.out)⟩⟩
  case round =>
    clear H'
    try clear c1
    try clear c2
    try clear p2
    try clear c3
    try clear c6
    try clear c13
    try clear hcz7_0
    try clear hcz7_1
    try clear hfz7_0
    try clear hfz7_1
    obtain ⟨x9_1, x30_1, rfl, HA, HK1, HO_9, BK305, HB⟩ := hrel
    cases gk with
    | zero => exact absurd HA.out (by simp [impl_valuesOf.l0])
    | succ k1 =>
      have H := HA.out
      clear HA
      simp only [impl_valuesOf.l0] at H
      by_cases c14 : x30_1 < (l3.length : Int)
      · rw [if_pos c14] at H
        have c14b0 : decide (x30_1 < (l3.length : Int)) = true := decide_eq_true c14
        clear c14
        by_cases c15 : 0 ≤ x30_1
        · rw [if_pos c15] at H
          have c15b0 : decide (0 ≤ x30_1) = true := decide_eq_true c15
          clear c15
          by_cases c16 : x30_1 < (l3.length : Int)
          · rw [if_pos c16] at H
            have c16b0 : decide (x30_1 < (l3.length : Int)) = true := decide_eq_true c16
            clear c16
            replace H := Option.bind_eq_some_iff.mp H
            obtain ⟨t315, A170, H⟩ := H
            replace H : (if ((rd_T33 l3 x30_1).f0).toList = a1.toList then (impl_valuesOf.j1 k1 a1 x9_1 t315 l3 (l3.length : Int) x30_1 true a0_0 l0_1 ((rd_T33 l3 x30_1).f0) ((rd_T33 l3 x30_1).f1) ((rd_T33 l3 x30_1).f2)) else (impl_valuesOf.j1 k1 a1 x9_1 t315 l3 (l3.length : Int) x30_1 (t315 == 0) a0_0 l0_1 ((rd_T33 l3 x30_1).f0) ((rd_T33 l3 x30_1).f1) ((rd_T33 l3 x30_1).f2))) = some r := H
            have A17 := Aside0.mk A170
            clear A170
            have HC18 := Aside0.mk H
            clear H
            have p313 : 0 ≤ (x30_1 : Int) := of_decide_eq_true (by first | (with_reducible assumption) | assumption)
            have q313 : x30_1 < (l3.length : Int) := of_decide_eq_true (by first | (with_reducible assumption) | assumption)
            obtain ⟨ad313, e313, hx313_0, hx313_1, hx313_2⟩ := at_T33 HR3.out x30_1 p313 q313
            cases e313
            replace hx313_0 := (HB.out.cell (World.block_lt_of_cell? w _ hx313_0)).trans hx313_0
            replace hx313_1 := (HB.out.cell (World.block_lt_of_cell? w _ hx313_1)).trans hx313_1
            replace hx313_2 := (HB.out.cell (World.block_lt_of_cell? w _ hx313_2)).trans hx313_2
            replace p313 := eq_true p313
            replace q313 := eq_true q313
            go_upto_region 6 with (first | ((with_reducible refine gate_dst (N := 11) rfl ?_); refine box_event ?hg (N := 11) ?hd (cs := #[.string (⟨#[]⟩ : ByteArray), .int .i64 0, .int .i64 0]) (t := 33) ?hr ?_; (case hd => rfl); (case hg => rfl); (case hr => first | (go_simp; done) | (go_simp; rfl)); intro gb314 hg w19 hbox hb; have n0_ := Aside0.mk (Kd.R_below (by (with_reducible repeat (first | apply Kd.R_alloc | apply Kd.R_drewN | apply Kd.R_drew)); exact HO_9.out) hb); have n1_ := Aside0.mk (blk_below (g := gb305) (o := .cells #[.int .i64 a0_0, .slice A0_1 l0_1.length c0_1] 26 (0, 0)) (by (with_reducible repeat (first | refine blk_drewN ?_ _ | refine blk_drew ?_ | refine blk_alloc ?_ _)); exact BK305.out) hb); have n2_ := Aside0.mk (below_step (by repeat (first | (with_reducible first | exact HB.out | apply below_alloc | apply pw_below_drewN | apply below_drew1 | refine below_set ?_ GE305.out) | exact HB.out)) hb); have n3_ := Aside0.mk (hbox); have n4_ := Aside0.mk ((by rw [hg]; exact (below_size (by repeat (first | (with_reducible first | exact HB.out | apply below_alloc | apply pw_below_drewN | apply below_drew1 | refine below_set ?_ GE305.out) | exact HB.out))) : w.heap.size ≤ gb314)); have n5_ := Aside0.mk ((by rw [hg]; exact (below_size (by repeat (first | (with_reducible first | exact HB.out | apply below_alloc | apply pw_below_drewN | apply below_drew1 | refine below_set ?_ GE305.out) | exact HB.out))) : w.heap.size ≤ gb314)); have n6_ := Aside0.mk ((by rw [hg]; exact Nat.ne_of_lt (blk_lt (g := gb305) (o := .cells #[.int .i64 a0_0, .slice A0_1 l0_1.length c0_1] 26 (0, 0)) (by (with_reducible repeat (first | refine blk_drewN ?_ _ | refine blk_drew ?_ | refine blk_alloc ?_ _)); exact BK305.out)) : gb305 ≠ gb314)); have n7_ := Aside0.mk ((by rw [hg]; exact Nat.ne_of_gt (blk_lt (g := gb305) (o := .cells #[.int .i64 a0_0, .slice A0_1 l0_1.length c0_1] 26 (0, 0)) (by (with_reducible repeat (first | refine blk_drewN ?_ _ | refine blk_drew ?_ | refine blk_alloc ?_ _)); exact BK305.out)) : gb314 ≠ gb305)); clear HO_9; clear BK305; clear HB; have HO_9 := n0_; have BK305 := n1_; have HB := n2_; have BK314 := n3_; have GW314 := n4_; have GE314 := n5_; have NB305_314 := n6_; have NB314_305 := n7_; clear n0_ n1_ n2_ n3_ n4_ n5_ n6_ n7_; clear hb hbox hg; have hnb20 := NB314_305.out; have hnc20 := NB305_314.out; have hcz21_0 : w19.cell? ⟨gb314, 0, none⟩ = some (.string (⟨#[]⟩ : ByteArray)) := (blk_cell BK314.out 0).trans rfl; have hcz21_1 : w19.cell? ⟨gb314, 1, none⟩ = some (.int .i64 0) := (blk_cell BK314.out 1).trans rfl; have hcz21_2 : w19.cell? ⟨gb314, 2, none⟩ = some (.int .i64 0) := (blk_cell BK314.out 2).trans rfl; have hfz21_0 := blk_frozen BK314.out 0; have hfz21_1 := blk_frozen BK314.out 1; have hfz21_2 := blk_frozen BK314.out 2; have hcz22_0 : w19.cell? ⟨gb305, 0, none⟩ = some (.int .i64 a0_0) := (blk_cell BK305.out 0).trans rfl; have hcz22_1 : w19.cell? ⟨gb305, 1, none⟩ = some (.slice A0_1 l0_1.length c0_1) := (blk_cell BK305.out 1).trans rfl; have hfz22_0 := blk_frozen BK305.out 0; have hfz22_1 := blk_frozen BK305.out 1) | ((with_reducible refine gate_callee (f := 41) rfl ?_); refine goesL_ (some 37) rfl rfl Try.func41 (by kernel_rfl) rfl #[.agg #[.int .i64 a0_0, .slice A0_1 l0_1.length c0_1], .string ((rd_T33 l3 x30_1).f0)] rfl (by (try simp only [List.map_toArray, List.map_cons, List.map_nil]); first | done | rfl | (simp only [List.length_drop, List.length_take]; rfl)) ?_; (with_reducible refine (impl_CoefOf.calls k1 a0_0 _ _ l0_1 ((rd_T33 l3 x30_1).f0) t315 _ ?side1 ?side2 A17.out).mono ?_); (case side1 => exact Kd.C_below HR0_1.out (by repeat (first | (with_reducible first | exact HB.out | apply below_alloc | apply pw_below_drewN | apply below_drew1 | refine below_set ?_ GE305.out | refine below_set ?_ GE314.out) | exact HB.out))); (case side2 => exact HC0_1.out); rintro e w23 ⟨rfl, hb⟩; refine ⟨_, rfl, ?_⟩; have n0_ := Aside0.mk (Kd.R_below (by (with_reducible repeat (first | apply Kd.R_alloc | apply Kd.R_drewN | apply Kd.R_drew)); exact (Kd.R_mono (Kd.R_far (p := ⟨gb314, 2, none⟩) (Kd.R_far (p := ⟨gb314, 1, none⟩) (Kd.R_far (p := ⟨gb314, 0, none⟩) (Kd.R_types HO_9.out BK314.out (by decide)) (fun _ hk => hk.2) (.string ((rd_T33 l3 x30_1).f0))) (fun _ hk => hk.2) (.int .i64 ((rd_T33 l3 x30_1).f1))) (fun _ hk => hk.2) (.int .i64 ((rd_T33 l3 x30_1).f2))) (fun _ h_ => h_.1))) hb); have n1_ := Aside0.mk (blk_below (g := gb305) (o := .cells #[.int .i64 a0_0, .slice A0_1 l0_1.length c0_1] 26 (0, 0)) (by (with_reducible repeat (first | refine blk_drewN ?_ _ | refine blk_drew ?_ | refine blk_alloc ?_ _)); refine blk_far ?_ NB305_314.out _; (with_reducible repeat (first | refine blk_drewN ?_ _ | refine blk_drew ?_ | refine blk_alloc ?_ _)); refine blk_far ?_ NB305_314.out _; (with_reducible repeat (first | refine blk_drewN ?_ _ | refine blk_drew ?_ | refine blk_alloc ?_ _)); refine blk_far ?_ NB305_314.out _; (with_reducible repeat (first | refine blk_drewN ?_ _ | refine blk_drew ?_ | refine blk_alloc ?_ _)); exact BK305.out) hb); have n2_ := Aside0.mk (blk_below (g := gb314) (o := .cells #[.string ((rd_T33 l3 x30_1).f0), .int .i64 ((rd_T33 l3 x30_1).f1), .int .i64 ((rd_T33 l3 x30_1).f2)] 33 (0, 0)) (by (with_reducible repeat (first | refine blk_drewN ?_ _ | refine blk_drew ?_ | refine blk_alloc ?_ _)); refine blk_put (cs := #[.string ((rd_T33 l3 x30_1).f0), .int .i64 ((rd_T33 l3 x30_1).f1), .int .i64 0]) ?_ 2 _ rfl; (with_reducible repeat (first | refine blk_drewN ?_ _ | refine blk_drew ?_ | refine blk_alloc ?_ _)); refine blk_put (cs := #[.string ((rd_T33 l3 x30_1).f0), .int .i64 0, .int .i64 0]) ?_ 1 _ rfl; (with_reducible repeat (first | refine blk_drewN ?_ _ | refine blk_drew ?_ | refine blk_alloc ?_ _)); refine blk_put (cs := #[.string (⟨#[]⟩ : ByteArray), .int .i64 0, .int .i64 0]) ?_ 0 _ rfl; (with_reducible repeat (first | refine blk_drewN ?_ _ | refine blk_drew ?_ | refine blk_alloc ?_ _)); exact BK314.out) hb); have n3_ := Aside0.mk (below_step (by repeat (first | (with_reducible first | exact HB.out | apply below_alloc | apply pw_below_drewN | apply below_drew1 | refine below_set ?_ GE305.out | refine below_set ?_ GE314.out) | exact HB.out)) hb); clear HO_9; clear BK305; clear BK314; clear HB; have HO_9 := n0_; have BK305 := n1_; have BK314 := n2_; have HB := n3_; clear n0_ n1_ n2_ n3_; (try clear hb); (try clear hb2); (try clear hk); (try clear hi)))
            (try simp only [Act.put, List.setIfInBounds_toArray, List.set_cons_zero, List.set_cons_succ])
            go_cut [45] (fun v45 wc => ∃ (kq : Nat) (x45_17 : Bool), v45 = .bool x45_17 ∧ Aside0 (impl_valuesOf.j1 kq a1 x9_1 t315 l3 (l3.length : Int) x30_1 x45_17 a0_0 l0_1 ((rd_T33 l3 x30_1).f0) ((rd_T33 l3 x30_1).f1) ((rd_T33 l3 x30_1).f2) = some r) ∧ Aside0 (kq ≤ k1) ∧ Aside0 (Kd.R (Kd.int .i64) 3 wc w.heap.size (fun _ => True) u9 x9_1) ∧ Aside0 (wc.heap[gb305]? = some (.cells #[.int .i64 a0_0, (.slice A0_1 l0_1.length c0_1)] 26 (0, 0))) ∧ Aside0 (wc.heap[gb314]? = some (.cells #[.string ((rd_T33 l3 x30_1).f0), .int .i64 ((rd_T33 l3 x30_1).f1), .int .i64 ((rd_T33 l3 x30_1).f2)] 33 (0, 0))) ∧ Aside0 (Below w.heap.size w wc))
            case first =>
              have H := HC18.out
              clear HC18
              by_cases c24 : ((rd_T33 l3 x30_1).f0).toList = a1.toList
              · rw [if_pos c24] at H
                have c24b0 : (((rd_T33 l3 x30_1).f0).toList == a1.toList) = true := beq_iff_eq.mpr c24
                have c24b1 : (((rd_T33 l3 x30_1).f0).toList != a1.toList) = false := bne_eq_false_iff_eq.mpr c24
                clear c24
                (first | rw [c24b0] | (simp only [i64_w, i32_w]; rw [c24b0]) | skip)
                have H' := Aside0.mk H
                clear H
                have hnb25 := NB314_305.out
                have hnc25 := NB305_314.out
                have hcz26_0 : w23.cell? ⟨gb314, 0, none⟩ = some (.string ((rd_T33 l3 x30_1).f0)) := (blk_cell BK314.out 0).trans rfl
                have hcz26_1 : w23.cell? ⟨gb314, 1, none⟩ = some (.int .i64 ((rd_T33 l3 x30_1).f1)) := (blk_cell BK314.out 1).trans rfl
                have hcz26_2 : w23.cell? ⟨gb314, 2, none⟩ = some (.int .i64 ((rd_T33 l3 x30_1).f2)) := (blk_cell BK314.out 2).trans rfl
                have hfz26_0 := blk_frozen BK314.out 0
                have hfz26_1 := blk_frozen BK314.out 1
                have hfz26_2 := blk_frozen BK314.out 2
                go_wp2
                go_meet
                case rel => exact ⟨_, (true), (by first | rfl | (simp; done) | (simp [*]; done)), H', ⟨by have := HK1.out; first | omega | exact Nat.le_refl _⟩, ⟨by (with_reducible repeat (first | apply Kd.R_alloc | apply Kd.R_drewN | apply Kd.R_drew)); exact HO_9.out⟩, ⟨by (with_reducible repeat (first | refine blk_drewN ?_ _ | refine blk_drew ?_ | refine blk_alloc ?_ _)); exact BK305.out⟩, ⟨by (with_reducible repeat (first | refine blk_drewN ?_ _ | refine blk_drew ?_ | refine blk_alloc ?_ _)); exact BK314.out⟩, ⟨by repeat (first | (with_reducible first | exact HB.out | apply below_alloc | apply pw_below_drewN | apply below_drew1 | refine below_set ?_ GE305.out | refine below_set ?_ GE314.out) | exact HB.out)⟩⟩
              · rw [if_neg c24] at H
                have c24b0 : (((rd_T33 l3 x30_1).f0).toList == a1.toList) = false := beq_eq_false_iff_ne.mpr c24
                have c24b1 : (((rd_T33 l3 x30_1).f0).toList != a1.toList) = true := bne_iff_ne.mpr c24
                (first | rw [c24b0] | (simp only [i64_w, i32_w]; rw [c24b0]) | skip)
                have H' := Aside0.mk H
                clear H
                have hnb27 := NB314_305.out
                have hnc27 := NB305_314.out
                have hcz28_0 : w23.cell? ⟨gb314, 0, none⟩ = some (.string ((rd_T33 l3 x30_1).f0)) := (blk_cell BK314.out 0).trans rfl
                have hcz28_1 : w23.cell? ⟨gb314, 1, none⟩ = some (.int .i64 ((rd_T33 l3 x30_1).f1)) := (blk_cell BK314.out 1).trans rfl
                have hcz28_2 : w23.cell? ⟨gb314, 2, none⟩ = some (.int .i64 ((rd_T33 l3 x30_1).f2)) := (blk_cell BK314.out 2).trans rfl
                have hfz28_0 := blk_frozen BK314.out 0
                have hfz28_1 := blk_frozen BK314.out 1
                have hfz28_2 := blk_frozen BK314.out 2
                go_wp2
                go_meet
                case rel => exact ⟨_, ((t315 == 0)), (by first | rfl | (simp; done) | (simp [*]; done)), H', ⟨by have := HK1.out; first | omega | exact Nat.le_refl _⟩, ⟨by (with_reducible repeat (first | apply Kd.R_alloc | apply Kd.R_drewN | apply Kd.R_drew)); exact HO_9.out⟩, ⟨by (with_reducible repeat (first | refine blk_drewN ?_ _ | refine blk_drew ?_ | refine blk_alloc ?_ _)); exact BK305.out⟩, ⟨by (with_reducible repeat (first | refine blk_drewN ?_ _ | refine blk_drew ?_ | refine blk_alloc ?_ _)); exact BK314.out⟩, ⟨by repeat (first | (with_reducible first | exact HB.out | apply below_alloc | apply pw_below_drewN | apply below_drew1 | refine below_set ?_ GE305.out | refine below_set ?_ GE314.out) | exact HB.out)⟩⟩
            case rest =>
              clear HC18
              try clear c1
              try clear c2
              try clear p2
              try clear c3
              try clear p3
              try clear q3
              try clear hx3
              try clear c4
              try clear c6
              try clear c13
              try clear c14
              try clear c14b0
              try clear c15
              try clear c15b0
              try clear c16
              try clear c16b0
              try clear c20
              try clear c24
              try clear c24b0
              try clear c24b1
              try clear c25
              try clear c27
              try clear hcz21_0
              try clear hcz21_1
              try clear hcz21_2
              try clear hcz22_0
              try clear hcz22_1
              try clear hcz26_0
              try clear hcz26_1
              try clear hcz26_2
              try clear hcz28_0
              try clear hcz28_1
              try clear hcz28_2
              try clear hcz7_0
              try clear hcz7_1
              try clear hfz21_0
              try clear hfz21_1
              try clear hfz21_2
              try clear hfz22_0
              try clear hfz22_1
              try clear hfz26_0
              try clear hfz26_1
              try clear hfz26_2
              try clear hfz28_0
              try clear hfz28_1
              try clear hfz28_2
              try clear hfz7_0
              try clear hfz7_1
              try clear hx313_0
              try clear hx313_1
              try clear hx313_2
              try clear p2
              try clear p313
              try clear q313
              obtain ⟨kq, x45_17, rfl, HA, HJ17, HO_9, BK305, BK314, HB⟩ := hcut
              cases kq with
              | zero => exact absurd HA.out (by simp [impl_valuesOf.j1])
              | succ kj17 =>
                have H := HA.out
                clear HA
                simp only [impl_valuesOf.j1] at H
                by_cases c29 : x45_17 = true
                · subst c29
                  have H1 : (impl_valuesOf.l0 kj17 a1 x9_1 l3 (l3.length : Int) (wrap64 (x30_1 + 1)) a0_0 l0_1) = some r := by rw [if_pos rfl] at H; exact H
                  clear H
                  have H := H1
                  clear H1
                  have H' := Aside0.mk H
                  clear H
                  go_wp2
                  go_roundg kj17
                  case measure => have := HK1.out; have := HJ17.out; omega
                  case rel => exact ⟨(x9_1), (wrap64 (x30_1 + 1)), (by first | rfl | (simp; done) | (simp [*]; done)), H', ⟨by have := HK1.out; have := HJ17.out; omega⟩, ⟨by (with_reducible repeat (first | apply Kd.R_alloc | apply Kd.R_drewN | apply Kd.R_drew)); exact HO_9.out⟩, ⟨by (with_reducible repeat (first | refine blk_drewN ?_ _ | refine blk_drew ?_ | refine blk_alloc ?_ _)); exact BK305.out⟩, ⟨by repeat (first | (with_reducible first | exact HB.out | apply below_alloc | apply pw_below_drewN | apply below_drew1 | refine below_set ?_ GE305.out | refine below_set ?_ GE314.out) | exact HB.out)⟩⟩
                · replace c29 := Bool.eq_false_iff.mpr c29
                  subst c29
                  have H1 : (impl_valuesOf.l1 kj17 a1 t315 ([] : List Int) l3 (l3.length : Int) x30_1 x9_1 (x9_1.length : Int) 0 a0_0 l0_1 ((rd_T33 l3 x30_1).f0) ((rd_T33 l3 x30_1).f1) ((rd_T33 l3 x30_1).f2)) = some r := by rw [if_neg (show ¬ (false = true) by decide)] at H; exact H
                  clear H
                  have H := H1
                  clear H1
                  have H' := Aside0.mk H
                  clear H
                  obtain ⟨Ao30, co30, eo30⟩ := Kd.R_slice HO_9.out
                  subst eo30
                  go_wp2
                  go_loopg [13, 48] kj17 (fun kq v13 v48 w' => ∃ (x13_3 : List Int) (x48_3 : Int), v48 = .int .i64 x48_3 ∧ Aside0 (impl_valuesOf.l1 kq a1 t315 x13_3 l3 (l3.length : Int) x30_1 x9_1 (x9_1.length : Int) x48_3 a0_0 l0_1 ((rd_T33 l3 x30_1).f0) ((rd_T33 l3 x30_1).f1) ((rd_T33 l3 x30_1).f2) = some r) ∧ Aside0 (kq ≤ kj17) ∧ Aside0 (Kd.R (Kd.int .i64) 3 w' w.heap.size (fun k_ => some k_ ≠ ((.slice Ao30 x9_1.length co30) : Value).ownBlock) v13 x13_3) ∧ Aside0 (Kd.R (Kd.int .i64) 3 w' w.heap.size (fun k_ => some k_ ≠ (v13 : Value).ownBlock) (.slice Ao30 x9_1.length co30) x9_1) ∧ Aside0 (w'.heap[gb305]? = some (.cells #[.int .i64 a0_0, (.slice A0_1 l0_1.length c0_1)] 26 (0, 0))) ∧ Aside0 (w'.heap[gb314]? = some (.cells #[.string ((rd_T33 l3 x30_1).f0), .int .i64 ((rd_T33 l3 x30_1).f1), .int .i64 ((rd_T33 l3 x30_1).f2)] 33 (0, 0))) ∧ Aside0 (Below w.heap.size w w'))
                  case atStart => exact ⟨(([] : List Int)), (0), (by first | rfl | (simp; done) | (simp [*]; done)), H', ⟨Nat.le_refl _⟩, ⟨by first | exact Kd.R_nil _ _ _ _ _ | exact Kd.N_nil _ _ _ _ _ | exact Kd.V_nil _ _ _ _ _ | exact Kd.Q_nil _ _ _ _ _ | exact Kd.S_nil _ _ _ _ _⟩, ⟨by (with_reducible repeat (first | apply Kd.R_alloc | apply Kd.R_drewN | apply Kd.R_drew)); exact Kd.R_mono HO_9.out (fun _ hk => (by simp [Value.ownBlock]))⟩, ⟨by (with_reducible repeat (first | refine blk_drewN ?_ _ | refine blk_drew ?_ | refine blk_alloc ?_ _)); exact BK305.out⟩, ⟨by (with_reducible repeat (first | refine blk_drewN ?_ _ | refine blk_drew ?_ | refine blk_alloc ?_ _)); exact BK314.out⟩, ⟨by repeat (first | (with_reducible first | exact HB.out | apply below_alloc | apply pw_below_drewN | apply below_drew1 | refine below_set ?_ GE305.out | refine below_set ?_ GE314.out) | exact HB.out)⟩⟩
                  case round =>
                    clear H'
                    try clear c1
                    try clear c2
                    try clear p2
                    try clear c3
                    try clear p3
                    try clear q3
                    try clear hx3
                    try clear c4
                    try clear c6
                    try clear p6
                    try clear c13
                    try clear c14
                    try clear c14b0
                    try clear c15
                    try clear c15b0
                    try clear c16
                    try clear c16b0
                    try clear c20
                    try clear c24
                    try clear c24b0
                    try clear c24b1
                    try clear c25
                    try clear c27
                    try clear c29
                    try clear hcz21_0
                    try clear hcz21_1
                    try clear hcz21_2
                    try clear hcz22_0
                    try clear hcz22_1
                    try clear hcz26_0
                    try clear hcz26_1
                    try clear hcz26_2
                    try clear hcz28_0
                    try clear hcz28_1
                    try clear hcz28_2
                    try clear hcz7_0
                    try clear hcz7_1
                    try clear hfz21_0
                    try clear hfz21_1
                    try clear hfz21_2
                    try clear hfz22_0
                    try clear hfz22_1
                    try clear hfz26_0
                    try clear hfz26_1
                    try clear hfz26_2
                    try clear hfz28_0
                    try clear hfz28_1
                    try clear hfz28_2
                    try clear hfz7_0
                    try clear hfz7_1
                    try clear hx313_0
                    try clear hx313_1
                    try clear hx313_2
                    try clear p2
                    try clear p3
                    try clear p313
                    try clear q3
                    try clear q313
                    obtain ⟨x13_3, x48_3, rfl, HA, HK3, HO_13, HO_46, BK305, BK314, HB⟩ := hrel
                    cases gk with
                    | zero => exact absurd HA.out (by simp [impl_valuesOf.l1])
                    | succ k3 =>
                      have H := HA.out
                      clear HA
                      simp only [impl_valuesOf.l1] at H
                      by_cases c31 : x48_3 < (x9_1.length : Int)
                      · rw [if_pos c31] at H
                        have c31b0 : decide (x48_3 < (x9_1.length : Int)) = true := decide_eq_true c31
                        clear c31
                        by_cases c32 : 0 ≤ x48_3
                        · rw [if_pos c32] at H
                          have c32b0 : decide (0 ≤ x48_3) = true := decide_eq_true c32
                          clear c32
                          by_cases c33 : x48_3 < (x9_1.length : Int)
                          · rw [if_pos c33] at H
                            have c33b0 : decide (x48_3 < (x9_1.length : Int)) = true := decide_eq_true c33
                            clear c33
                            have H' := Aside0.mk H
                            clear H
                            have p316 : 0 ≤ (x48_3 : Int) := of_decide_eq_true (by first | (with_reducible assumption) | assumption)
                            have q316 : x48_3 < (x9_1.length : Int) := of_decide_eq_true (by first | (with_reducible assumption) | assumption)
                            obtain ⟨ad316, e316, hx316_0⟩ := Kd.at_int (Kd.R_reads' HO_46.out).2.2 x48_3 p316 q316
                            cases e316
                            replace p316 := eq_true p316
                            replace q316 := eq_true q316
                            have hnb34 := NB314_305.out
                            have hnc34 := NB305_314.out
                            have hcz35_0 : wr.cell? ⟨gb314, 0, none⟩ = some (.string ((rd_T33 l3 x30_1).f0)) := (blk_cell BK314.out 0).trans rfl
                            have hcz35_1 : wr.cell? ⟨gb314, 1, none⟩ = some (.int .i64 ((rd_T33 l3 x30_1).f1)) := (blk_cell BK314.out 1).trans rfl
                            have hcz35_2 : wr.cell? ⟨gb314, 2, none⟩ = some (.int .i64 ((rd_T33 l3 x30_1).f2)) := (blk_cell BK314.out 2).trans rfl
                            have hfz35_0 := blk_frozen BK314.out 0
                            have hfz35_1 := blk_frozen BK314.out 1
                            have hfz35_2 := blk_frozen BK314.out 2
                            go_wp2
                            go_loopg [13, 16] k3 (fun kq v13 v16 w' => ∃ (x13_4 : List Int) (x16_4 : Int), v16 = .int .i64 x16_4 ∧ Aside0 (impl_valuesOf.l2 kq a1 t315 x13_4 (rd x9_1 x48_3) x16_4 l3 (l3.length : Int) x30_1 x9_1 (x9_1.length : Int) x48_3 a0_0 l0_1 ((rd_T33 l3 x30_1).f0) ((rd_T33 l3 x30_1).f1) ((rd_T33 l3 x30_1).f2) = some r) ∧ Aside0 (kq ≤ k3) ∧ Aside0 (Kd.R (Kd.int .i64) 3 w' w.heap.size (fun k_ => some k_ ≠ ((.slice (some ad316) x9_1.length co30) : Value).ownBlock) v13 x13_4) ∧ Aside0 (Kd.R (Kd.int .i64) 3 w' w.heap.size (fun k_ => some k_ ≠ (v13 : Value).ownBlock) (.slice (some ad316) x9_1.length co30) x9_1) ∧ Aside0 (w'.heap[gb305]? = some (.cells #[.int .i64 a0_0, (.slice A0_1 l0_1.length c0_1)] 26 (0, 0))) ∧ Aside0 (w'.heap[gb314]? = some (.cells #[.string ((rd_T33 l3 x30_1).f0), .int .i64 ((rd_T33 l3 x30_1).f1), .int .i64 ((rd_T33 l3 x30_1).f2)] 33 (0, 0))) ∧ Aside0 (Below w.heap.size w w'))
                            case atStart => exact ⟨(x13_3), (((rd_T33 l3 x30_1).f1)), (by first | rfl | (simp; done) | (simp [*]; done)), H', ⟨Nat.le_refl _⟩, ⟨by (with_reducible repeat (first | apply Kd.R_alloc | apply Kd.R_drewN | apply Kd.R_drew)); exact HO_13.out⟩, ⟨by (with_reducible repeat (first | apply Kd.R_alloc | apply Kd.R_drewN | apply Kd.R_drew)); exact HO_46.out⟩, ⟨by (with_reducible repeat (first | refine blk_drewN ?_ _ | refine blk_drew ?_ | refine blk_alloc ?_ _)); exact BK305.out⟩, ⟨by (with_reducible repeat (first | refine blk_drewN ?_ _ | refine blk_drew ?_ | refine blk_alloc ?_ _)); exact BK314.out⟩, ⟨by repeat (first | (with_reducible first | exact HB.out | apply below_alloc | apply pw_below_drewN | apply below_drew1 | refine below_set ?_ GE305.out | refine below_set ?_ GE314.out) | exact HB.out)⟩⟩
                            case round =>
                              clear H'
                              try clear c1
                              try clear c2
                              try clear p2
                              try clear c3
                              try clear p3
                              try clear q3
                              try clear hx3
                              try clear c4
                              try clear c6
                              try clear p6
                              try clear c13
                              try clear c14
                              try clear c14b0
                              try clear c15
                              try clear c15b0
                              try clear c16
                              try clear c16b0
                              try clear c20
                              try clear c24
                              try clear c24b0
                              try clear c24b1
                              try clear c25
                              try clear c27
                              try clear c29
                              try clear c31
                              try clear c31b0
                              try clear p31
                              try clear q31
                              try clear hx31
                              try clear c32
                              try clear c32b0
                              try clear c33
                              try clear c33b0
                              try clear c34
                              try clear hcz21_0
                              try clear hcz21_1
                              try clear hcz21_2
                              try clear hcz22_0
                              try clear hcz22_1
                              try clear hcz26_0
                              try clear hcz26_1
                              try clear hcz26_2
                              try clear hcz28_0
                              try clear hcz28_1
                              try clear hcz28_2
                              try clear hcz35_0
                              try clear hcz35_1
                              try clear hcz35_2
                              try clear hcz7_0
                              try clear hcz7_1
                              try clear hfz21_0
                              try clear hfz21_1
                              try clear hfz21_2
                              try clear hfz22_0
                              try clear hfz22_1
                              try clear hfz26_0
                              try clear hfz26_1
                              try clear hfz26_2
                              try clear hfz28_0
                              try clear hfz28_1
                              try clear hfz28_2
                              try clear hfz35_0
                              try clear hfz35_1
                              try clear hfz35_2
                              try clear hfz7_0
                              try clear hfz7_1
                              try clear hx313_0
                              try clear hx313_1
                              try clear hx313_2
                              try clear hx316_0
                              try clear p2
                              try clear p3
                              try clear p313
                              try clear p316
                              try clear p6
                              try clear q3
                              try clear q313
                              try clear q316
                              obtain ⟨x13_4, x16_4, rfl, HA, HK4, HO_13, HO_46, BK305, BK314, HB⟩ := hrel
                              cases gk with
                              | zero => exact absurd HA.out (by simp [impl_valuesOf.l2])
                              | succ k4 =>
                                have H := HA.out
                                clear HA
                                simp only [impl_valuesOf.l2] at H
                                by_cases c36 : x16_4 ≤ ((rd_T33 l3 x30_1).f2)
                                · rw [if_pos c36] at H
                                  have c36b0 : decide (x16_4 ≤ ((rd_T33 l3 x30_1).f2)) = true := decide_eq_true c36
                                  clear c36
                                  by_cases c37 : x13_4.length < 17592186044416
                                  · rw [if_pos c37] at H
                                    have LMc37 := Aside0.mk c37
                                    clear c37
                                    obtain ⟨y317, hy317⟩ : ∃ y_ : List Int, y_ = (x13_4 ++ [wrap64 ((rd x9_1 x48_3) + (wrap64 (t315 * x16_4)))]) := ⟨_, rfl⟩
                                    replace H : (impl_valuesOf.l2 k4 a1 t315 y317 (rd x9_1 x48_3) (wrap64 (x16_4 + 1)) l3 (l3.length : Int) x30_1 x9_1 (x9_1.length : Int) x48_3 a0_0 l0_1 ((rd_T33 l3 x30_1).f0) ((rd_T33 l3 x30_1).f1) ((rd_T33 l3 x30_1).f2)) = some r := by first | (rw [hy317]; with_reducible exact H) | (have H2_ := (Option.bind_some _ _).symm.trans H; rw [hy317]; with_reducible exact H2_) | (have H2_ := (Option.bind_some _ _).symm.trans H; with_reducible exact H2_) | with_reducible exact H | (rw [hy317]; exact H) | exact H
                                    have Ny317 := Aside0.mk hy317
                                    clear hy317
                                    have H' := Aside0.mk H
                                    clear H
                                    have hnb38 := NB314_305.out
                                    have hnc38 := NB305_314.out
                                    have hcz39_0 : wr.cell? ⟨gb314, 0, none⟩ = some (.string ((rd_T33 l3 x30_1).f0)) := (blk_cell BK314.out 0).trans rfl
                                    have hcz39_1 : wr.cell? ⟨gb314, 1, none⟩ = some (.int .i64 ((rd_T33 l3 x30_1).f1)) := (blk_cell BK314.out 1).trans rfl
                                    have hcz39_2 : wr.cell? ⟨gb314, 2, none⟩ = some (.int .i64 ((rd_T33 l3 x30_1).f2)) := (blk_cell BK314.out 2).trans rfl
                                    have hfz39_0 := blk_frozen BK314.out 0
                                    have hfz39_1 := blk_frozen BK314.out 1
                                    have hfz39_2 := blk_frozen BK314.out 2
                                    go_wp2_with (first | ((with_reducible refine gate_builtin (b := .append) (xs := #[.tmp 60, .tmp 66]) rfl ?_); at_builtin; refine Kd.R_append (Kd.int .i64) (w0 := w) w.heap.size rfl (.tmp 60) (.tmp 66) 81 3 (.int .i64 0) 8 rfl Try.underlying81 info3 rfl (by decide) (by omega) u13 x13_4 (wrap64 ((rd x9_1 x48_3) + (wrap64 (t315 * x16_4)))) [.int .i64 (wrap64 ((rd x9_1 x48_3) + (wrap64 (t315 * x16_4))))] (fun k_ => some k_ ≠ (.slice (some ad316) x9_1.length co30 : Value).ownBlock) (fun _ => False) rfl rfl ?aP (fun _ hk => hk.elim) ?aF ?aO ?aB ?aS ?aL ?_; (case aP => exact rfl); (case aB => exact (by repeat (first | (with_reducible first | exact HB.out | apply below_alloc | apply pw_below_drewN | apply below_drew1 | refine below_set ?_ GE305.out | refine below_set ?_ GE314.out) | exact HB.out))); (case aF => exact (fun k_ hk => Kd.fresh' (Kd.R_lt (by (with_reducible repeat (first | apply Kd.R_alloc | apply Kd.R_drewN | apply Kd.R_drew)); exact HO_46.out)) k_ hk)); (case aO => exact (by (with_reducible repeat (first | apply Kd.R_alloc | apply Kd.R_drewN | apply Kd.R_drew)); exact HO_13.out)); (case aS => exact (below_size (by repeat (first | (with_reducible first | exact HB.out | apply below_alloc | apply pw_below_drewN | apply below_drew1 | refine below_set ?_ GE305.out | refine below_set ?_ GE314.out) | exact HB.out)))); (case aL => have := LMc37.out; omega); intro v318 w40 ho hb hg hat; rw [← Ny317.out] at ho; have n0_ := Aside0.mk (Kd.R_after (ok := (fun _ => True)) (by (with_reducible repeat (first | apply Kd.R_alloc | apply Kd.R_drewN | apply Kd.R_drew)); exact Kd.R_mono HO_46.out (fun _ hk => ⟨trivial, hk⟩)) hg hat); have n1_ := Aside0.mk (blk_grown (g := gb305) (o := .cells #[.int .i64 a0_0, .slice A0_1 l0_1.length c0_1] 26 (0, 0)) (by (with_reducible repeat (first | refine blk_drewN ?_ _ | refine blk_drew ?_ | refine blk_alloc ?_ _)); exact BK305.out) hg (Kd.R_ne HO_13.out BK305.out (by decide))); have n2_ := Aside0.mk (blk_grown (g := gb314) (o := .cells #[.string ((rd_T33 l3 x30_1).f0), .int .i64 ((rd_T33 l3 x30_1).f1), .int .i64 ((rd_T33 l3 x30_1).f2)] 33 (0, 0)) (by (with_reducible repeat (first | refine blk_drewN ?_ _ | refine blk_drew ?_ | refine blk_alloc ?_ _)); exact BK314.out) hg (Kd.R_ne HO_13.out BK314.out (by decide))); have n3_ := Aside0.mk (hb); have n4_ := Aside0.mk (ho); clear HO_46; clear BK305; clear BK314; clear HB; clear HO_13; have HO_46 := n0_; have BK305 := n1_; have BK314 := n2_; have HB := n3_; have HO319 := n4_; clear n0_ n1_ n2_ n3_ n4_; clear ho hb hg hat))
                                    go_roundg k4
                                    case measure => have := HK1.out; have := HJ17.out; have := HK3.out; have := HK4.out; omega
                                    case rel => exact ⟨(y317), (wrap64 (x16_4 + 1)), (by first | rfl | (simp; done) | (simp [*]; done)), H', ⟨by have := HK1.out; have := HJ17.out; have := HK3.out; have := HK4.out; omega⟩, ⟨by (with_reducible repeat (first | apply Kd.R_alloc | apply Kd.R_drewN | apply Kd.R_drew)); exact HO319.out⟩, ⟨by (with_reducible repeat (first | apply Kd.R_alloc | apply Kd.R_drewN | apply Kd.R_drew)); exact Kd.R_mono HO_46.out (fun _ hk => hk.2)⟩, ⟨by (with_reducible repeat (first | refine blk_drewN ?_ _ | refine blk_drew ?_ | refine blk_alloc ?_ _)); exact BK305.out⟩, ⟨by (with_reducible repeat (first | refine blk_drewN ?_ _ | refine blk_drew ?_ | refine blk_alloc ?_ _)); exact BK314.out⟩, ⟨by repeat (first | (with_reducible first | exact HB.out | apply below_alloc | apply pw_below_drewN | apply below_drew1 | refine below_set ?_ GE305.out | refine below_set ?_ GE314.out) | exact HB.out)⟩⟩
                                  · rw [if_neg c37] at H
                                    exact absurd H (by simp)
                                · rw [if_neg c36] at H
                                  have c36b0 : decide (x16_4 ≤ ((rd_T33 l3 x30_1).f2)) = false := decide_eq_false c36
                                  clear c36
                                  have H' := Aside0.mk H
                                  clear H
                                  have hnb41 := NB314_305.out
                                  have hnc41 := NB305_314.out
                                  have hcz42_0 : wr.cell? ⟨gb314, 0, none⟩ = some (.string ((rd_T33 l3 x30_1).f0)) := (blk_cell BK314.out 0).trans rfl
                                  have hcz42_1 : wr.cell? ⟨gb314, 1, none⟩ = some (.int .i64 ((rd_T33 l3 x30_1).f1)) := (blk_cell BK314.out 1).trans rfl
                                  have hcz42_2 : wr.cell? ⟨gb314, 2, none⟩ = some (.int .i64 ((rd_T33 l3 x30_1).f2)) := (blk_cell BK314.out 2).trans rfl
                                  have hfz42_0 := blk_frozen BK314.out 0
                                  have hfz42_1 := blk_frozen BK314.out 1
                                  have hfz42_2 := blk_frozen BK314.out 2
                                  go_wp2
                                  go_roundg k4
                                  case measure => have := HK1.out; have := HJ17.out; have := HK3.out; have := HK4.out; omega
                                  case rel => exact ⟨(x13_4), (wrap64 (x48_3 + 1)), (by first | rfl | (simp; done) | (simp [*]; done)), H', ⟨by have := HK1.out; have := HJ17.out; have := HK3.out; have := HK4.out; omega⟩, ⟨by (with_reducible repeat (first | apply Kd.R_alloc | apply Kd.R_drewN | apply Kd.R_drew)); exact HO_13.out⟩, ⟨by (with_reducible repeat (first | apply Kd.R_alloc | apply Kd.R_drewN | apply Kd.R_drew)); exact HO_46.out⟩, ⟨by (with_reducible repeat (first | refine blk_drewN ?_ _ | refine blk_drew ?_ | refine blk_alloc ?_ _)); exact BK305.out⟩, ⟨by (with_reducible repeat (first | refine blk_drewN ?_ _ | refine blk_drew ?_ | refine blk_alloc ?_ _)); exact BK314.out⟩, ⟨by repeat (first | (with_reducible first | exact HB.out | apply below_alloc | apply pw_below_drewN | apply below_drew1 | refine below_set ?_ GE305.out | refine below_set ?_ GE314.out) | exact HB.out)⟩⟩
                          · rw [if_neg c33] at H
                            exact absurd H (by simp)
                        · rw [if_neg c32] at H
                          exact absurd H (by simp)
                      · rw [if_neg c31] at H
                        have c31b0 : decide (x48_3 < (x9_1.length : Int)) = false := decide_eq_false c31
                        clear c31
                        have H' := Aside0.mk H
                        clear H
                        go_wp2
                        go_roundg k3
                        case measure => have := HK1.out; have := HJ17.out; have := HK3.out; omega
                        case rel => exact ⟨(x13_3), (wrap64 (x30_1 + 1)), (by first | rfl | (simp; done) | (simp [*]; done)), H', ⟨by have := HK1.out; have := HJ17.out; have := HK3.out; omega⟩, ⟨by (with_reducible repeat (first | apply Kd.R_alloc | apply Kd.R_drewN | apply Kd.R_drew)); exact Kd.R_mono HO_13.out (fun _ hk => trivial)⟩, ⟨by (with_reducible repeat (first | refine blk_drewN ?_ _ | refine blk_drew ?_ | refine blk_alloc ?_ _)); exact BK305.out⟩, ⟨by repeat (first | (with_reducible first | exact HB.out | apply below_alloc | apply pw_below_drewN | apply below_drew1 | refine below_set ?_ GE305.out | refine below_set ?_ GE314.out) | exact HB.out)⟩⟩
          · rw [if_neg c16] at H
            exact absurd H (by simp)
        · rw [if_neg c15] at H
          exact absurd H (by simp)
      · rw [if_neg c14] at H
        have c14b0 : decide (x30_1 < (l3.length : Int)) = false := decide_eq_false c14
        clear c14
        obtain rfl := Option.some.inj H
        go_wp2
        go_ret
        exact ⟨_, by first | rfl | (simp [errW_none, errW_some] <;> rfl) | (simp [*, errW_none, errW_some] <;> rfl), by (with_reducible repeat (first | apply Kd.R_alloc | apply Kd.R_drewN | apply Kd.R_drew)); exact HO_9.out, by repeat (first | (with_reducible first | exact HB.out | apply below_alloc | apply pw_below_drewN | apply below_drew1 | refine below_set ?_ GE305.out) | exact HB.out)⟩

def impl_MeetAt.wfs (l : List Int) : Bool := l.all fun x => (Lit.int .i64 x).wf
def impl_MeetAt.f (k : Nat) (a0_0 : Int) (l0_1 : List S73) (a1_0 : Int) (l1_1 : List S73) (a2 : ByteArray) (a3 : Int) (a4 : Int) (l5 : List S33) : Option Bool :=
  (impl_Rounds.f k l5).bind fun t1 => if (decide (1 ≤ t1) && decide (t1 ≤ 600)) = true then ((impl_AffOk.f k a0_0 l0_1).bind fun t2 => if t2 = true then ((impl_AffOk.f k a1_0 l1_1).bind fun t3 => if t3 = true then
    ((impl_valuesOf.f k a0_0 l0_1 a2 a3 l5).bind fun xs => (impl_valuesOf.f k a1_0 l1_1 a2 a4 l5).bind fun ys => if (impl_MeetAt.wfs xs && impl_MeetAt.wfs ys && decide (xs.length ≤ 140737488351232) && decide (ys.length ≤ 140737488351232)) = true then some (ys.any fun y => xs.contains y) else none)
    else some false) else some false) else some false
theorem impl_MeetAt.mono : ∀ a0 a1 a2 a3 a4 a5 a6 a7 k, LeO (impl_MeetAt.f k a0 a1 a2 a3 a4 a5 a6 a7) (impl_MeetAt.f (k + 1) a0 a1 a2 a3 a4 a5 a6 a7) := by
  intro a0 a1 a2 a3 a4 a5 a6 a7 k
  unfold impl_MeetAt.f
  repeat' first
      | (with_reducible exact impl_Rounds.mono _ _)
      | (with_reducible exact impl_AffOk.mono _ _ _)
      | (with_reducible exact impl_valuesOf.mono _ _ _ _ _ _)
      | (with_reducible exact LeO.refl _)
      | (with_reducible exact LeO.none _)
      | (with_reducible refine LeO.ite ?_ ?_)
      | (with_reducible refine LeO.bind ?_ (fun _ => ?_))
theorem impl_MeetAt.inR (t : Int) : impl_inRange.f t 1 600 = some (decide (1 ≤ t) && decide (t ≤ 600)) := by
  unfold impl_inRange.f
  by_cases h : t ≥ 1
  · have h' : 1 ≤ t := h
    rw [if_pos h]
    simp [h']
  · have h' : ¬ 1 ≤ t := h
    rw [if_neg h]
    simp [h']
theorem impl_MeetAt.mapBelow {H : Type} {P : Program} {k : TypeId} {R : Value → Option (DataW H × List MemPlace)} {w w' : World} {b n : Nat} {D : DataW H} (h : w.ownsMap P k R b n D) (hb : Below w.heap.size w w') : w'.ownsMap P k R b n D := by
  have hlt := h.lt
  obtain ⟨es, clock, h1, r⟩ := h
  exact ⟨es, clock, (hb.block b hlt).trans h1, r⟩
theorem impl_MeetAt.law3 : Maps.Keyed Try.prog 3 := Maps.int_keyed Try.underlying3
theorem impl_MeetAt.zero3 (w : World) : (zeroValue 3).run Try.prog w = .ok (.int .i64 0) w := by kernel_rfl
theorem impl_MeetAt.key {l : List Int} (h : impl_MeetAt.wfs l = true) {i : Nat} (hi : i < l.length) : keyOf Try.prog 3 (.int .i64 (rd l (i : Int))) = some (.int .i64 (rd l (i : Int))) := by
  refine Maps.keyOf_int_mk Try.underlying3 ?_
  have hm : rd l (i : Int) ∈ l := by
    unfold rd
    rw [Int.toNat_natCast, List.getD_eq_getElem?_getD, List.getElem?_eq_getElem hi]
    exact List.getElem_mem hi
  exact List.all_eq_true.1 h _ hm
theorem impl_MeetAt.take (l : List Int) {i : Nat} (hi : i < l.length) : l.take (i + 1) = l.take i ++ [rd l (i : Int)] := by
  rw [List.take_add_one, List.getElem?_eq_getElem hi]
  simp [rd, List.getElem?_eq_getElem hi]
/-- What the map has behind some rounds: above 0 just at what came. -/
structure impl_MeetAt.Seen (D : DataW Unit) (l : List Int) (n : Nat) : Prop where
  isMap : Maps.IsMap D
  at_ : ∀ x : Int, ∃ c : Int, D.atKey (.int .i64 x) (.lit (.int .i64 0)) = .lit (.int .i64 c) ∧ 0 ≤ c ∧ c ≤ n ∧ (0 < c ↔ x ∈ l)
theorem impl_MeetAt.Seen.nil : impl_MeetAt.Seen (.map []) [] 0 := ⟨⟨_, rfl⟩, fun x => ⟨0, rfl, by omega, by omega, by simp⟩⟩
theorem impl_MeetAt.Seen.put {D : DataW Unit} {l : List Int} {n : Nat} (h : impl_MeetAt.Seen D l n) (hn : n < 140737488351232) {x c : Int} (hc : D.atKey (.int .i64 x) (.lit (.int .i64 0)) = .lit (.int .i64 c)) :
    impl_MeetAt.Seen (D.put (.int .i64 x) (.lit (.int .i64 (wrap64 (c + 1))))) (l ++ [x]) (n + 1) := by
  obtain ⟨c', h1, h2, h3, h4⟩ := h.at_ x
  have e : c = c' := by
    rw [hc] at h1
    injection h1 with h1
    injection h1 with _ h1
  subst e
  have hw : wrap64 (c + 1) = c + 1 := by unfold wrap64; omega
  rw [hw]
  refine ⟨(by obtain ⟨es, rfl⟩ := h.isMap; exact ⟨_, rfl⟩), fun y => ?_⟩
  by_cases hy : y = x
  · subst hy
    exact ⟨c + 1, Maps.atKey_put_same h.isMap (by trivial) _ _, by omega, by omega, by simp; omega⟩
  · obtain ⟨c2, k1, k2, k3, k4⟩ := h.at_ y
    refine ⟨c2, ?_, k2, by omega, ?_⟩
    · rw [Maps.atKey_put_other (fun e => hy (by injection e))]
      exact k1
    · rw [k4]
      simp [hy]

set_option maxHeartbeats 8000000 in
set_option maxRecDepth 100000 in
theorem impl_MeetAt.calls (k : Nat) (a0_0 : Int) (A0_1 : Option Addr) (c0_1 : Nat) (l0_1 : List (S73)) (a1_0 : Int) (A1_1 : Option Addr) (c1_1 : Nat) (l1_1 : List (S73)) (a2 : ByteArray) (a3 : Int) (a4 : Int) (A5 : Option Addr) (c5 : Nat) (l5 : List (S33)) (r : Bool) (w : World) (hr0_1 : Kd.C k73 w A0_1 l0_1.length l0_1) (hc0_1 : l0_1.length ≤ c0_1) (hr1_1 : Kd.C k73 w A1_1 l1_1.length l1_1) (hc1_1 : l1_1.length ≤ c1_1) (hr5 : Kd.C k33 w A5 l5.length l5) (hc5 : l5.length ≤ c5) (h : impl_MeetAt.f k a0_0 l0_1 a1_0 l1_1 a2 a3 a4 l5 = some r) :
    Calls Try.prog 22 #[.agg #[.int .i64 a0_0, .slice A0_1 l0_1.length c0_1], .agg #[.int .i64 a1_0, .slice A1_1 l1_1.length c1_1], .string a2, .int .i64 a3, .int .i64 a4, .slice A5 l5.length c5] w fun e w' => e = .returned (.bool r) ∧ Below w.heap.size w w' := by
  have HC0 := Aside0.mk hc0_1
  have HC1 := Aside0.mk hc1_1
  have HC5 := Aside0.mk hc5
  have HR0 := Aside0.mk hr0_1
  have HR1 := Aside0.mk hr1_1
  have HR5 := Aside0.mk hr5
  clear hc0_1 hc1_1 hc5 hr0_1 hr1_1 hr5
  unfold impl_MeetAt.f at h
  obtain ⟨t1, A1, H⟩ := Option.bind_eq_some_iff.mp h
  clear h
  have A1 := Aside0.mk A1
  obtain ⟨w2, hw2⟩ : ∃ w2, w2 = (w.alloc (.cells #[.int .i64 a0_0, .slice A0_1 l0_1.length c0_1] 26)).alloc (.cells #[.int .i64 a1_0, .slice A1_1 l1_1.length c1_1] 26) := ⟨_, rfl⟩
  have F0 : Aside0 (w2.cell? ⟨w.heap.size, 0, none⟩ = some (.int .i64 a0_0) ∧ w2.cell? ⟨w.heap.size, 1, none⟩ = some (.slice A0_1 l0_1.length c0_1) ∧ w2.cell? ⟨w.heap.size + 1, 0, none⟩ = some (.int .i64 a1_0) ∧ w2.cell? ⟨w.heap.size + 1, 1, none⟩ = some (.slice A1_1 l1_1.length c1_1) ∧ w.heap.size + 1 < w2.heap.size) := by
    subst hw2
    exact ⟨by go_simp, by go_simp, by go_simp, by go_simp, by simp⟩
  have HB2 : Aside0 (Below w.heap.size w w2) := by
    subst hw2
    exact ⟨below_alloc (below_alloc (Below.refl _ _) _) _⟩
  have cellf : ∀ W : World, Below w2.heap.size w2 W → W.cell? ⟨w.heap.size, 0, none⟩ = some (.int .i64 a0_0) ∧ W.cell? ⟨w.heap.size, 1, none⟩ = some (.slice A0_1 l0_1.length c0_1) ∧ W.cell? ⟨w.heap.size + 1, 0, none⟩ = some (.int .i64 a1_0) ∧ W.cell? ⟨w.heap.size + 1, 1, none⟩ = some (.slice A1_1 l1_1.length c1_1) := fun W hb => by
    have h5 := F0.out.2.2.2.2
    exact ⟨(hb.cell (show w.heap.size < w2.heap.size by omega)).trans F0.out.1, (hb.cell (show w.heap.size < w2.heap.size by omega)).trans F0.out.2.1, (hb.cell h5).trans F0.out.2.2.1, (hb.cell h5).trans F0.out.2.2.2.1⟩
  have CELLF := Aside0.mk cellf
  clear cellf
  have hmm := @run_makeMap Try.prog
  have INR := Aside0.mk (impl_MeetAt.inR t1)
  cases e1 : (decide (1 ≤ t1) && decide (t1 ≤ 600)) with
  | false =>
    rw [e1] at H INR
    rw [if_neg (show ¬ (false = true) by decide)] at H
    obtain rfl := Option.some.inj H
    clear H e1
    go_enter Try.func22, Try.ntmps22
    go_wp2_with (first | (go_at_call 15; rw [← hw2]; (with_reducible refine (impl_Rounds.calls k A5 c5 l5 t1 w2 (Kd.C_below HR5.out HB2.out) HC5.out A1.out).mono ?_); rintro e w3 ⟨rfl, hb⟩; have HBF := Aside0.mk hb; clear hb) | (go_at_call 58; (with_reducible refine (impl_inRange.calls t1 1 600 _ _ INR.out).mono ?_); rintro e w' ⟨rfl, ⟨nd, rfl⟩⟩; have n0_ := Aside0.mk (pw_below_drewN HBF.out nd); clear HBF; have HBF := n0_; clear n0_; obtain ⟨hf0, hf1, hf2, hf3⟩ := CELLF.out _ HBF.out))
    go_ret
    exact ⟨rfl, below_step HB2.out HBF.out⟩
  | true =>
    rw [e1] at H INR
    rw [if_pos rfl] at H
    obtain ⟨t2, A2, H⟩ := Option.bind_eq_some_iff.mp H
    have A2 := Aside0.mk A2
    clear e1
    cases t2 with
    | false =>
      rw [if_neg (show ¬ (false = true) by decide)] at H
      obtain rfl := Option.some.inj H
      clear H
      go_enter Try.func22, Try.ntmps22
      go_wp2_with (first | (go_at_call 15; rw [← hw2]; (with_reducible refine (impl_Rounds.calls k A5 c5 l5 t1 w2 (Kd.C_below HR5.out HB2.out) HC5.out A1.out).mono ?_); rintro e w3 ⟨rfl, hb⟩; have HBF := Aside0.mk hb; clear hb) | (go_at_call 58; (with_reducible refine (impl_inRange.calls t1 1 600 _ _ INR.out).mono ?_); rintro e w' ⟨rfl, ⟨nd, rfl⟩⟩; have n0_ := Aside0.mk (pw_below_drewN HBF.out nd); clear HBF; have HBF := n0_; clear n0_; obtain ⟨hf0, hf1, hf2, hf3⟩ := CELLF.out _ HBF.out) | (go_at_call 40; (with_reducible refine (impl_AffOk.calls k a0_0 A0_1 c0_1 l0_1 _ _ (Kd.C_below HR0.out (below_step HB2.out HBF.out)) HC0.out A2.out).mono ?_); rintro e w4 ⟨rfl, hb⟩; have n0_ := Aside0.mk (below_step HBF.out hb); clear HBF; have HBF := n0_; clear n0_ hb; obtain ⟨hf0, hf1, hf2, hf3⟩ := CELLF.out _ HBF.out))
      go_ret
      exact ⟨rfl, below_step HB2.out HBF.out⟩
    | true =>
      rw [if_pos rfl] at H
      obtain ⟨t3, A3, H⟩ := Option.bind_eq_some_iff.mp H
      have A3 := Aside0.mk A3
      cases t3 with
      | false =>
        rw [if_neg (show ¬ (false = true) by decide)] at H
        obtain rfl := Option.some.inj H
        clear H
        go_enter Try.func22, Try.ntmps22
        go_wp2_with (first | (go_at_call 15; rw [← hw2]; (with_reducible refine (impl_Rounds.calls k A5 c5 l5 t1 w2 (Kd.C_below HR5.out HB2.out) HC5.out A1.out).mono ?_); rintro e w3 ⟨rfl, hb⟩; have HBF := Aside0.mk hb; clear hb) | (go_at_call 58; (with_reducible refine (impl_inRange.calls t1 1 600 _ _ INR.out).mono ?_); rintro e w' ⟨rfl, ⟨nd, rfl⟩⟩; have n0_ := Aside0.mk (pw_below_drewN HBF.out nd); clear HBF; have HBF := n0_; clear n0_; obtain ⟨hf0, hf1, hf2, hf3⟩ := CELLF.out _ HBF.out) | (go_at_call 40; (with_reducible refine (impl_AffOk.calls k a0_0 A0_1 c0_1 l0_1 _ _ (Kd.C_below HR0.out (below_step HB2.out HBF.out)) HC0.out A2.out).mono ?_); rintro e w4 ⟨rfl, hb⟩; have n0_ := Aside0.mk (below_step HBF.out hb); clear HBF; have HBF := n0_; clear n0_ hb; obtain ⟨hf0, hf1, hf2, hf3⟩ := CELLF.out _ HBF.out) | (go_at_call 40; (with_reducible refine (impl_AffOk.calls k a1_0 A1_1 c1_1 l1_1 _ _ (Kd.C_below HR1.out (below_step HB2.out HBF.out)) HC1.out A3.out).mono ?_); rintro e w5 ⟨rfl, hb⟩; have n0_ := Aside0.mk (below_step HBF.out hb); clear HBF; have HBF := n0_; clear n0_ hb; obtain ⟨hf0, hf1, hf2, hf3⟩ := CELLF.out _ (below_alloc HBF.out (.map #[] 0))))
        go_ret
        exact ⟨rfl, below_step HB2.out HBF.out⟩
      | true =>
        rw [if_pos rfl] at H
        obtain ⟨xs, A4, H⟩ := Option.bind_eq_some_iff.mp H
        obtain ⟨ys, A5', H⟩ := Option.bind_eq_some_iff.mp H
        have A4 := Aside0.mk A4
        have A5' := Aside0.mk A5'
        go_enter Try.func22, Try.ntmps22
        go_wp2_with (first | (go_at_call 15; rw [← hw2]; (with_reducible refine (impl_Rounds.calls k A5 c5 l5 t1 w2 (Kd.C_below HR5.out HB2.out) HC5.out A1.out).mono ?_); rintro e w3 ⟨rfl, hb⟩; have HBF := Aside0.mk hb; clear hb) | (go_at_call 58; (with_reducible refine (impl_inRange.calls t1 1 600 _ _ INR.out).mono ?_); rintro e w' ⟨rfl, ⟨nd, rfl⟩⟩; have n0_ := Aside0.mk (pw_below_drewN HBF.out nd); clear HBF; have HBF := n0_; clear n0_; obtain ⟨hf0, hf1, hf2, hf3⟩ := CELLF.out _ HBF.out) | (go_at_call 40; (with_reducible refine (impl_AffOk.calls k a0_0 A0_1 c0_1 l0_1 _ _ (Kd.C_below HR0.out (below_step HB2.out HBF.out)) HC0.out A2.out).mono ?_); rintro e w4 ⟨rfl, hb⟩; have n0_ := Aside0.mk (below_step HBF.out hb); clear HBF; have HBF := n0_; clear n0_ hb; obtain ⟨hf0, hf1, hf2, hf3⟩ := CELLF.out _ HBF.out) | (go_at_call 40; (with_reducible refine (impl_AffOk.calls k a1_0 A1_1 c1_1 l1_1 _ _ (Kd.C_below HR1.out (below_step HB2.out HBF.out)) HC1.out A3.out).mono ?_); rintro e w5 ⟨rfl, hb⟩; have n0_ := Aside0.mk (below_step HBF.out hb); clear HBF; have HBF := n0_; clear n0_ hb; obtain ⟨hf0, hf1, hf2, hf3⟩ := CELLF.out _ (below_alloc HBF.out (.map #[] 0))) | (go_at_call 64; (with_reducible refine (impl_valuesOf.calls k a0_0 A0_1 c0_1 l0_1 a2 a3 A5 c5 l5 xs _ (Kd.C_below HR0.out (below_step HB2.out (below_alloc HBF.out (.map #[] 0)))) HC0.out (Kd.C_below HR5.out (below_step HB2.out (below_alloc HBF.out (.map #[] 0)))) HC5.out A4.out).mono ?_); rintro e w6 ⟨v0, rfl, ho, hb⟩; have HO6 := Aside0.mk ho; have HB6 := Aside0.mk hb; clear ho hb; obtain ⟨A6, c6, rfl⟩ := Kd.R_slice HO6.out))
        have hlim : xs.length ≤ 140737488351232 ∧ ys.length ≤ 140737488351232 ∧ impl_MeetAt.wfs xs = true ∧ impl_MeetAt.wfs ys = true ∧ (ys.any fun y => xs.contains y) = r := by
          by_cases hc : (impl_MeetAt.wfs xs && impl_MeetAt.wfs ys && decide (xs.length ≤ 140737488351232) && decide (ys.length ≤ 140737488351232)) = true
          · rw [if_pos hc] at H
            simp only [Bool.and_eq_true, decide_eq_true_eq] at hc
            exact ⟨hc.1.2, hc.2, hc.1.1.1, hc.1.1.2, Option.some.inj H⟩
          · rw [if_neg hc] at H
            exact absurd H (by simp)
        have HLIM := Aside0.mk hlim
        clear hlim H
        have M0 : Aside0 (w6.ownsMap Try.prog 3 (plainElem (H := Unit) Try.prog 3) w5.heap.size 0 (.map [])) := ⟨impl_MeetAt.mapBelow (World.ownsMap_made _ _ _ _) HB6.out⟩
        have B6 : Aside0 (Below w5.heap.size w5 w6) := ⟨by
          have h1 : Below w5.heap.size w5 (w5.alloc (.map #[] 0)) := below_alloc (Below.refl _ _) _
          exact below_step h1 HB6.out⟩
        have O6 : Aside0 ((Kd.int .i64).R 3 w6 w5.heap.size (fun k => w5.heap.size < k) (.slice A6 xs.length c6) xs) := ⟨Kd.R_lower (Kd.R_mono (Kd.R_bound HO6.out) (fun k hk => by
          have := hk.2.1
          simp only [World.size_alloc] at this
          omega)) (by simp)⟩
        clear HB6 HO6
        go_loopw [39] (fun v wr => ∃ i : Nat, i ≤ xs.length ∧ v = .int .i64 i ∧ ∃ D, Aside0 (wr.ownsMap Try.prog 3 (plainElem (H := Unit) Try.prog 3) w5.heap.size i D) ∧ Aside0 (impl_MeetAt.Seen D (xs.take i) i) ∧ Aside0 ((Kd.int .i64).R 3 wr w5.heap.size (fun k => w5.heap.size < k) (.slice A6 xs.length c6) xs) ∧ Aside0 (Below w5.heap.size w5 wr))
          (fun v _ => xs.length - (intOf v).toNat)
        case atStart => exact ⟨0, Nat.zero_le _, rfl, _, M0, ⟨impl_MeetAt.Seen.nil⟩, O6, B6⟩
        case round =>
          obtain ⟨i, hi, rfl, D, MD, SD, OD, BD⟩ := hrel
          by_cases hlt : i < xs.length
          · have c1 : decide ((i : Int) < (xs.length : Int)) = true := decide_eq_true (by omega)
            have p2 : 0 ≤ (i : Int) := by omega
            have q2 : (i : Int) < (xs.length : Int) := by omega
            obtain ⟨A', c', he, hl', hC⟩ := Kd.R_reads OD.out
            obtain ⟨ad, e1, hx⟩ := Kd.at_int hC (i : Int) p2 q2
            injection he with he1 he2 he3
            subst he1
            subst he3
            cases e1
            rw [Int.toNat_natCast] at hx
            have HI := Aside0.mk hlt
            have hreach := HLIM.out.1
            have hw8 : wrap64 ((i : Int) + 1) = (i : Int) + 1 := by unfold wrap64; omega
            have hkey := impl_MeetAt.key HLIM.out.2.2.1 hlt
            replace p2 := eq_true p2
            replace q2 := eq_true q2
            go_wp2_with (first
              | (at_lookup; refine wpList_lookup_own_int _ rfl _ _ 80 rfl 3 3 .i64 impl_MeetAt.law3 Try.underlying80 Try.underlying3 (impl_MeetAt.zero3 _) w5.heap.size i _ rfl MD.out _ _ rfl hkey ?_; intro c hat hwc)
              | (at_mapUpdate; refine wpList_mapUpdate_own _ rfl _ _ _ 80 rfl 3 3 impl_MeetAt.law3 Try.underlying80 _ w5.heap.size i _ rfl MD.out (by have := HLIM.out.1; unfold maxLen; omega) _ _ _ rfl rfl hkey _ [] (plainElem_int Try.underlying3 (wrap64_wf _)) ?_; intro w1 hown1 hgrow1))
            go_roundw
            case rel => exact ⟨i + 1, by have := HI.out; omega, by go_num, _, ⟨hown1⟩, ⟨by rw [impl_MeetAt.take xs HI.out]; exact SD.out.put (by have := HLIM.out.1; have := HI.out; omega) hat⟩, ⟨Kd.R_grown OD.out hgrow1 (fun k hk e => by cases e; omega)⟩, ⟨BD.out.grown hgrow1 BD.out.size (fun j hj => by cases hj; exact Nat.le_refl _)⟩⟩
            case measure => have := HI.out; simp [intOf]; omega
          · have c1 : decide ((i : Int) < (xs.length : Int)) = false := decide_eq_false (by omega)
            obtain rfl : i = xs.length := by omega
            clear hlt hi
            obtain ⟨hf0, hf1, hf2, hf3⟩ := CELLF.out _ (below_step HBF.out BD.out)
            go_wp2_with (first | (go_at_call 64; (with_reducible refine (impl_valuesOf.calls k a1_0 A1_1 c1_1 l1_1 a2 a4 A5 c5 l5 ys _ (Kd.C_below HR1.out (below_step HB2.out (below_step HBF.out BD.out))) HC1.out (Kd.C_below HR5.out (below_step HB2.out (below_step HBF.out BD.out))) HC5.out A5'.out).mono ?_); rintro e w7 ⟨v0, rfl, ho, hb⟩; have HO7 := Aside0.mk ho; have HB7 := Aside0.mk hb; clear ho hb; obtain ⟨A7, c7, rfl⟩ := Kd.R_slice HO7.out))
            have M7 := Aside0.mk (impl_MeetAt.mapBelow MD.out HB7.out)
            have B7 := Aside0.mk (below_step BD.out HB7.out)
            have SD7 : Aside0 (impl_MeetAt.Seen D xs xs.length) := ⟨by simpa using SD.out⟩
            have O7 : Aside0 ((Kd.int .i64).C w7 A7 ys.length ys) := ⟨by
              obtain ⟨A', c', he, hl', hC⟩ := Kd.R_reads HO7.out
              injection he with he1 he2 he3
              subst he1
              exact hC⟩
            clear HB7 HO7 SD
            go_loopw [54] (fun v wr => ∃ j : Nat, j ≤ ys.length ∧ v = .int .i64 j ∧ Aside0 ((ys.take j).any (fun y => xs.contains y) = false) ∧ Aside0 (Below w7.heap.size w7 wr))
              (fun v _ => ys.length - (intOf v).toNat)
            case atStart => exact ⟨0, Nat.zero_le _, rfl, ⟨rfl⟩, ⟨Below.refl _ _⟩⟩
            case round =>
              obtain ⟨j, hj, rfl, NJ, BJ⟩ := hrel
              have MJ := Aside0.mk (impl_MeetAt.mapBelow M7.out BJ.out)
              by_cases hlt2 : j < ys.length
              · have c2 : decide ((j : Int) < (ys.length : Int)) = true := decide_eq_true (by omega)
                have p2 : 0 ≤ (j : Int) := by omega
                have q2 : (j : Int) < (ys.length : Int) := by omega
                obtain ⟨ad2, e2, hx2⟩ := Kd.at_int (Kd.C_below O7.out BJ.out) (j : Int) p2 q2
                cases e2
                rw [Int.toNat_natCast] at hx2
                have HI2 := Aside0.mk hlt2
                have hreach := HLIM.out.2.1
                have hw9 : wrap64 ((j : Int) + 1) = (j : Int) + 1 := by unfold wrap64; omega
                have hkey2 := impl_MeetAt.key HLIM.out.2.2.2.1 hlt2
                have htk := impl_MeetAt.take ys hlt2
                obtain ⟨cc, hc1, hc2, hc3, hc4⟩ := SD7.out.at_ (rd ys (j : Int))
                have HC1' := Aside0.mk hc1
                replace p2 := eq_true p2
                replace q2 := eq_true q2
                clear hc1 hc3
                by_cases hmem : rd ys (j : Int) ∈ xs
                · have hpos : decide (0 < cc) = true := decide_eq_true (hc4.2 hmem)
                  have hr : true = r := by
                    rw [← HLIM.out.2.2.2.2, eq_comm, List.any_eq_true]
                    refine ⟨rd ys (j : Int), ?_, by simpa using hmem⟩
                    have : rd ys (j : Int) ∈ ys.take (j + 1) := by rw [htk]; simp
                    exact List.mem_of_mem_take this
                  subst hr
                  clear hc4 hmem htk hc2
                  go_wp2_with (first
                    | (at_lookup; refine wpList_lookup_own_int _ rfl _ _ 80 rfl 3 3 .i64 impl_MeetAt.law3 Try.underlying80 Try.underlying3 (impl_MeetAt.zero3 _) w5.heap.size _ _ rfl MJ.out _ _ rfl hkey2 ?_; intro c hat hwc; have ecc : c = cc := (by rw [HC1'.out] at hat; injection hat with hat; injection hat with _ hat; exact hat.symm); subst ecc; clear hat hwc))
                  go_ret
                  exact ⟨rfl, below_step HB2.out (below_step HBF.out (below_step B7.out BJ.out))⟩
                · have hpos : decide (0 < cc) = false := decide_eq_false (fun h => hmem (hc4.1 h))
                  have NJ2 : Aside0 ((ys.take (j + 1)).any (fun y => xs.contains y) = false) := ⟨by
                    rw [htk, List.any_append, NJ.out]
                    simpa using hmem⟩
                  clear hc4 hmem htk hc2
                  go_wp2_with (first
                    | (at_lookup; refine wpList_lookup_own_int _ rfl _ _ 80 rfl 3 3 .i64 impl_MeetAt.law3 Try.underlying80 Try.underlying3 (impl_MeetAt.zero3 _) w5.heap.size _ _ rfl MJ.out _ _ rfl hkey2 ?_; intro c hat hwc; have ecc : c = cc := (by rw [HC1'.out] at hat; injection hat with hat; injection hat with _ hat; exact hat.symm); subst ecc; clear hat hwc))
                  go_roundw
                  case rel => exact ⟨j + 1, by have := HI2.out; omega, by go_num, NJ2, BJ⟩
                  case measure => have := HI2.out; simp [intOf]; omega
              · have c2 : decide ((j : Int) < (ys.length : Int)) = false := decide_eq_false (by omega)
                obtain rfl : j = ys.length := by omega
                have hr : false = r := by
                  rw [← HLIM.out.2.2.2.2]
                  have := NJ.out
                  rw [List.take_length] at this
                  exact this.symm
                subst hr
                clear hlt2 hj
                go_wp2
                go_ret
                exact ⟨rfl, below_step HB2.out (below_step HBF.out (below_step B7.out BJ.out))⟩

end Go.Proofs.Ytelklalagebdgaa.PFnDists
