-- The functions of a law as plain Lean functions, each with its contract: written by a program of this session.
import Derived.Test.YtelklalagebdgaaPFnDistsx0
import Derived.Test.YtelklalagebdgaaPFnDistsx7
namespace Go.Proofs.Ytelklalagebdgaa.PFnDists
open Go.RowKit Go.Proofs.YtelklalagebdgaaW.PrintWords Go.Proofs.YtelklalagebdgaaW.PrintLast Go.Proofs.YtelklalagebdgaaW.PrintMore
attribute [local go_sem] max2_int min2_int max_two min_two max_three min_three max_four min_four   -- for this text's walks alone
set_option linter.unusedVariables false
set_option linter.unusedSimpArgs false

def impl_AffOk.l0 : Nat → List (S73) → Int → Int → Int → List (S73) → Option (Bool)
  | 0, _, _, _, _, _ => none
  | k + 1, x6, x7, x8, x154000, x154001 => if x8 < x7 then (if 0 ≤ x8 then (if x8 < (x6.length : Int) then ((impl_NameOk.f k ((rd_T73 x6 x8).f0)).bind fun t157 => (if t157 = true then (if ((rd_T73 x6 x8).f1) = 0 then (some false) else ((impl_isCoef.f ((rd_T73 x6 x8).f1)).bind fun t158 => (if t158 = true then (if x8 > 0 then (if 0 ≤ (wrap64 (x8 - 1)) then (if (wrap64 (x8 - 1)) < (x154001.length : Int) then (if ((Op.bytesLess (((rd_T73 x154001 (wrap64 (x8 - 1))).f0).toList) (((rd_T73 x6 x8).f0).toList)) = true) then (impl_AffOk.l0 k x6 x7 (wrap64 (x8 + 1)) x154000 x154001) else (some false)) else (none)) else (none)) else (impl_AffOk.l0 k x6 x7 (wrap64 (x8 + 1)) x154000 x154001)) else (some false)))) else (some false))) else (none)) else (none)) else ((impl_isCoef.f x154000).bind fun t154 => (some t154))
def impl_AffOk.f (k : Nat) (a0_0 : Int) (l0_1 : List (S73)) : Option (Bool) := impl_AffOk.l0 k l0_1 (l0_1.length : Int) 0 a0_0 l0_1
theorem impl_AffOk.mono_l : ∀ k, (∀ y0 y1 y2 y3 y4, LeO (impl_AffOk.l0 k y0 y1 y2 y3 y4) (impl_AffOk.l0 (k + 1) y0 y1 y2 y3 y4))
  | 0 => fun _ _ _ _ _ r h => by simp [impl_AffOk.l0] at h
  | k + 1 => by
    have ih0 := impl_AffOk.mono_l k
    · intro y0 y1 y2 y3 y4
      unfold impl_AffOk.l0
      repeat' first
      | (with_reducible exact ih0 _ _ _ _ _)
      | (with_reducible exact impl_NameOk.mono _ _)
      | (with_reducible exact LeO.refl _)
      | (with_reducible exact LeO.none _)
      | (with_reducible refine LeO.ite ?_ ?_)
      | (with_reducible refine LeO.bind ?_ (fun _ => ?_))
      | exact ih0 _ _ _ _ _
      | exact impl_NameOk.mono _ _
      | exact LeO.none _
      | refine LeO.ite ?_ ?_
      | refine LeO.bind ?_ (fun _ => ?_)
theorem impl_AffOk.mono : ∀ a0 a1 k, LeO (impl_AffOk.f k a0 a1) (impl_AffOk.f (k + 1) a0 a1) := by
  intro a0 a1 k
  have ih0 := impl_AffOk.mono_l k
  unfold impl_AffOk.f
  repeat' first
      | (with_reducible exact ih0 _ _ _ _ _)
      | (with_reducible exact impl_NameOk.mono _ _)
      | (with_reducible exact LeO.refl _)
      | (with_reducible exact LeO.none _)
      | (with_reducible refine LeO.ite ?_ ?_)
      | (with_reducible refine LeO.bind ?_ (fun _ => ?_))
      | exact ih0 _ _ _ _ _
      | exact impl_NameOk.mono _ _
      | exact LeO.none _
      | refine LeO.ite ?_ ?_
      | refine LeO.bind ?_ (fun _ => ?_)
theorem impl_AffOk.leq_not : ∀ a b : List UInt8, (Op.bytesLess a b || a == b) = !Op.bytesLess b a
  | [], [] => by simp [Op.bytesLess]
  | [], b :: ys => by simp [Op.bytesLess]
  | a :: xs, [] => by simp [Op.bytesLess]
  | a :: xs, b :: ys => by
    have ih := impl_AffOk.leq_not xs ys
    simp only [Op.bytesLess]
    rcases Nat.lt_trichotomy a.toNat b.toNat with h | h | h
    · have h1 : a < b := h
      have h2 : ¬ b < a := fun k => by have : b.toNat < a.toNat := k; omega
      have h3 : ¬ b = a := fun e => by subst e; omega
      have h4 : ¬ a = b := fun e => h3 e.symm
      simp [h1, h2, h3, h4]
    · have h3 : a = b := UInt8.toNat_inj.1 h
      subst h3
      have h2 : ¬ a < a := fun k => by have : a.toNat < a.toNat := k; omega
      simp [h2]
      simpa using ih
    · have h1 : b < a := h
      have h2 : ¬ a < b := fun k => by have : a.toNat < b.toNat := k; omega
      have h3 : ¬ b = a := fun e => by subst e; omega
      have h4 : ¬ a = b := fun e => h3 e.symm
      simp [h1, h2, h3, h4]
theorem impl_AffOk.binOp_leq (t : TypeId) (a b : ByteArray) : binOp .leq t (.string a) (.string b) = pure (.bool (!Op.bytesLess b.toList a.toList)) := by
  rw [← impl_AffOk.leq_not]
  simp [binOp, Op.stringOp]
set_option maxHeartbeats 8000000 in
set_option maxRecDepth 100000 in
theorem impl_AffOk.calls (k : Nat) (a0_0 : Int) (A0_1 : Option Addr) (c0_1 : Nat) (l0_1 : List (S73)) (r : Bool) (w : World) (hr0_1 : Kd.C k73 w A0_1 l0_1.length l0_1) (hc0_1 : l0_1.length ≤ c0_1) (h : impl_AffOk.f k a0_0 l0_1 = some r) :
    Calls Try.prog 40 #[.agg #[.int .i64 a0_0, .slice A0_1 l0_1.length c0_1]] w fun e w' => e = .returned (.bool r) ∧ Below w.heap.size w w' := by
  have hu26 := Try.underlying26
  have hu73 := Try.underlying73
  have HR0_1 := Aside0.mk hr0_1
  have HC0_1 := Aside0.mk hc0_1
  clear hr0_1 hc0_1
  have HB := Aside0.mk (Below.refl w.heap.size w)
  have H : (impl_AffOk.l0 k l0_1 (l0_1.length : Int) 0 a0_0 l0_1) = some r := h
  clear h
  have H' := Aside0.mk H
  clear H
  go_enter Try.func40, Try.ntmps40
  go_wp2_with (first | ((with_reducible refine gate_dst (N := 1) rfl ?_); refine box_event ?hg (N := 1) ?hd (cs := #[.int .i64 a0_0, .slice A0_1 l0_1.length c0_1]) (t := 26) ?hr ?_; (case hd => rfl); (case hg => rfl); (case hr => first | (go_simp; done) | (go_simp; rfl)); intro gb153 hg w2 hbox hb; have n0_ := Aside0.mk (below_step (by repeat (first | (with_reducible first | exact HB.out | apply below_alloc | apply pw_below_drewN | apply below_drew1) | exact HB.out)) hb); have n1_ := Aside0.mk (hbox); have n2_ := Aside0.mk ((by rw [hg]; exact (below_size (by repeat (first | (with_reducible first | exact HB.out | apply below_alloc | apply pw_below_drewN | apply below_drew1) | exact HB.out))) : w.heap.size ≤ gb153)); have n3_ := Aside0.mk ((by rw [hg]; exact (below_size (by repeat (first | (with_reducible first | exact HB.out | apply below_alloc | apply pw_below_drewN | apply below_drew1) | exact HB.out))) : w.heap.size ≤ gb153)); clear HB; have HB := n0_; have BK153 := n1_; have GW153 := n2_; have GE153 := n3_; clear n0_ n1_ n2_ n3_; clear hb hbox hg; have hcz3_0 : w2.cell? ⟨gb153, 0, none⟩ = some (.int .i64 a0_0) := (blk_cell BK153.out 0).trans rfl; have hcz3_1 : w2.cell? ⟨gb153, 1, none⟩ = some (.slice A0_1 l0_1.length c0_1) := (blk_cell BK153.out 1).trans rfl; have hfz3_0 := blk_frozen BK153.out 0; have hfz3_1 := blk_frozen BK153.out 1))
  go_loopg [8] k (fun kq v8 w' => ∃ (x8_1 : Int), v8 = .int .i64 x8_1 ∧ Aside0 (impl_AffOk.l0 kq l0_1 (l0_1.length : Int) x8_1 a0_0 l0_1 = some r) ∧ Aside0 (kq ≤ k) ∧ Aside0 (w'.heap[gb153]? = some (.cells #[.int .i64 a0_0, (.slice A0_1 l0_1.length c0_1)] 26 (0, 0))) ∧ Aside0 (Below w.heap.size w w'))
  case atStart => exact ⟨(0), (by first | rfl | (simp; done) | (simp [*]; done)), H', ⟨Nat.le_refl _⟩, ⟨by (with_reducible repeat (first | refine blk_drewN ?_ _ | refine blk_drew ?_ | refine blk_alloc ?_ _)); exact BK153.out⟩, ⟨by repeat (first | (with_reducible first | exact HB.out | apply below_alloc | apply pw_below_drewN | apply below_drew1 | refine below_set ?_ GE153.out) | exact HB.out)⟩⟩
  case round =>
    clear H'
    try clear p2
    try clear c3
    try clear hcz3_0
    try clear hcz3_1
    try clear hfz3_0
    try clear hfz3_1
    obtain ⟨x8_1, rfl, HA, HK1, BK153, HB⟩ := hrel
    cases gk with
    | zero => exact absurd HA.out (by simp [impl_AffOk.l0])
    | succ k1 =>
      have H := HA.out
      clear HA
      simp only [impl_AffOk.l0] at H
      by_cases c4 : x8_1 < (l0_1.length : Int)
      · rw [if_pos c4] at H
        have c4b0 : decide (x8_1 < (l0_1.length : Int)) = true := decide_eq_true c4
        clear c4
        by_cases c5 : 0 ≤ x8_1
        · rw [if_pos c5] at H
          have c5b0 : decide (0 ≤ x8_1) = true := decide_eq_true c5
          clear c5
          rw [if_pos (of_decide_eq_true c4b0)] at H
          have p155 : 0 ≤ (x8_1 : Int) := of_decide_eq_true c5b0
          have q155 : x8_1 < (l0_1.length : Int) := of_decide_eq_true c4b0
          obtain ⟨ad155, e155, hx155_0, hx155_1⟩ := at_T73 HR0_1.out x8_1 p155 q155
          cases e155
          replace hx155_0 := (HB.out.cell (World.block_lt_of_cell? w _ hx155_0)).trans hx155_0
          replace hx155_1 := (HB.out.cell (World.block_lt_of_cell? w _ hx155_1)).trans hx155_1
          replace p155 := eq_true p155
          replace q155 := eq_true q155
          try go_wp2_with (first | ((with_reducible refine gate_dst (N := 4) rfl ?_); refine box_event ?hg (N := 4) ?hd (cs := #[.string (⟨#[]⟩ : ByteArray), .int .i64 0]) (t := 73) ?hr ?_; (case hd => rfl); (case hg => rfl); (case hr => first | (go_simp; done) | (go_simp; rfl)); intro gb156 hg w10 hbox hb; have n0_ := Aside0.mk (blk_below (g := gb153) (o := .cells #[.int .i64 a0_0, .slice (some ad155) l0_1.length c0_1] 26 (0, 0)) (by (with_reducible repeat (first | refine blk_drewN ?_ _ | refine blk_drew ?_ | refine blk_alloc ?_ _)); exact BK153.out) hb); have n1_ := Aside0.mk (below_step (by repeat (first | (with_reducible first | exact HB.out | apply below_alloc | apply pw_below_drewN | apply below_drew1 | refine below_set ?_ GE153.out) | exact HB.out)) hb); have n2_ := Aside0.mk (hbox); have n3_ := Aside0.mk ((by rw [hg]; exact (below_size (by repeat (first | (with_reducible first | exact HB.out | apply below_alloc | apply pw_below_drewN | apply below_drew1 | refine below_set ?_ GE153.out) | exact HB.out))) : w.heap.size ≤ gb156)); have n4_ := Aside0.mk ((by rw [hg]; exact (below_size (by repeat (first | (with_reducible first | exact HB.out | apply below_alloc | apply pw_below_drewN | apply below_drew1 | refine below_set ?_ GE153.out) | exact HB.out))) : w.heap.size ≤ gb156)); have n5_ := Aside0.mk ((by rw [hg]; exact Nat.ne_of_lt (blk_lt (g := gb153) (o := .cells #[.int .i64 a0_0, .slice (some ad155) l0_1.length c0_1] 26 (0, 0)) (by (with_reducible repeat (first | refine blk_drewN ?_ _ | refine blk_drew ?_ | refine blk_alloc ?_ _)); exact BK153.out)) : gb153 ≠ gb156)); have n6_ := Aside0.mk ((by rw [hg]; exact Nat.ne_of_gt (blk_lt (g := gb153) (o := .cells #[.int .i64 a0_0, .slice (some ad155) l0_1.length c0_1] 26 (0, 0)) (by (with_reducible repeat (first | refine blk_drewN ?_ _ | refine blk_drew ?_ | refine blk_alloc ?_ _)); exact BK153.out)) : gb156 ≠ gb153)); clear BK153; clear HB; have BK153 := n0_; have HB := n1_; have BK156 := n2_; have GW156 := n3_; have GE156 := n4_; have NB153_156 := n5_; have NB156_153 := n6_; clear n0_ n1_ n2_ n3_ n4_ n5_ n6_; clear hb hbox hg; have hnb11 := NB156_153.out; have hnc11 := NB153_156.out; have hcz12_0 : w10.cell? ⟨gb156, 0, none⟩ = some (.string (⟨#[]⟩ : ByteArray)) := (blk_cell BK156.out 0).trans rfl; have hcz12_1 : w10.cell? ⟨gb156, 1, none⟩ = some (.int .i64 0) := (blk_cell BK156.out 1).trans rfl; have hfz12_0 := blk_frozen BK156.out 0; have hfz12_1 := blk_frozen BK156.out 1))
          have n0_ : Aside0 (((w10.setCell ⟨gb156, 0, none⟩ (.string ((rd_T73 l0_1 x8_1).f0))).setCell ⟨gb156, 1, none⟩ (.int .i64 ((rd_T73 l0_1 x8_1).f1))).heap[gb153]? = some (.cells #[.int .i64 a0_0, .slice (some ad155) l0_1.length c0_1] 26 (0, 0))) := ⟨by (with_reducible repeat (first | refine blk_drewN ?_ _ | refine blk_drew ?_ | refine blk_alloc ?_ _)); refine blk_far ?_ NB153_156.out _; (with_reducible repeat (first | refine blk_drewN ?_ _ | refine blk_drew ?_ | refine blk_alloc ?_ _)); refine blk_far ?_ NB153_156.out _; (with_reducible repeat (first | refine blk_drewN ?_ _ | refine blk_drew ?_ | refine blk_alloc ?_ _)); exact BK153.out⟩
          have n1_ : Aside0 (((w10.setCell ⟨gb156, 0, none⟩ (.string ((rd_T73 l0_1 x8_1).f0))).setCell ⟨gb156, 1, none⟩ (.int .i64 ((rd_T73 l0_1 x8_1).f1))).heap[gb156]? = some (.cells #[.string ((rd_T73 l0_1 x8_1).f0), .int .i64 ((rd_T73 l0_1 x8_1).f1)] 73 (0, 0))) := ⟨by (with_reducible repeat (first | refine blk_drewN ?_ _ | refine blk_drew ?_ | refine blk_alloc ?_ _)); refine blk_put (cs := #[.string ((rd_T73 l0_1 x8_1).f0), .int .i64 0]) ?_ 1 _ rfl; (with_reducible repeat (first | refine blk_drewN ?_ _ | refine blk_drew ?_ | refine blk_alloc ?_ _)); refine blk_put (cs := #[.string (⟨#[]⟩ : ByteArray), .int .i64 0]) ?_ 0 _ rfl; (with_reducible repeat (first | refine blk_drewN ?_ _ | refine blk_drew ?_ | refine blk_alloc ?_ _)); exact BK156.out⟩
          have n2_ : Aside0 (Below w.heap.size w ((w10.setCell ⟨gb156, 0, none⟩ (.string ((rd_T73 l0_1 x8_1).f0))).setCell ⟨gb156, 1, none⟩ (.int .i64 ((rd_T73 l0_1 x8_1).f1)))) := ⟨by repeat (first | (with_reducible first | exact HB.out | apply below_alloc | apply pw_below_drewN | apply below_drew1 | refine below_set ?_ GE153.out | refine below_set ?_ GE156.out) | exact HB.out)⟩
          (try clear BK153)
          (try clear BK156)
          (try clear HB)
          generalize ((w10.setCell ⟨gb156, 0, none⟩ (.string ((rd_T73 l0_1 x8_1).f0))).setCell ⟨gb156, 1, none⟩ (.int .i64 ((rd_T73 l0_1 x8_1).f1))) = w13 at n0_ n1_ n2_ ⊢
          have BK153 := n0_
          have BK156 := n1_
          have HB := n2_
          clear n0_ n1_ n2_
          have hz0 : w13.cell? ⟨gb156, 0, none⟩ = some (.string (rd_T73 l0_1 x8_1).f0) := (blk_cell BK156.out 0).trans rfl
          have hz1 : w13.cell? ⟨gb156, 1, none⟩ = some (.int .i64 (rd_T73 l0_1 x8_1).f1) := (blk_cell BK156.out 1).trans rfl
          have hy1 : w13.cell? ⟨gb153, 1, none⟩ = some (.slice (some ad155) l0_1.length c0_1) := (blk_cell BK153.out 1).trans rfl
          clear hx155_0 hx155_1 hcz12_0 hcz12_1 hfz12_0 hfz12_1 hnb11 hnc11
          replace H := Option.bind_eq_some_iff.mp H
          obtain ⟨t157, A7, H⟩ := H
          have A7 := Aside0.mk A7
          have hbq : ∀ n, Below w.heap.size w (w13.drewN n) := fun n => pw_below_drewN HB.out n
          have HBQ := Aside0.mk hbq
          clear hbq
          have C7 := fun W => (impl_NameOk.calls k1 _ t157 W A7.out).mono (fun e w_ h_ => (⟨h_.1, h_.2.out⟩ : e = Ending.returned (Value.bool t157) ∧ ∃ m, w_ = W.drewN m))
          have CC7 := Aside0.mk C7
          clear C7
          cases t157 with
          | false =>
            rw [if_neg (show ¬ (false = true) by decide)] at H
            obtain rfl := Option.some.inj H
            clear H
            go_quiet (first | (go_at_call 57; refine Calls.quiet_of (CC7.out _)))
            go_wp2
            go_ret
            exact ⟨rfl, HBQ.out _⟩
          | true =>
            rw [if_pos rfl] at H
            by_cases c9 : (rd_T73 l0_1 x8_1).f1 = 0
            · rw [if_pos c9] at H
              have c9b0 : ((rd_T73 l0_1 x8_1).f1 == 0) = true := beq_iff_eq.mpr c9
              clear c9
              obtain rfl := Option.some.inj H
              clear H
              go_quiet (first | (go_at_call 57; refine Calls.quiet_of (CC7.out _)))
              go_wp2
              go_ret
              exact ⟨rfl, HBQ.out _⟩
            · rw [if_neg c9] at H
              have c9b0 : ((rd_T73 l0_1 x8_1).f1 == 0) = false := beq_eq_false_iff_ne.mpr c9
              clear c9
              replace H := Option.bind_eq_some_iff.mp H
              obtain ⟨t158, A8, H⟩ := H
              have A8 := Aside0.mk A8
              have CC8 := Aside0.mk (fun W => (impl_isCoef.calls _ t158 W A8.out).mono (fun e w_ h_ => (⟨h_.1, h_.2.out⟩ : e = Ending.returned (Value.bool t158) ∧ ∃ m, w_ = W.drewN m)))
              cases t158 with
              | false =>
                rw [if_neg (show ¬ (false = true) by decide)] at H
                obtain rfl := Option.some.inj H
                clear H
                go_quiet (first | (go_at_call 57; refine Calls.quiet_of (CC7.out _)) | (go_at_call 80; refine Calls.quiet_of (CC8.out _)))
                go_wp2
                go_ret
                exact ⟨rfl, HBQ.out _⟩
              | true =>
                rw [if_pos rfl] at H
                by_cases c10 : x8_1 > 0
                · rw [if_pos c10] at H
                  have c10b0 : decide (0 < x8_1) = true := decide_eq_true c10
                  have hlm : l0_1.length ≤ 9223372036854775807 := HR0_1.out.2.1
                  have hlt : x8_1 < (l0_1.length : Int) := of_decide_eq_true c4b0
                  have ew : wrap64 (x8_1 - 1) = x8_1 - 1 := by unfold wrap64; omega
                  rw [ew, if_pos (by omega), if_pos (by omega)] at H
                  obtain ⟨ji, hji⟩ : ∃ ji : Int, x8_1 - 1 = ji := ⟨_, rfl⟩
                  have hw2 : IntKind.i64.wrap (x8_1 - 1) = ji := by rw [IntKind.wrap_i64]; omega
                  rw [hji] at H
                  have p2 : 0 ≤ ji := by omega
                  have q2 : ji < (l0_1.length : Int) := by omega
                  obtain ⟨ad2, e2, hv0, _⟩ := at_T73 HR0_1.out ji p2 q2
                  cases e2
                  replace hv0 := (HB.out.cell (World.block_lt_of_cell? w _ hv0)).trans hv0
                  clear hlm hlt c10 ew hji
                  replace p2 := eq_true p2
                  replace q2 := eq_true q2
                  have hle := fun t => impl_AffOk.binOp_leq t (rd_T73 l0_1 x8_1).f0 (rd_T73 l0_1 ji).f0
                  cases c11 : Op.bytesLess (rd_T73 l0_1 ji).f0.toList (rd_T73 l0_1 x8_1).f0.toList with
                  | false =>
                    rw [c11] at hle
                    simp only [Bool.not_false] at hle
                    rw [c11, if_neg (show ¬ (false = true) by decide)] at H
                    obtain rfl := Option.some.inj H
                    clear H
                    go_quiet (first | (go_at_call 57; refine Calls.quiet_of (CC7.out _)) | (go_at_call 80; refine Calls.quiet_of (CC8.out _)))
                    go_wp2
                    go_ret
                    exact ⟨rfl, HBQ.out _⟩
                  | true =>
                    rw [c11] at hle
                    simp only [Bool.not_true] at hle
                    rw [c11, if_pos rfl] at H
                    have H' := Aside0.mk H
                    clear H
                    go_quiet (first | (go_at_call 57; refine Calls.quiet_of (CC7.out _)) | (go_at_call 80; refine Calls.quiet_of (CC8.out _)))
                    go_wp2
                    go_roundg k1
                    case measure => have := HK1.out; omega
                    case rel => exact ⟨(wrap64 (x8_1 + 1)), rfl, H', ⟨by have := HK1.out; omega⟩, ⟨by (with_reducible repeat (first | refine blk_drewN ?_ _ | refine blk_drew ?_ | refine blk_alloc ?_ _)); exact BK153.out⟩, ⟨HBQ.out _⟩⟩
                · rw [if_neg c10] at H
                  have c10b0 : decide (0 < x8_1) = false := decide_eq_false c10
                  clear c10
                  have H' := Aside0.mk H
                  clear H
                  go_quiet (first | (go_at_call 57; refine Calls.quiet_of (CC7.out _)) | (go_at_call 80; refine Calls.quiet_of (CC8.out _)))
                  go_wp2
                  go_roundg k1
                  case measure => have := HK1.out; omega
                  case rel => exact ⟨(wrap64 (x8_1 + 1)), rfl, H', ⟨by have := HK1.out; omega⟩, ⟨by (with_reducible repeat (first | refine blk_drewN ?_ _ | refine blk_drew ?_ | refine blk_alloc ?_ _)); exact BK153.out⟩, ⟨HBQ.out _⟩⟩

        · rw [if_neg c5] at H
          exact absurd H (by simp)
      · rw [if_neg c4] at H
        have c4b0 : decide (x8_1 < (l0_1.length : Int)) = false := decide_eq_false c4
        clear c4
        replace H := Option.bind_eq_some_iff.mp H
        obtain ⟨t154, A8, H⟩ := H
        obtain rfl := Option.some.inj H
        clear H
        have hy0 : wr.cell? ⟨gb153, 0, none⟩ = some (.int .i64 a0_0) := (blk_cell BK153.out 0).trans rfl
        have A8 := Aside0.mk A8
        have CC8 := Aside0.mk (fun W => (impl_isCoef.calls _ t154 W A8.out))
        go_wp2_with (go_at_call 80; refine (CC8.out _).mono ?_; rintro e w' ⟨rfl, ⟨nd, rfl⟩⟩)
        go_ret
        exact ⟨rfl, by repeat (first | exact HB.out | apply pw_below_drewN | apply below_drew1)⟩

/-! ### impl_boundTo: function 55 -/
def impl_boundTo.l0 : Nat → List (S36) → ByteArray → Int → Option (Int × Bool)
  | 0, _, _, _ => none
  | k + 1, x0, x1, x6 => if x6 ≥ 0 then (if 0 ≤ x6 then (if x6 < (x0.length : Int) then (if ((rd_T36 x0 x6).f0).toList = x1.toList then (some ((rd_T36 x0 x6).f1, true)) else (impl_boundTo.l0 k x0 x1 (wrap64 (x6 - 1)))) else (none)) else (none)) else (some (0, false))
def impl_boundTo.f (k : Nat) (l0 : List (S36)) (a1 : ByteArray) : Option (Int × Bool) := impl_boundTo.l0 k l0 a1 (wrap64 ((l0.length : Int) - 1))
theorem impl_boundTo.mono_l : ∀ k, (∀ y0 y1 y2, LeO (impl_boundTo.l0 k y0 y1 y2) (impl_boundTo.l0 (k + 1) y0 y1 y2))
  | 0 => fun _ _ _ r h => by simp [impl_boundTo.l0] at h
  | k + 1 => by
    have ih0 := impl_boundTo.mono_l k
    · intro y0 y1 y2
      unfold impl_boundTo.l0
      repeat' first
      | (with_reducible exact ih0 _ _ _)
      | (with_reducible exact LeO.refl _)
      | (with_reducible exact LeO.none _)
      | (with_reducible refine LeO.ite ?_ ?_)
      | (with_reducible refine LeO.bind ?_ (fun _ => ?_))
      | exact ih0 _ _ _
      | exact LeO.none _
      | refine LeO.ite ?_ ?_
      | refine LeO.bind ?_ (fun _ => ?_)
theorem impl_boundTo.mono : ∀ a0 a1 k, LeO (impl_boundTo.f k a0 a1) (impl_boundTo.f (k + 1) a0 a1) := by
  intro a0 a1 k
  have ih0 := impl_boundTo.mono_l k
  unfold impl_boundTo.f
  repeat' first
      | (with_reducible exact ih0 _ _ _)
      | (with_reducible exact LeO.refl _)
      | (with_reducible exact LeO.none _)
      | (with_reducible refine LeO.ite ?_ ?_)
      | (with_reducible refine LeO.bind ?_ (fun _ => ?_))
      | exact ih0 _ _ _
      | exact LeO.none _
      | refine LeO.ite ?_ ?_
      | refine LeO.bind ?_ (fun _ => ?_)
set_option maxHeartbeats 8000000 in
set_option maxRecDepth 100000 in
theorem impl_boundTo.calls (k : Nat) (A0 : Option Addr) (c0 : Nat) (l0 : List (S36)) (a1 : ByteArray) (r1 : Int) (r2 : Bool) (w : World) (hr0 : Kd.C k36 w A0 l0.length l0) (hc0 : l0.length ≤ c0) (h : impl_boundTo.f k l0 a1 = some (r1, r2)) :
    Calls Try.prog 55 #[.slice A0 l0.length c0, .string a1] w fun e w' => e = .returned (.tuple #[.int .i64 r1, .bool r2]) ∧ Drawn0 w w' := by
  have HR0 := Aside0.mk hr0
  have HC0 := Aside0.mk hc0
  clear hr0 hc0
  have H : (impl_boundTo.l0 k l0 a1 (wrap64 ((l0.length : Int) - 1))) = some (r1, r2) := h
  clear h
  have H' := Aside0.mk H
  clear H
  go_enter Try.func55, Try.ntmps55
  go_wp2
  go_loopg [6] k (fun kq v6 w' => ∃ (x6_1 : Int), v6 = .int .i64 x6_1 ∧ Aside0 (impl_boundTo.l0 kq l0 a1 x6_1 = some (r1, r2)) ∧ Aside0 (kq ≤ k) ∧ Drawn0 w w')
  case atStart => exact ⟨(wrap64 ((l0.length : Int) - 1)), (by first | rfl | (simp; done) | (simp [*]; done)), H', ⟨Nat.le_refl _⟩, by repeat (first | exact Drawn0.refl _ | apply Drawn0.step)⟩
  case round =>
    clear H'
    try clear p2
    obtain ⟨x6_1, rfl, HA, HK1, ⟨m1, rfl⟩⟩ := hrel
    cases gk with
    | zero => exact absurd HA.out (by simp [impl_boundTo.l0])
    | succ k1 =>
      have H := HA.out
      clear HA
      simp only [impl_boundTo.l0] at H
      by_cases c3 : x6_1 ≥ 0
      · rw [if_pos c3] at H
        have c3b0 : decide (0 ≤ x6_1) = true := decide_eq_true c3
        clear c3
        by_cases c4 : 0 ≤ x6_1
        · rw [if_pos c4] at H
          have c4b0 : decide (0 ≤ x6_1) = true := decide_eq_true c4
          clear c4
          by_cases c5 : x6_1 < (l0.length : Int)
          · rw [if_pos c5] at H
            have c5b0 : decide (x6_1 < (l0.length : Int)) = true := decide_eq_true c5
            clear c5
            by_cases c6 : ((rd_T36 l0 x6_1).f0).toList = a1.toList
            · rw [if_pos c6] at H
              have c6b0 : (((rd_T36 l0 x6_1).f0).toList == a1.toList) = true := beq_iff_eq.mpr c6
              have c6b1 : (((rd_T36 l0 x6_1).f0).toList != a1.toList) = false := bne_eq_false_iff_eq.mpr c6
              clear c6
              simp only [Option.some.injEq, Prod.mk.injEq] at H
              obtain ⟨rfl, rfl⟩ := H
              have p298 : 0 ≤ (x6_1 : Int) := of_decide_eq_true (by first | (with_reducible assumption) | assumption)
              have q298 : x6_1 < (l0.length : Int) := of_decide_eq_true (by first | (with_reducible assumption) | assumption)
              obtain ⟨ad298, e298, hx298_0, hx298_1⟩ := at_T36 HR0.out x6_1 p298 q298
              cases e298
              replace p298 := eq_true p298
              replace q298 := eq_true q298
              have p299 : 0 ≤ (x6_1 : Int) := of_decide_eq_true (by first | (with_reducible assumption) | assumption)
              have q299 : x6_1 < (l0.length : Int) := of_decide_eq_true (by first | (with_reducible assumption) | assumption)
              obtain ⟨ad299, e299, hx299_0, hx299_1⟩ := at_T36 HR0.out x6_1 p299 q299
              obtain rfl : ad298 = ad299 := (by injection e299)
              replace p299 := eq_true p299
              replace q299 := eq_true q299
              go_wp2
              go_ret2
              exact ⟨by first | rfl | (simp; done) | (simp [*]; done), by repeat (first | exact Drawn0.refl _ | apply Drawn0.step)⟩
            · rw [if_neg c6] at H
              have c6b0 : (((rd_T36 l0 x6_1).f0).toList == a1.toList) = false := beq_eq_false_iff_ne.mpr c6
              have c6b1 : (((rd_T36 l0 x6_1).f0).toList != a1.toList) = true := bne_iff_ne.mpr c6
              have H' := Aside0.mk H
              clear H
              have p298 : 0 ≤ (x6_1 : Int) := of_decide_eq_true (by first | (with_reducible assumption) | assumption)
              have q298 : x6_1 < (l0.length : Int) := of_decide_eq_true (by first | (with_reducible assumption) | assumption)
              obtain ⟨ad298, e298, hx298_0, hx298_1⟩ := at_T36 HR0.out x6_1 p298 q298
              cases e298
              replace p298 := eq_true p298
              replace q298 := eq_true q298
              go_wp2
              go_roundg k1
              case measure => have := HK1.out; omega
              case rel => exact ⟨(wrap64 (x6_1 - 1)), (by first | rfl | (simp; done) | (simp [*]; done)), H', ⟨by have := HK1.out; omega⟩, by repeat (first | exact Drawn0.refl _ | apply Drawn0.step)⟩
          · rw [if_neg c5] at H
            exact absurd H (by simp)
        · rw [if_neg c4] at H
          exact absurd H (by simp)
      · rw [if_neg c3] at H
        have c3b0 : decide (0 ≤ x6_1) = false := decide_eq_false c3
        clear c3
        simp only [Option.some.injEq, Prod.mk.injEq] at H
        obtain ⟨rfl, rfl⟩ := H
        go_wp2
        go_ret2
        exact ⟨by first | rfl | (simp; done) | (simp [*]; done), by repeat (first | exact Drawn0.refl _ | apply Drawn0.step)⟩

/-! ### impl_AffAt: function 13 -/
def impl_AffAt.l0 : Nat → List (S36) → Int → List (S73) → Int → Int → Option (Int)
  | 0, _, _, _, _, _ => none
  | k + 1, x1, x5, x13, x14, x15 => if x15 < x14 then (if 0 ≤ x15 then (if x15 < (x13.length : Int) then ((impl_boundTo.f k x1 ((rd_T73 x13 x15).f0)).bind fun bt303 => (impl_AffAt.l0 k x1 (wrap64 (x5 + (wrap64 (((rd_T73 x13 x15).f1) * bt303.1)))) x13 x14 (wrap64 (x15 + 1)))) else (none)) else (none)) else (some x5)
def impl_AffAt.f (k : Nat) (a0_0 : Int) (l0_1 : List (S73)) (l1 : List (S36)) : Option (Int) := impl_AffAt.l0 k l1 a0_0 l0_1 (l0_1.length : Int) 0
theorem impl_AffAt.mono_l : ∀ k, (∀ y0 y1 y2 y3 y4, LeO (impl_AffAt.l0 k y0 y1 y2 y3 y4) (impl_AffAt.l0 (k + 1) y0 y1 y2 y3 y4))
  | 0 => fun _ _ _ _ _ r h => by simp [impl_AffAt.l0] at h
  | k + 1 => by
    have ih0 := impl_AffAt.mono_l k
    · intro y0 y1 y2 y3 y4
      unfold impl_AffAt.l0
      repeat' first
      | (with_reducible exact ih0 _ _ _ _ _)
      | (with_reducible exact impl_boundTo.mono _ _ _)
      | (with_reducible exact LeO.refl _)
      | (with_reducible exact LeO.none _)
      | (with_reducible refine LeO.ite ?_ ?_)
      | (with_reducible refine LeO.bind ?_ (fun _ => ?_))
      | exact ih0 _ _ _ _ _
      | exact impl_boundTo.mono _ _ _
      | exact LeO.none _
      | refine LeO.ite ?_ ?_
      | refine LeO.bind ?_ (fun _ => ?_)
theorem impl_AffAt.mono : ∀ a0 a1 a2 k, LeO (impl_AffAt.f k a0 a1 a2) (impl_AffAt.f (k + 1) a0 a1 a2) := by
  intro a0 a1 a2 k
  have ih0 := impl_AffAt.mono_l k
  unfold impl_AffAt.f
  repeat' first
      | (with_reducible exact ih0 _ _ _ _ _)
      | (with_reducible exact impl_boundTo.mono _ _ _)
      | (with_reducible exact LeO.refl _)
      | (with_reducible exact LeO.none _)
      | (with_reducible refine LeO.ite ?_ ?_)
      | (with_reducible refine LeO.bind ?_ (fun _ => ?_))
      | exact ih0 _ _ _ _ _
      | exact impl_boundTo.mono _ _ _
      | exact LeO.none _
      | refine LeO.ite ?_ ?_
      | refine LeO.bind ?_ (fun _ => ?_)
set_option maxHeartbeats 8000000 in
set_option maxRecDepth 100000 in
theorem impl_AffAt.calls (k : Nat) (a0_0 : Int) (A0_1 : Option Addr) (c0_1 : Nat) (l0_1 : List (S73)) (A1 : Option Addr) (c1 : Nat) (l1 : List (S36)) (r : Int) (w : World) (hr0_1 : Kd.C k73 w A0_1 l0_1.length l0_1) (hc0_1 : l0_1.length ≤ c0_1) (hr1 : Kd.C k36 w A1 l1.length l1) (hc1 : l1.length ≤ c1) (h : impl_AffAt.f k a0_0 l0_1 l1 = some r) :
    Calls Try.prog 13 #[.agg #[.int .i64 a0_0, .slice A0_1 l0_1.length c0_1], .slice A1 l1.length c1] w fun e w' => e = .returned (.int .i64 r) ∧ Below w.heap.size w w' := by
  have hu26 := Try.underlying26
  have hu73 := Try.underlying73
  have HR0_1 := Aside0.mk hr0_1
  have HC0_1 := Aside0.mk hc0_1
  clear hr0_1 hc0_1
  have HR1 := Aside0.mk hr1
  have HC1 := Aside0.mk hc1
  clear hr1 hc1
  have HB := Aside0.mk (Below.refl w.heap.size w)
  have H : (impl_AffAt.l0 k l1 a0_0 l0_1 (l0_1.length : Int) 0) = some r := h
  clear h
  have H' := Aside0.mk H
  clear H
  go_enter Try.func13, Try.ntmps13
  go_wp2_with (first | ((with_reducible refine gate_dst (N := 2) rfl ?_); refine box_event ?hg (N := 2) ?hd (cs := #[.int .i64 a0_0, .slice A0_1 l0_1.length c0_1]) (t := 26) ?hr ?_; (case hd => rfl); (case hg => rfl); (case hr => first | (go_simp; done) | (go_simp; rfl)); intro gb300 hg w3 hbox hb; have n0_ := Aside0.mk (below_step (by repeat (first | (with_reducible first | exact HB.out | apply below_alloc | apply pw_below_drewN | apply below_drew1) | exact HB.out)) hb); have n1_ := Aside0.mk (hbox); have n2_ := Aside0.mk ((by rw [hg]; exact (below_size (by repeat (first | (with_reducible first | exact HB.out | apply below_alloc | apply pw_below_drewN | apply below_drew1) | exact HB.out))) : w.heap.size ≤ gb300)); have n3_ := Aside0.mk ((by rw [hg]; exact (below_size (by repeat (first | (with_reducible first | exact HB.out | apply below_alloc | apply pw_below_drewN | apply below_drew1) | exact HB.out))) : w.heap.size ≤ gb300)); clear HB; have HB := n0_; have BK300 := n1_; have GW300 := n2_; have GE300 := n3_; clear n0_ n1_ n2_ n3_; clear hb hbox hg; have hcz4_0 : w3.cell? ⟨gb300, 0, none⟩ = some (.int .i64 a0_0) := (blk_cell BK300.out 0).trans rfl; have hcz4_1 : w3.cell? ⟨gb300, 1, none⟩ = some (.slice A0_1 l0_1.length c0_1) := (blk_cell BK300.out 1).trans rfl; have hfz4_0 := blk_frozen BK300.out 0; have hfz4_1 := blk_frozen BK300.out 1))
  go_loopg [5, 15] k (fun kq v5 v15 w' => ∃ (x5_1 : Int) (x15_1 : Int), v5 = .int .i64 x5_1 ∧ v15 = .int .i64 x15_1 ∧ Aside0 (impl_AffAt.l0 kq l1 x5_1 l0_1 (l0_1.length : Int) x15_1 = some r) ∧ Aside0 (kq ≤ k) ∧ Aside0 (w'.heap[gb300]? = some (.cells #[.int .i64 a0_0, (.slice A0_1 l0_1.length c0_1)] 26 (0, 0))) ∧ Aside0 (Below w.heap.size w w'))
  case atStart => exact ⟨(a0_0), (0), (by first | rfl | (simp; done) | (simp [*]; done)), (by first | rfl | (simp; done) | (simp [*]; done)), H', ⟨Nat.le_refl _⟩, ⟨by (with_reducible repeat (first | refine blk_drewN ?_ _ | refine blk_drew ?_ | refine blk_alloc ?_ _)); exact BK300.out⟩, ⟨by repeat (first | (with_reducible first | exact HB.out | apply below_alloc | apply pw_below_drewN | apply below_drew1 | refine below_set ?_ GE300.out) | exact HB.out)⟩⟩
  case round =>
    clear H'
    try clear c1
    try clear p2
    try clear hcz4_0
    try clear hcz4_1
    try clear hfz4_0
    try clear hfz4_1
    obtain ⟨x5_1, x15_1, rfl, rfl, HA, HK1, BK300, HB⟩ := hrel
    cases gk with
    | zero => exact absurd HA.out (by simp [impl_AffAt.l0])
    | succ k1 =>
      have H := HA.out
      clear HA
      simp only [impl_AffAt.l0] at H
      by_cases c5 : x15_1 < (l0_1.length : Int)
      · rw [if_pos c5] at H
        have c5b0 : decide (x15_1 < (l0_1.length : Int)) = true := decide_eq_true c5
        clear c5
        by_cases c6 : 0 ≤ x15_1
        · rw [if_pos c6] at H
          have c6b0 : decide (0 ≤ x15_1) = true := decide_eq_true c6
          clear c6
          by_cases c7 : x15_1 < (l0_1.length : Int)
          · rw [if_pos c7] at H
            have c7b0 : decide (x15_1 < (l0_1.length : Int)) = true := decide_eq_true c7
            clear c7
            replace H := Option.bind_eq_some_iff.mp H
            obtain ⟨⟨t303, t304⟩, A80, H⟩ := H
            replace H : (impl_AffAt.l0 k1 l1 (wrap64 (x5_1 + (wrap64 (((rd_T73 l0_1 x15_1).f1) * t303)))) l0_1 (l0_1.length : Int) (wrap64 (x15_1 + 1))) = some r := H
            have A8 := Aside0.mk A80
            clear A80
            have H' := Aside0.mk H
            clear H
            have p301 : 0 ≤ (x15_1 : Int) := of_decide_eq_true (by first | (with_reducible assumption) | assumption)
            have q301 : x15_1 < (l0_1.length : Int) := of_decide_eq_true (by first | (with_reducible assumption) | assumption)
            obtain ⟨ad301, e301, hx301_0, hx301_1⟩ := at_T73 HR0_1.out x15_1 p301 q301
            cases e301
            replace hx301_0 := (HB.out.cell (World.block_lt_of_cell? w _ hx301_0)).trans hx301_0
            replace hx301_1 := (HB.out.cell (World.block_lt_of_cell? w _ hx301_1)).trans hx301_1
            replace p301 := eq_true p301
            replace q301 := eq_true q301
            go_wp2_with (first | ((with_reducible refine gate_dst (N := 7) rfl ?_); refine box_event ?hg (N := 7) ?hd (cs := #[.string (⟨#[]⟩ : ByteArray), .int .i64 0]) (t := 73) ?hr ?_; (case hd => rfl); (case hg => rfl); (case hr => first | (go_simp; done) | (go_simp; rfl)); intro gb302 hg w9 hbox hb; have n0_ := Aside0.mk (blk_below (g := gb300) (o := .cells #[.int .i64 a0_0, .slice (some ad301) l0_1.length c0_1] 26 (0, 0)) (by (with_reducible repeat (first | refine blk_drewN ?_ _ | refine blk_drew ?_ | refine blk_alloc ?_ _)); exact BK300.out) hb); have n1_ := Aside0.mk (below_step (by repeat (first | (with_reducible first | exact HB.out | apply below_alloc | apply pw_below_drewN | apply below_drew1 | refine below_set ?_ GE300.out) | exact HB.out)) hb); have n2_ := Aside0.mk (hbox); have n3_ := Aside0.mk ((by rw [hg]; exact (below_size (by repeat (first | (with_reducible first | exact HB.out | apply below_alloc | apply pw_below_drewN | apply below_drew1 | refine below_set ?_ GE300.out) | exact HB.out))) : w.heap.size ≤ gb302)); have n4_ := Aside0.mk ((by rw [hg]; exact (below_size (by repeat (first | (with_reducible first | exact HB.out | apply below_alloc | apply pw_below_drewN | apply below_drew1 | refine below_set ?_ GE300.out) | exact HB.out))) : w.heap.size ≤ gb302)); have n5_ := Aside0.mk ((by rw [hg]; exact Nat.ne_of_lt (blk_lt (g := gb300) (o := .cells #[.int .i64 a0_0, .slice (some ad301) l0_1.length c0_1] 26 (0, 0)) (by (with_reducible repeat (first | refine blk_drewN ?_ _ | refine blk_drew ?_ | refine blk_alloc ?_ _)); exact BK300.out)) : gb300 ≠ gb302)); have n6_ := Aside0.mk ((by rw [hg]; exact Nat.ne_of_gt (blk_lt (g := gb300) (o := .cells #[.int .i64 a0_0, .slice (some ad301) l0_1.length c0_1] 26 (0, 0)) (by (with_reducible repeat (first | refine blk_drewN ?_ _ | refine blk_drew ?_ | refine blk_alloc ?_ _)); exact BK300.out)) : gb302 ≠ gb300)); clear BK300; clear HB; have BK300 := n0_; have HB := n1_; have BK302 := n2_; have GW302 := n3_; have GE302 := n4_; have NB300_302 := n5_; have NB302_300 := n6_; clear n0_ n1_ n2_ n3_ n4_ n5_ n6_; clear hb hbox hg; have hnb10 := NB302_300.out; have hnc10 := NB300_302.out; have hcz11_0 : w9.cell? ⟨gb302, 0, none⟩ = some (.string (⟨#[]⟩ : ByteArray)) := (blk_cell BK302.out 0).trans rfl; have hcz11_1 : w9.cell? ⟨gb302, 1, none⟩ = some (.int .i64 0) := (blk_cell BK302.out 1).trans rfl; have hfz11_0 := blk_frozen BK302.out 0; have hfz11_1 := blk_frozen BK302.out 1) | ((with_reducible refine gate_callee (f := 55) rfl ?_); refine goesL_ (some 23) rfl rfl Try.func55 (by kernel_rfl) rfl #[.slice A1 l1.length c1, .string ((rd_T73 l0_1 x15_1).f0)] rfl (by (try simp only [List.map_toArray, List.map_cons, List.map_nil]); first | done | rfl | (simp only [List.length_drop, List.length_take]; rfl)) ?_; (with_reducible refine (impl_boundTo.calls k1 _ _ l1 ((rd_T73 l0_1 x15_1).f0) t303 t304 _ ?side1 ?side2 A8.out).mono ?_); (case side1 => exact Kd.C_below HR1.out (by repeat (first | (with_reducible first | exact HB.out | apply below_alloc | apply pw_below_drewN | apply below_drew1 | refine below_set ?_ GE300.out | refine below_set ?_ GE302.out) | exact HB.out))); (case side2 => exact HC1.out); rintro e w' ⟨rfl, ⟨nd, rfl⟩⟩; refine ⟨_, rfl, ?_⟩))
            go_roundg k1
            case measure => have := HK1.out; omega
            case rel => exact ⟨(wrap64 (x5_1 + (wrap64 (((rd_T73 l0_1 x15_1).f1) * t303)))), (wrap64 (x15_1 + 1)), (by first | rfl | (simp; done) | (simp [*]; done)), (by first | rfl | (simp; done) | (simp [*]; done)), H', ⟨by have := HK1.out; omega⟩, ⟨by (with_reducible repeat (first | refine blk_drewN ?_ _ | refine blk_drew ?_ | refine blk_alloc ?_ _)); refine blk_far ?_ NB300_302.out _; (with_reducible repeat (first | refine blk_drewN ?_ _ | refine blk_drew ?_ | refine blk_alloc ?_ _)); refine blk_far ?_ NB300_302.out _; (with_reducible repeat (first | refine blk_drewN ?_ _ | refine blk_drew ?_ | refine blk_alloc ?_ _)); exact BK300.out⟩, ⟨by repeat (first | (with_reducible first | exact HB.out | apply below_alloc | apply pw_below_drewN | apply below_drew1 | refine below_set ?_ GE300.out | refine below_set ?_ GE302.out) | exact HB.out)⟩⟩
          · rw [if_neg c7] at H
            exact absurd H (by simp)
        · rw [if_neg c6] at H
          exact absurd H (by simp)
      · rw [if_neg c5] at H
        have c5b0 : decide (x15_1 < (l0_1.length : Int)) = false := decide_eq_false c5
        clear c5
        obtain rfl := Option.some.inj H
        go_wp2
        go_ret
        exact ⟨by first | rfl | (simp [errW_none, errW_some] <;> rfl) | (simp [*, errW_none, errW_some] <;> rfl), by repeat (first | (with_reducible first | exact HB.out | apply below_alloc | apply pw_below_drewN | apply below_drew1 | refine below_set ?_ GE300.out) | exact HB.out)⟩

end Go.Proofs.Ytelklalagebdgaa.PFnDists
