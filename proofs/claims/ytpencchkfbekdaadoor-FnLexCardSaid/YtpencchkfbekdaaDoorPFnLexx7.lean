-- The functions of a law as plain Lean functions, each with its contract: written by a program of this session.
import Derived.Test.YtpencchkfbekdaaDoorPFnLexx0
namespace Go.Proofs.YtpencchkfbekdaaDoor.PFnLex
open Go.RowKit Go.Proofs.YtpencchkfbekdaaDoorW.PrintWords Go.Proofs.YtpencchkfbekdaaDoorW.PrintLast Go.Proofs.YtpencchkfbekdaaDoorW.PrintMore
attribute [local go_sem] max2_int min2_int max_two min_two max_three min_three max_four min_four   -- for this text's walks alone
set_option linter.unusedVariables false
set_option linter.unusedSimpArgs false

/-- A state of type 74 at block g of W; what its slices lead to came in by w0. -/
def IsS74 (w0 W : World) (g : Nat) (f0 : List Int) (f1 : Int) (f2 : Int) : Prop := ∃ A0 c0, W.heap[g]? = some (.cells #[.slice A0 f0.length c0, .int .i64 f1, .int .i64 f2] 74 (0, 0)) ∧ w0.heap.size ≤ g ∧ Kd.C (Kd.int .u8) w0 A0 f0.length f0
theorem IsS74.grown {w0 W : World} {g : Nat} {f0 : List Int} {f1 : Int} {f2 : Int} {W1 : World} {row : Option Nat} (h : IsS74 w0 W g f0 f1 f2) (hw : W.grownBy W1 row) (hne : some g ≠ row) : IsS74 w0 W1 g f0 f1 f2 := by
 obtain ⟨A0, c0, hb, hg, hr0⟩ := h
 exact ⟨A0, c0, blk_grown hb hw hne, hg, hr0⟩
theorem IsS74.own_neN {w0 W : World} {g : Nat} {f0 : List Int} {f1 : Int} {f2 : Int} {α : Type} {d : Kd α} {e : Nat} {base : Nat} {ok : Nat → Prop} {v : Value} {xs : List α} (h : IsS74 w0 W g f0 f1 f2) (ho : Kd.N d e W base ok v xs) (ht : e ≠ 74) : some g ≠ v.ownBlock := by
 obtain ⟨A0, c0, hb, hg, hr0⟩ := h
 exact Kd.N_ne ho hb ht
theorem IsS74.fresh {w0 W : World} {g : Nat} {f0 : List Int} {f1 : Int} {f2 : Int} (h : IsS74 w0 W g f0 f1 f2) : ∀ k, W.heap.size ≤ k → k ≠ g := by
 obtain ⟨A0, c0, hb, hg, hr0⟩ := h
 exact Kd.freshB hb
theorem IsS74.kept {w0 W : World} {g : Nat} {f0 : List Int} {f1 : Int} {f2 : Int} {W1 : World} {S : Nat → Prop} (h : IsS74 w0 W g f0 f1 f2) (hk : Kept W W1 S) (hne : ¬ S g) : IsS74 w0 W1 g f0 f1 f2 := by
 obtain ⟨A0, c0, hb, hg, hr0⟩ := h
 exact ⟨A0, c0, blk_kept hb hk hne, hg, hr0⟩
theorem IsS74.below {w0 W : World} {g : Nat} {f0 : List Int} {f1 : Int} {f2 : Int} {W1 : World} (h : IsS74 w0 W g f0 f1 f2) (hw : Below W.heap.size W W1) : IsS74 w0 W1 g f0 f1 f2 := h.grown (grown_of_below hw none) (by simp)
theorem IsS74.alloc {w0 W : World} {g : Nat} {f0 : List Int} {f1 : Int} {f2 : Int} (h : IsS74 w0 W g f0 f1 f2) (o : Obj) : IsS74 w0 (W.alloc o) g f0 f1 f2 := h.below (below_alloc (Below.refl _ _) o)
theorem IsS74.drewN {w0 W : World} {g : Nat} {f0 : List Int} {f1 : Int} {f2 : Int} (h : IsS74 w0 W g f0 f1 f2) (m : Nat) : IsS74 w0 (W.drewN m) g f0 f1 f2 := h
theorem IsS74.drew {w0 W : World} {g : Nat} {f0 : List Int} {f1 : Int} {f2 : Int} (h : IsS74 w0 W g f0 f1 f2) : IsS74 w0 W.drew g f0 f1 f2 := h
theorem IsS74.at_ {w0 W : World} {g : Nat} {f0 : List Int} {f1 : Int} {f2 : Int} {w' : World} {m : Nat} (hq : W.drewN m = w') (h : IsS74 w0 W g f0 f1 f2) : IsS74 w0 w' g f0 f1 f2 := by subst hq; exact IsS74.drewN h m
theorem IsS74.apart {w0 W : World} {g : Nat} {f0 : List Int} {f1 : Int} {f2 : Int} {α : Type} {d : Kd α} {e : Nat} {base : Nat} {ok : Nat → Prop} {v : Value} {xs : List α} (h : IsS74 w0 W g f0 f1 f2) (ho : d.R e W base ok v xs) (ht : ∀ q, q ∈ e :: d.E → q ≠ 74) : d.R e W base (fun k => ok k ∧ k ≠ g) v xs := by
 obtain ⟨A0, c0, hb, hg, hr0⟩ := h
 exact Kd.R_types ho hb ht
theorem IsS74.own_ne {w0 W : World} {g : Nat} {f0 : List Int} {f1 : Int} {f2 : Int} {α : Type} {d : Kd α} {e : Nat} {base : Nat} {ok : Nat → Prop} {v : Value} {xs : List α} (h : IsS74 w0 W g f0 f1 f2) (ho : d.R e W base ok v xs) (ht : e ≠ 74) : some g ≠ v.ownBlock := by
 obtain ⟨A0, c0, hb, hg, hr0⟩ := h
 exact Kd.R_ne ho hb ht
theorem IsS74.apartQ {w0 W : World} {g : Nat} {f0 : List Int} {f1 : Int} {f2 : Int} {α : Type} {d : Kd α} {e : Nat} {base : Nat} {ok : Nat → Prop} {v : Value} {xs : List α} (h : IsS74 w0 W g f0 f1 f2) (ho : d.Q e W base ok v xs) (ht : ∀ q, q ∈ e :: d.E → q ≠ 74) : d.Q e W base (fun k => ok k ∧ k ≠ g) v xs := by
 obtain ⟨A0, c0, hb, hg, hr0⟩ := h
 exact Kd.Q_types ho hb ht
theorem IsS74.own_neQ {w0 W : World} {g : Nat} {f0 : List Int} {f1 : Int} {f2 : Int} {α : Type} {d : Kd α} {e : Nat} {base : Nat} {ok : Nat → Prop} {v : Value} {xs : List α} (h : IsS74 w0 W g f0 f1 f2) (ho : d.Q e W base ok v xs) (ht : e ≠ 74) : some g ≠ v.ownBlock := by
 obtain ⟨A0, c0, hb, hg, hr0⟩ := h
 exact Kd.Q_ne ho hb ht
theorem IsS74.apartS {w0 W : World} {g : Nat} {f0 : List Int} {f1 : Int} {f2 : Int} {α : Type} {d : Kd α} {e : Nat} {base : Nat} {ok : Nat → Prop} {v : Value} {xs : List α} (h : IsS74 w0 W g f0 f1 f2) (ho : d.S e W base ok v xs) (ht : ∀ q, q ∈ e :: d.E → q ≠ 74) : d.S e W base (fun k => ok k ∧ k ≠ g) v xs := by
 obtain ⟨A0, c0, hb, hg, hr0⟩ := h
 exact Kd.S_types ho hb ht
theorem IsS74.own_neS {w0 W : World} {g : Nat} {f0 : List Int} {f1 : Int} {f2 : Int} {α : Type} {d : Kd α} {e : Nat} {base : Nat} {ok : Nat → Prop} {v : Value} {xs : List α} (h : IsS74 w0 W g f0 f1 f2) (ho : d.S e W base ok v xs) (ht : e ≠ 74) : some g ≠ v.ownBlock := by
 obtain ⟨A0, c0, hb, hg, hr0⟩ := h
 exact Kd.S_ne ho hb ht
theorem IsS74.lt {w0 W : World} {g : Nat} {f0 : List Int} {f1 : Int} {f2 : Int} (h : IsS74 w0 W g f0 f1 f2) : g < W.heap.size := by
 obtain ⟨A0, c0, hb, hg, hr0⟩ := h
 exact blk_lt hb
theorem IsS74.ge {w0 W : World} {g : Nat} {f0 : List Int} {f1 : Int} {f2 : Int} (h : IsS74 w0 W g f0 f1 f2) : w0.heap.size ≤ g := by
 obtain ⟨A0, c0, hb, hg, hr0⟩ := h
 exact hg
theorem IsS74.ne_blk {w0 W : World} {g : Nat} {f0 : List Int} {f1 : Int} {f2 : Int} {a : Nat} {cs : Array Value} {t : TypeId} {fr : Nat × Nat} (h : IsS74 w0 W g f0 f1 f2) (hb2 : W.heap[a]? = some (.cells cs t fr)) (ht : t ≠ 74) : g ≠ a := by
 obtain ⟨A0, c0, hb, hg, hr0⟩ := h
 rintro rfl
 rw [hb] at hb2
 injection hb2 with hb2
 injection hb2 with _ ht2
 exact ht ht2.symm
theorem IsS74.far {w0 W : World} {g : Nat} {f0 : List Int} {f1 : Int} {f2 : Int} {p : Addr} (h : IsS74 w0 W g f0 f1 f2) (hne : g ≠ p.block) (u : Value) : IsS74 w0 (W.setCell p u) g f0 f1 f2 := by
 obtain ⟨A0, c0, hb, hg, hr0⟩ := h
 exact ⟨A0, c0, blk_far hb hne u, hg, hr0⟩
theorem cellS74_0 {W : World} {g : Nat} {A0 : Option Addr} {c0 : Nat} {f0 : List Int} {f1 : Int} {f2 : Int} (h : W.heap[g]? = some (.cells #[.slice A0 f0.length c0, .int .i64 f1, .int .i64 f2] 74 (0, 0))) : W.cell? ⟨g, 0, none⟩ = some (.slice A0 f0.length c0) := (blk_cell h 0).trans rfl
theorem cellS74_1 {W : World} {g : Nat} {A0 : Option Addr} {c0 : Nat} {f0 : List Int} {f1 : Int} {f2 : Int} (h : W.heap[g]? = some (.cells #[.slice A0 f0.length c0, .int .i64 f1, .int .i64 f2] 74 (0, 0))) : W.cell? ⟨g, 1, none⟩ = some (.int .i64 f1) := (blk_cell h 1).trans rfl
theorem IsS74.set_1 {w0 W : World} {g : Nat} {f0 : List Int} {f1 : Int} {f2 : Int} (h : IsS74 w0 W g f0 f1 f2) (x : Int) : IsS74 w0 (W.setCell ⟨g, 1, none⟩ (.int .i64 x)) g f0 x f2 := by
 obtain ⟨A0, c0, hb, hg, hr0⟩ := h
 exact ⟨A0, c0, by simpa using blk_set hb 1 (.int .i64 x), hg, hr0⟩
theorem cellS74_2 {W : World} {g : Nat} {A0 : Option Addr} {c0 : Nat} {f0 : List Int} {f1 : Int} {f2 : Int} (h : W.heap[g]? = some (.cells #[.slice A0 f0.length c0, .int .i64 f1, .int .i64 f2] 74 (0, 0))) : W.cell? ⟨g, 2, none⟩ = some (.int .i64 f2) := (blk_cell h 2).trans rfl
theorem IsS74.set_2 {w0 W : World} {g : Nat} {f0 : List Int} {f1 : Int} {f2 : Int} (h : IsS74 w0 W g f0 f1 f2) (x : Int) : IsS74 w0 (W.setCell ⟨g, 2, none⟩ (.int .i64 x)) g f0 f1 x := by
 obtain ⟨A0, c0, hb, hg, hr0⟩ := h
 exact ⟨A0, c0, by simpa using blk_set hb 2 (.int .i64 x), hg, hr0⟩
theorem IsS74.new (w0 W : World) (A0 : Option Addr) (c0 : Nat) (f0 : List Int) (f1 : Int) (f2 : Int) (hB : Below w0.heap.size w0 W) (hr0 : Kd.C (Kd.int .u8) w0 A0 f0.length f0) : IsS74 w0 (W.alloc (.cells #[.slice A0 f0.length c0, .int .i64 f1, .int .i64 f2] 74)) W.heap.size f0 f1 f2 := ⟨A0, c0, by simpa using heap_alloc_new W _, hB.size, hr0⟩

/-! ### spec_l1New: function 40 -/
def spec_l1New.l0 : Nat → List Int → Int → Int → Option (List Int × Int × Int)
 | 0, _, _, _ => none
 | k + 1, x0, x3, x4 => if x4 < (x0.length : Int) then (if x4 < 4000 then (if 0 ≤ x4 then (spec_l1New.l0 k x0 (Go.bits .and .i64 (wrap64 ((wrap64 ((wrap64 (x3 * 137)) + (wrap64 (rd x0 x4)))) + 11)) 1073741823) (wrap64 (x4 + 1))) else (none)) else (some (x0, 0, x3))) else (some (x0, 0, x3))
def spec_l1New.f (k : Nat) (l0 : List Int) : Option (List Int × Int × Int) := spec_l1New.l0 k l0 (wrap64 (957957 + (l0.length : Int))) 0
theorem spec_l1New.mono_l : ∀ k, (∀ y0 y1 y2, LeO (spec_l1New.l0 k y0 y1 y2) (spec_l1New.l0 (k + 1) y0 y1 y2))
 | 0 => fun _ _ _ r h => by simp [spec_l1New.l0] at h
 | k + 1 => by
  have ih0 := spec_l1New.mono_l k
  ·intro y0 y1 y2
   unfold spec_l1New.l0
   repeat' first
   | (with_reducible exact ih0 _ _ _)
   | (with_reducible exact LeO.refl _)
   | (with_reducible exact LeO.none _)
   | (with_reducible refine LeO.ite ?_ ?_)
   | (with_reducible refine LeO.bind ?_ (fun _ => ?_))
   | exact ih0 _ _ _
   | exact LeO.none _
   | refine LeO.ite ?_ ?_
   | refine LeO.bind ?_ (fun _ => ?_)
theorem spec_l1New.mono : ∀ a0 k, LeO (spec_l1New.f k a0) (spec_l1New.f (k + 1) a0) := by
 intro a0 k
 have ih0 := spec_l1New.mono_l k
 unfold spec_l1New.f
 repeat' first
   | (with_reducible exact ih0 _ _ _)
   | (with_reducible exact LeO.refl _)
   | (with_reducible exact LeO.none _)
   | (with_reducible refine LeO.ite ?_ ?_)
   | (with_reducible refine LeO.bind ?_ (fun _ => ?_))
   | exact ih0 _ _ _
   | exact LeO.none _
   | refine LeO.ite ?_ ?_
   | refine LeO.bind ?_ (fun _ => ?_)
set_option maxHeartbeats 8000000 in
set_option maxRecDepth 100000 in
theorem spec_l1New.calls (k : Nat) (A0 : Option Addr) (c0 : Nat) (l0 : List Int) (r1 : List Int) (r2 : Int) (r3 : Int) (w0 w : World) (hB : Below w0.heap.size w0 w) (hr0 : Kd.C (Kd.int .u8) w0 A0 l0.length l0) (hc0 : l0.length ≤ c0) (h : spec_l1New.f k l0 = some (r1, r2, r3)) :
  Calls Tryd.prog 40 #[.slice A0 l0.length c0] w fun e w' => ∃ g_ : Nat, e = .returned (.pointer (some ⟨g_, 0, none⟩)) ∧ IsS74 w0 w' g_ r1 r2 r3 ∧ Below w0.heap.size w0 w' ∧ Below w.heap.size w w' := by
 have hu74 := Tryd.underlying74
 have HR0 := mk0 hr0
 have HC0 := mk0 hc0
 clear hr0 hc0
 have HBW := mk0 (Below.refl w.heap.size w)
 have HW0 := mk0 hB.size
 have HB := mk0 hB
 clear hB
 have H : (spec_l1New.l0 k l0 (wrap64 (957957 + (l0.length : Int))) 0) = some (r1,r2,r3) := h
 clear h
 have H' := mk0 H
 clear H
 go_enter Tryd.func40,Tryd.ntmps40
 go_wp2
 go_loopg [3,4] k (fun kq v3 v4 w' => ∃ (x3_1 : Int) (x4_1 : Int),v3 = .int .i64 x3_1 ∧ v4 = .int .i64 x4_1 ∧ Aside0 (spec_l1New.l0 kq l0 x3_1 x4_1 = some (r1,r2,r3)) ∧ Aside0 (kq ≤ k) ∧ Aside0 (Below w0.heap.size w0 w') ∧ Aside0 (Below w.heap.size w w'))
 case atStart => exact ⟨(wrap64 (957957 + (l0.length : Int))),(0),(by first|rfl|(simp;done)|(simp [*];done)),(by first|rfl|(simp;done)|(simp [*];done)),H',⟨Nat.le_refl _⟩,⟨by repeat (first|(with_reducible first|exact HB.out|apply bA|apply bN|apply bD)|exact HB.out)⟩,⟨by repeat (first|(with_reducible first|exact HBW.out|apply bA|apply bN|apply bD)|exact HBW.out)⟩⟩
 case round =>
  clear H'
  clear HBW
  obtain ⟨x3_1,x4_1,rfl,rfl,HA,HK1,HB,HBW⟩ := hrel
  cases gk with
   |zero => exact absurd HA.out (by simp [spec_l1New.l0])
   |succ k1 =>
   have H := HA.out
   clear HA
   simp only [spec_l1New.l0] at H
   by_cases c2 : x4_1 < (l0.length : Int)
   ·rw [if_pos c2] at H
    have c2b0 : decide (x4_1 < (l0.length : Int)) = true := decide_eq_true c2
    clear c2
    by_cases c3 : x4_1 < 4000
    ·rw [if_pos c3] at H
     have c3b0 : decide (x4_1 < 4000) = true := decide_eq_true c3
     clear c3
     by_cases c4 : 0 ≤ x4_1
     ·rw [if_pos c4] at H
      have c4b0 : decide (0 ≤ x4_1) = true := decide_eq_true c4
      clear c4
      have H' := mk0 H
      clear H
      have p192 : 0 ≤ (x4_1 : Int) := of_decide_eq_true (by first|(with_reducible assumption)|assumption)
      have q192 : x4_1 < (l0.length : Int) := of_decide_eq_true (by first|(with_reducible assumption)|assumption)
      obtain ⟨ad192,e192,hx192_0⟩ := Kd.at_int HR0.out x4_1 p192 q192
      cases e192
      replace hx192_0 := pw_cell_below HB.out hx192_0
      replace p192 := eq_true p192
      replace q192 := eq_true q192
      go_wp2
      go_roundg k1
      case measure => have := HK1.out;omega
      case rel => exact ⟨(Go.bits .and .i64 (wrap64 ((wrap64 ((wrap64 (x3_1 * 137)) + (wrap64 (rd l0 x4_1)))) + 11)) 1073741823),(wrap64 (x4_1 + 1)),(by first|rfl|(simp;done)|(simp [*];done)),(by first|rfl|(simp;done)|(simp [*];done)),H',⟨by have := HK1.out;omega⟩,⟨by repeat (first|(with_reducible first|exact HB.out|apply bA|apply bN|apply bD)|exact HB.out)⟩,⟨by repeat (first|(with_reducible first|exact HBW.out|apply bA|apply bN|apply bD)|exact HBW.out)⟩⟩
     ·rw [if_neg c4] at H
      exact absurd H (by simp)
    ·rw [if_neg c3] at H
     have c3b0 : decide (x4_1 < 4000) = false := decide_eq_false c3
     clear c3
     simp only [Option.some.injEq,Prod.mk.injEq] at H
     obtain ⟨rfl,rfl,rfl⟩ := H
     go_wp2_with (first|((with_reducible refine gate_dst (N := 31) rfl ?_);refine box_event ?hg (N := 31) ?hd (cs := #[.slice A0 l0.length c0,.int .i64 0,.int .i64 x3_1]) (t := 74) ?hr ?_;(case hd => rfl);(case hg => rfl);(case hr => first|(go_simp;done)|(go_simp;rfl));intro gb193 hg w5 hbox hb;have n0_ := mk0 (below_step HBW.out hb);have n1_ := mk0 (below_step (by repeat (first|(with_reducible first|exact HB.out|apply bA|apply bN|apply bD)|exact HB.out)) hb);have n2_ := mk0 (hbox);have n3_ := mk0 ((by rw [hg];exact (below_size (by repeat (first|(with_reducible first|exact HBW.out|apply bA|apply bN|apply bD)|exact HBW.out))) : w.heap.size ≤ gb193));have n4_ := mk0 ((Nat.le_trans HW0.out (by rw [hg];exact (below_size (by repeat (first|(with_reducible first|exact HBW.out|apply bA|apply bN|apply bD)|exact HBW.out))) : w.heap.size ≤ gb193) : w0.heap.size ≤ gb193));clear HBW;clear HB;have HBW := n0_;have HB := n1_;have BK193 := n2_;have GW193 := n3_;have GE193 := n4_;clear n0_ n1_ n2_ n3_ n4_;clear hb hbox hg))
     go_ret
     exact ⟨_,rfl,(show IsS74 w0 _ gb193 l0 0 x3_1 from ⟨_,_,by refine kX ?_;exact BK193.out,GE193.out,HR0.out⟩),by repeat (first|(with_reducible first|exact HB.out|apply bA|apply bN|apply bD|refine bS ?_ GE193.out)|exact HB.out),by repeat (first|(with_reducible first|exact HBW.out|apply bA|apply bN|apply bD|refine bS ?_ GW193.out)|exact HBW.out)⟩
   ·rw [if_neg c2] at H
    have c2b0 : decide (x4_1 < (l0.length : Int)) = false := decide_eq_false c2
    clear c2
    simp only [Option.some.injEq,Prod.mk.injEq] at H
    obtain ⟨rfl,rfl,rfl⟩ := H
    go_wp2_with (first|((with_reducible refine gate_dst (N := 31) rfl ?_);refine box_event ?hg (N := 31) ?hd (cs := #[.slice A0 l0.length c0,.int .i64 0,.int .i64 x3_1]) (t := 74) ?hr ?_;(case hd => rfl);(case hg => rfl);(case hr => first|(go_simp;done)|(go_simp;rfl));intro gb194 hg w6 hbox hb;have n0_ := mk0 (below_step HBW.out hb);have n1_ := mk0 (below_step (by repeat (first|(with_reducible first|exact HB.out|apply bA|apply bN|apply bD)|exact HB.out)) hb);have n2_ := mk0 (hbox);have n3_ := mk0 ((by rw [hg];exact (below_size (by repeat (first|(with_reducible first|exact HBW.out|apply bA|apply bN|apply bD)|exact HBW.out))) : w.heap.size ≤ gb194));have n4_ := mk0 ((Nat.le_trans HW0.out (by rw [hg];exact (below_size (by repeat (first|(with_reducible first|exact HBW.out|apply bA|apply bN|apply bD)|exact HBW.out))) : w.heap.size ≤ gb194) : w0.heap.size ≤ gb194));clear HBW;clear HB;have HBW := n0_;have HB := n1_;have BK194 := n2_;have GW194 := n3_;have GE194 := n4_;clear n0_ n1_ n2_ n3_ n4_;clear hb hbox hg))
    go_ret
    exact ⟨_,rfl,(show IsS74 w0 _ gb194 l0 0 x3_1 from ⟨_,_,by refine kX ?_;exact BK194.out,GE194.out,HR0.out⟩),by repeat (first|(with_reducible first|exact HB.out|apply bA|apply bN|apply bD|refine bS ?_ GE194.out)|exact HB.out),by repeat (first|(with_reducible first|exact HBW.out|apply bA|apply bN|apply bD|refine bS ?_ GW194.out)|exact HBW.out)⟩

/-! ### spec_l1Byte: function 58 -/
def spec_l1Byte.f (s0_0 : List Int) (s0_1 : Int) (s0_2 : Int) : Option (Int × Int × Int) := if s0_1 < (s0_0.length : Int) then (if 0 ≤ s0_1 then (some (Go.bits .and .i64 (wrap64 ((Go.bits .and .i64 (Go.bits .xor .i64 ((wrap64 ((wrap64 (s0_2 * 6364136223846793005)) + 1442695040888963407)) / 8589934592) ((wrap64 ((wrap64 (s0_2 * 6364136223846793005)) + 1442695040888963407)) / 140737488355328)) 255) + (wrap64 (rd s0_0 s0_1)))) 255,wrap64 (s0_1 + 1),wrap64 ((wrap64 (s0_2 * 6364136223846793005)) + 1442695040888963407))) else (none)) else (some (Go.bits .and .i64 (Go.bits .xor .i64 ((wrap64 ((wrap64 (s0_2 * 6364136223846793005)) + 1442695040888963407)) / 8589934592) ((wrap64 ((wrap64 (s0_2 * 6364136223846793005)) + 1442695040888963407)) / 140737488355328)) 255,s0_1,wrap64 ((wrap64 (s0_2 * 6364136223846793005)) + 1442695040888963407)))
set_option maxHeartbeats 8000000 in
set_option maxRecDepth 100000 in
theorem spec_l1Byte.calls (g : Nat) (s0_0 : List Int) (s0_1 : Int) (s0_2 : Int) (r1 : Int) (r2 : Int) (r3 : Int) (w0 w : World) (hI : IsS74 w0 w g s0_0 s0_1 s0_2) (hB : Below w0.heap.size w0 w) (h : spec_l1Byte.f s0_0 s0_1 s0_2 = some (r1, r2, r3)) :
  Calls Tryd.prog 58 #[.pointer (some ⟨g, 0, none⟩)] w fun e w' => e = .returned (.int .i64 r1) ∧ IsS74 w0 w' g s0_0 r2 r3 ∧ Below w0.heap.size w0 w' ∧ KeepBut w w' g none := by
 have HI0 := mk0 hI
 have HK := mk0 (KeepBut.refl w g none)
 have HL := mk0 hB.size
 clear hI
 have HW0 := mk0 hB.size
 have HB := mk0 hB
 clear hB
 have H : (if s0_1 < (s0_0.length : Int) then (if 0 ≤ s0_1 then (some (Go.bits .and .i64 (wrap64 ((Go.bits .and .i64 (Go.bits .xor .i64 ((wrap64 ((wrap64 (s0_2 * 6364136223846793005)) + 1442695040888963407)) / 8589934592) ((wrap64 ((wrap64 (s0_2 * 6364136223846793005)) + 1442695040888963407)) / 140737488355328)) 255) + (wrap64 (rd s0_0 s0_1)))) 255,wrap64 (s0_1 + 1),wrap64 ((wrap64 (s0_2 * 6364136223846793005)) + 1442695040888963407))) else (none)) else (some (Go.bits .and .i64 (Go.bits .xor .i64 ((wrap64 ((wrap64 (s0_2 * 6364136223846793005)) + 1442695040888963407)) / 8589934592) ((wrap64 ((wrap64 (s0_2 * 6364136223846793005)) + 1442695040888963407)) / 140737488355328)) 255,s0_1,wrap64 ((wrap64 (s0_2 * 6364136223846793005)) + 1442695040888963407)))) = some (r1,r2,r3) := h
 clear h
 by_cases c2 : s0_1 < (s0_0.length : Int)
 ·rw [if_pos c2] at H
  have c2b0 : decide (s0_1 < (s0_0.length : Int)) = true := decide_eq_true c2
  clear c2
  by_cases c3 : 0 ≤ s0_1
  ·rw [if_pos c3] at H
   have c3b0 : decide (0 ≤ s0_1) = true := decide_eq_true c3
   clear c3
   simp only [Option.some.injEq,Prod.mk.injEq] at H
   obtain ⟨rfl,rfl,rfl⟩ := H
   obtain ⟨ASz4_0,cSz4_0,HGz4,hgz4,HSz4_0⟩ := HI0.out
   have hcz4_0 := cellS74_0 HGz4
   have hcz4_1 := cellS74_1 HGz4
   have hcz4_2 := cellS74_2 HGz4
   have hfz4_1 := blk_frozen HGz4 1
   have hfz4_2 := blk_frozen HGz4 2
   clear HGz4 hgz4
   have p195 : 0 ≤ (s0_1 : Int) := of_decide_eq_true (by first|(with_reducible assumption)|assumption)
   have q195 : s0_1 < (s0_0.length : Int) := of_decide_eq_true (by first|(with_reducible assumption)|assumption)
   obtain ⟨ad195,e195,hx195_0⟩ := Kd.at_int HSz4_0 s0_1 p195 q195
   cases e195
   have hn195_0 : ad195.block ≠ g := Nat.ne_of_lt (Nat.lt_of_lt_of_le (by have := World.block_lt_of_cell? _ _ hx195_0;first|rwa [add_block] at this|exact this) (IsS74.ge HI0.out))
   replace hx195_0 := pw_cell_below HB.out hx195_0
   replace hx195_0 := (cell_far (p := ⟨g,2,none⟩) (by first|(rw [add_block];exact hn195_0)|(show (Addr.add _ _).block ≠ _;rw [add_block];exact hn195_0)|exact hn195_0) (.int .i64 (wrap64 ((wrap64 (s0_2 * 6364136223846793005)) + 1442695040888963407)))).trans hx195_0
   (try have hy195_0 := fun (n_ : Nat) => (show (((w.drewN n_).setCell ⟨g,2,none⟩ (.int .i64 (wrap64 ((wrap64 (s0_2 * 6364136223846793005)) + 1442695040888963407))))).cell? _ = some _ from hx195_0))
   clear hn195_0
   replace p195 := eq_true p195
   replace q195 := eq_true q195
   go_enter Tryd.func58,Tryd.ntmps58
   go_wp2
   repeat (go_quiet (fail);try go_wp2)
   go_ret
   exact ⟨by first|rfl|(simp [errW_none,errW_some] <;> rfl)|(simp [*,errW_none,errW_some] <;> rfl),by repeat (first|(with_reducible first|exact HI0.out|apply IsS74.alloc|apply IsS74.drewN|apply IsS74.drew|apply IsS74.set_1|apply IsS74.set_2)|exact HI0.out),by repeat (first|(with_reducible first|exact HB.out|apply bA|apply bN|apply bD|refine bS ?_ (IsS74.ge HI0.out))|exact HB.out),by repeat (first|(with_reducible first|exact HK.out|apply KeepBut.set_|apply keep_drewN|apply keep_drew|apply keep_alloc)|exact HK.out)⟩
  ·rw [if_neg c3] at H
   exact absurd H (by simp)
 ·rw [if_neg c2] at H
  have c2b0 : decide (s0_1 < (s0_0.length : Int)) = false := decide_eq_false c2
  clear c2
  simp only [Option.some.injEq,Prod.mk.injEq] at H
  obtain ⟨rfl,rfl,rfl⟩ := H
  obtain ⟨ASz5_0,cSz5_0,HGz5,hgz5,HSz5_0⟩ := HI0.out
  have hcz5_0 := cellS74_0 HGz5
  have hcz5_1 := cellS74_1 HGz5
  have hcz5_2 := cellS74_2 HGz5
  have hfz5_1 := blk_frozen HGz5 1
  have hfz5_2 := blk_frozen HGz5 2
  clear HGz5 hgz5
  go_enter Tryd.func58,Tryd.ntmps58
  go_wp2
  repeat (go_quiet (fail);try go_wp2)
  go_ret
  exact ⟨by first|rfl|(simp [errW_none,errW_some] <;> rfl)|(simp [*,errW_none,errW_some] <;> rfl),by repeat (first|(with_reducible first|exact HI0.out|apply IsS74.alloc|apply IsS74.drewN|apply IsS74.drew|apply IsS74.set_1|apply IsS74.set_2)|exact HI0.out),by repeat (first|(with_reducible first|exact HB.out|apply bA|apply bN|apply bD|refine bS ?_ (IsS74.ge HI0.out))|exact HB.out),by repeat (first|(with_reducible first|exact HK.out|apply KeepBut.set_|apply keep_drewN|apply keep_drew|apply keep_alloc)|exact HK.out)⟩

/-! ### spec_l1Below: function 43 -/
def spec_l1Below.f (s0_0 : List Int) (s0_1 : Int) (s0_2 : Int) (a1 : Int) : Option (Int × Int × Int) := if a1 ≤ 0 then (some (0,s0_1,s0_2)) else (if a1 ≤ 256 then ((spec_l1Byte.f s0_0 s0_1 s0_2).bind fun bt196 => (if a1 = 0 then (none) else (some (Int.tmod bt196.1 a1,bt196.2.1,bt196.2.2)))) else ((spec_l1Byte.f s0_0 s0_1 s0_2).bind fun bt199 => ((spec_l1Byte.f s0_0 bt199.2.1 bt199.2.2).bind fun bt202 => ((spec_l1Byte.f s0_0 bt202.2.1 bt202.2.2).bind fun bt205 => (if a1 = 0 then (none) else (some (Int.tmod (wrap64 ((wrap64 ((wrap64 (bt199.1 * 65536)) + (wrap64 (bt202.1 * 256)))) + bt205.1)) a1,bt205.2.1,bt205.2.2)))))))
set_option maxHeartbeats 8000000 in
set_option maxRecDepth 100000 in
theorem spec_l1Below.calls (g : Nat) (s0_0 : List Int) (s0_1 : Int) (s0_2 : Int) (a1 : Int) (r1 : Int) (r2 : Int) (r3 : Int) (w0 w : World) (hI : IsS74 w0 w g s0_0 s0_1 s0_2) (hB : Below w0.heap.size w0 w) (h : spec_l1Below.f s0_0 s0_1 s0_2 a1 = some (r1, r2, r3)) :
  Calls Tryd.prog 43 #[.pointer (some ⟨g, 0, none⟩), .int .i64 a1] w fun e w' => e = .returned (.int .i64 r1) ∧ IsS74 w0 w' g s0_0 r2 r3 ∧ Below w0.heap.size w0 w' ∧ KeepBut w w' g none := by
 have HI0 := mk0 hI
 have HK := mk0 (KeepBut.refl w g none)
 have HL := mk0 hB.size
 clear hI
 have HW0 := mk0 hB.size
 have HB := mk0 hB
 clear hB
 have H : (if a1 ≤ 0 then (some (0,s0_1,s0_2)) else (if a1 ≤ 256 then ((spec_l1Byte.f s0_0 s0_1 s0_2).bind fun bt196 => (if a1 = 0 then (none) else (some (Int.tmod bt196.1 a1,bt196.2.1,bt196.2.2)))) else ((spec_l1Byte.f s0_0 s0_1 s0_2).bind fun bt199 => ((spec_l1Byte.f s0_0 bt199.2.1 bt199.2.2).bind fun bt202 => ((spec_l1Byte.f s0_0 bt202.2.1 bt202.2.2).bind fun bt205 => (if a1 = 0 then (none) else (some (Int.tmod (wrap64 ((wrap64 ((wrap64 (bt199.1 * 65536)) + (wrap64 (bt202.1 * 256)))) + bt205.1)) a1,bt205.2.1,bt205.2.2)))))))) = some (r1,r2,r3) := h
 clear h
 by_cases c3 : a1 ≤ 0
 ·rw [if_pos c3] at H
  have c3b0 : decide (a1 ≤ 0) = true := decide_eq_true c3
  clear c3
  simp only [Option.some.injEq,Prod.mk.injEq] at H
  obtain ⟨rfl,rfl,rfl⟩ := H
  go_enter Tryd.func43,Tryd.ntmps43
  go_wp2
  go_ret
  exact ⟨by first|rfl|(simp [errW_none,errW_some] <;> rfl)|(simp [*,errW_none,errW_some] <;> rfl),by repeat (first|(with_reducible first|exact HI0.out|apply IsS74.alloc|apply IsS74.drewN|apply IsS74.drew|apply IsS74.set_1|apply IsS74.set_2)|exact HI0.out),by repeat (first|(with_reducible first|exact HB.out|apply bA|apply bN|apply bD|refine bS ?_ (IsS74.ge HI0.out))|exact HB.out),by repeat (first|(with_reducible first|exact HK.out|apply KeepBut.set_|apply keep_drewN|apply keep_drew|apply keep_alloc)|exact HK.out)⟩
 ·rw [if_neg c3] at H
  have c3b0 : decide (a1 ≤ 0) = false := decide_eq_false c3
  clear c3
  by_cases c4 : a1 ≤ 256
  ·rw [if_pos c4] at H
   have c4b0 : decide (a1 ≤ 256) = true := decide_eq_true c4
   clear c4
   replace H := Option.bind_eq_some_iff.mp H
   obtain ⟨⟨t196,t197,t198⟩,A50,H⟩ := H
   replace H : (if a1 = 0 then (none) else (some (Int.tmod t196 a1,t197,t198))) = some (r1,r2,r3) := H
   have A5 := mk0 A50
   clear A50
   by_cases c6 : a1 = 0
   ·rw [if_pos c6] at H
    exact absurd H (by simp)
   ·rw [if_neg c6] at H
    have c6b0 : (a1 == 0) = false := beq_eq_false_iff_ne.mpr c6
    have c6b1 : (a1 != 0) = true := bne_iff_ne.mpr c6
    simp only [Option.some.injEq,Prod.mk.injEq] at H
    obtain ⟨rfl,rfl,rfl⟩ := H
    go_enter Tryd.func43,Tryd.ntmps43
    go_wp2_with (first|((with_reducible refine gate_callee (f := 58) rfl ?_);refine goesL_ (some 13) rfl rfl Tryd.func58 (by kernel_rfl) rfl #[.pointer (some ⟨g,0,none⟩)] rfl (by (try simp only [List.map_toArray,List.map_cons,List.map_nil]);first|done|rfl) ?_;(with_reducible refine (spec_l1Byte.calls g s0_0 s0_1 s0_2 t196 t197 t198 w0 _ ?side1 ?side2 A5.out).mono ?_);(case side1 => repeat (first|(with_reducible first|exact HI0.out|apply IsS74.alloc|apply IsS74.drewN|apply IsS74.drew|apply IsS74.set_1|apply IsS74.set_2)|exact HI0.out));(case side2 => repeat (first|(with_reducible first|exact HB.out|apply bA|apply bN|apply bD|refine bS ?_ (IsS74.ge HI0.out))|exact HB.out));rintro e w7 ⟨rfl,hi,hb,hk⟩;refine ⟨_,rfl,?_⟩;have n0_ := mk0 (KeepBut.trans (by repeat (first|(with_reducible first|exact HK.out|apply KeepBut.set_|apply keep_drewN|apply keep_drew|apply keep_alloc)|exact HK.out)) hk (.inl rfl));have n1_ := mk0 (hb);have n2_ := mk0 (hi);clear HK;clear HB;clear HI0;have HK := n0_;have HB := n1_;have HI0 := n2_;clear n0_ n1_ n2_;(try clear hb);(try clear hb2);(try clear hk);(try clear hi)))
    go_ret
    exact ⟨by first|rfl|(simp [errW_none,errW_some] <;> rfl)|(simp [*,errW_none,errW_some] <;> rfl),by repeat (first|(with_reducible first|exact HI0.out|apply IsS74.alloc|apply IsS74.drewN|apply IsS74.drew|apply IsS74.set_1|apply IsS74.set_2)|exact HI0.out),by repeat (first|(with_reducible first|exact HB.out|apply bA|apply bN|apply bD|refine bS ?_ (IsS74.ge HI0.out))|exact HB.out),by repeat (first|(with_reducible first|exact HK.out|apply KeepBut.set_|apply keep_drewN|apply keep_drew|apply keep_alloc)|exact HK.out)⟩
  ·rw [if_neg c4] at H
   have c4b0 : decide (a1 ≤ 256) = false := decide_eq_false c4
   clear c4
   replace H := Option.bind_eq_some_iff.mp H
   obtain ⟨⟨t199,t200,t201⟩,A80,H⟩ := H
   replace H : ((spec_l1Byte.f s0_0 t200 t201).bind fun bt202 => ((spec_l1Byte.f s0_0 bt202.2.1 bt202.2.2).bind fun bt205 => (if a1 = 0 then (none) else (some (Int.tmod (wrap64 ((wrap64 ((wrap64 (t199 * 65536)) + (wrap64 (bt202.1 * 256)))) + bt205.1)) a1,bt205.2.1,bt205.2.2))))) = some (r1,r2,r3) := H
   have A8 := mk0 A80
   clear A80
   replace H := Option.bind_eq_some_iff.mp H
   obtain ⟨⟨t202,t203,t204⟩,A90,H⟩ := H
   replace H : ((spec_l1Byte.f s0_0 t203 t204).bind fun bt205 => (if a1 = 0 then (none) else (some (Int.tmod (wrap64 ((wrap64 ((wrap64 (t199 * 65536)) + (wrap64 (t202 * 256)))) + bt205.1)) a1,bt205.2.1,bt205.2.2)))) = some (r1,r2,r3) := H
   have A9 := mk0 A90
   clear A90
   replace H := Option.bind_eq_some_iff.mp H
   obtain ⟨⟨t205,t206,t207⟩,A100,H⟩ := H
   replace H : (if a1 = 0 then (none) else (some (Int.tmod (wrap64 ((wrap64 ((wrap64 (t199 * 65536)) + (wrap64 (t202 * 256)))) + t205)) a1,t206,t207))) = some (r1,r2,r3) := H
   have A10 := mk0 A100
   clear A100
   by_cases c11 : a1 = 0
   ·rw [if_pos c11] at H
    exact absurd H (by simp)
   ·rw [if_neg c11] at H
    have c11b0 : (a1 == 0) = false := beq_eq_false_iff_ne.mpr c11
    have c11b1 : (a1 != 0) = true := bne_iff_ne.mpr c11
    simp only [Option.some.injEq,Prod.mk.injEq] at H
    obtain ⟨rfl,rfl,rfl⟩ := H
    go_enter Tryd.func43,Tryd.ntmps43
    go_wp2_with (first|((with_reducible refine gate_callee (f := 58) rfl ?_);refine goesL_ (some 17) rfl rfl Tryd.func58 (by kernel_rfl) rfl #[.pointer (some ⟨g,0,none⟩)] rfl (by (try simp only [List.map_toArray,List.map_cons,List.map_nil]);first|done|rfl) ?_;(with_reducible refine (spec_l1Byte.calls g s0_0 s0_1 s0_2 t199 t200 t201 w0 _ ?side1 ?side2 A8.out).mono ?_);(case side1 => repeat (first|(with_reducible first|exact HI0.out|apply IsS74.alloc|apply IsS74.drewN|apply IsS74.drew|apply IsS74.set_1|apply IsS74.set_2)|exact HI0.out));(case side2 => repeat (first|(with_reducible first|exact HB.out|apply bA|apply bN|apply bD|refine bS ?_ (IsS74.ge HI0.out))|exact HB.out));rintro e w12 ⟨rfl,hi,hb,hk⟩;refine ⟨_,rfl,?_⟩;have n0_ := mk0 (KeepBut.trans (by repeat (first|(with_reducible first|exact HK.out|apply KeepBut.set_|apply keep_drewN|apply keep_drew|apply keep_alloc)|exact HK.out)) hk (.inl rfl));have n1_ := mk0 (hb);have n2_ := mk0 (hi);clear HK;clear HB;clear HI0;have HK := n0_;have HB := n1_;have HI0 := n2_;clear n0_ n1_ n2_;(try clear hb);(try clear hb2);(try clear hk);(try clear hi))|((with_reducible refine gate_callee (f := 58) rfl ?_);refine goesL_ (some 19) rfl rfl Tryd.func58 (by kernel_rfl) rfl #[.pointer (some ⟨g,0,none⟩)] rfl (by (try simp only [List.map_toArray,List.map_cons,List.map_nil]);first|done|rfl) ?_;(with_reducible refine (spec_l1Byte.calls g s0_0 t200 t201 t202 t203 t204 w0 _ ?side1 ?side2 A9.out).mono ?_);(case side1 => repeat (first|(with_reducible first|exact HI0.out|apply IsS74.alloc|apply IsS74.drewN|apply IsS74.drew|apply IsS74.set_1|apply IsS74.set_2)|exact HI0.out));(case side2 => repeat (first|(with_reducible first|exact HB.out|apply bA|apply bN|apply bD|refine bS ?_ (IsS74.ge HI0.out))|exact HB.out));rintro e w13 ⟨rfl,hi,hb,hk⟩;refine ⟨_,rfl,?_⟩;have n0_ := mk0 (KeepBut.trans (by repeat (first|(with_reducible first|exact HK.out|apply KeepBut.set_|apply keep_drewN|apply keep_drew|apply keep_alloc)|exact HK.out)) hk (.inl rfl));have n1_ := mk0 (hb);have n2_ := mk0 (hi);clear HK;clear HB;clear HI0;have HK := n0_;have HB := n1_;have HI0 := n2_;clear n0_ n1_ n2_;(try clear hb);(try clear hb2);(try clear hk);(try clear hi))|((with_reducible refine gate_callee (f := 58) rfl ?_);refine goesL_ (some 21) rfl rfl Tryd.func58 (by kernel_rfl) rfl #[.pointer (some ⟨g,0,none⟩)] rfl (by (try simp only [List.map_toArray,List.map_cons,List.map_nil]);first|done|rfl) ?_;(with_reducible refine (spec_l1Byte.calls g s0_0 t203 t204 t205 t206 t207 w0 _ ?side1 ?side2 A10.out).mono ?_);(case side1 => repeat (first|(with_reducible first|exact HI0.out|apply IsS74.alloc|apply IsS74.drewN|apply IsS74.drew|apply IsS74.set_1|apply IsS74.set_2)|exact HI0.out));(case side2 => repeat (first|(with_reducible first|exact HB.out|apply bA|apply bN|apply bD|refine bS ?_ (IsS74.ge HI0.out))|exact HB.out));rintro e w14 ⟨rfl,hi,hb,hk⟩;refine ⟨_,rfl,?_⟩;have n0_ := mk0 (KeepBut.trans (by repeat (first|(with_reducible first|exact HK.out|apply KeepBut.set_|apply keep_drewN|apply keep_drew|apply keep_alloc)|exact HK.out)) hk (.inl rfl));have n1_ := mk0 (hb);have n2_ := mk0 (hi);clear HK;clear HB;clear HI0;have HK := n0_;have HB := n1_;have HI0 := n2_;clear n0_ n1_ n2_;(try clear hb);(try clear hb2);(try clear hk);(try clear hi)))
    go_ret
    exact ⟨by first|rfl|(simp [errW_none,errW_some] <;> rfl)|(simp [*,errW_none,errW_some] <;> rfl),by repeat (first|(with_reducible first|exact HI0.out|apply IsS74.alloc|apply IsS74.drewN|apply IsS74.drew|apply IsS74.set_1|apply IsS74.set_2)|exact HI0.out),by repeat (first|(with_reducible first|exact HB.out|apply bA|apply bN|apply bD|refine bS ?_ (IsS74.ge HI0.out))|exact HB.out),by repeat (first|(with_reducible first|exact HK.out|apply KeepBut.set_|apply keep_drewN|apply keep_drew|apply keep_alloc)|exact HK.out)⟩

/-! ### spec_l1Once: function 41 -/
def spec_l1Once.f (s0_0 : List Int) (s0_1 : Int) (s0_2 : Int) (a1 : Int) : Option (Bool × Int × Int) := (spec_l1Below.f s0_0 s0_1 s0_2 a1).bind fun bt208 => (some ((bt208.1 == 0),bt208.2.1,bt208.2.2))
set_option maxHeartbeats 8000000 in
set_option maxRecDepth 100000 in
theorem spec_l1Once.calls (g : Nat) (s0_0 : List Int) (s0_1 : Int) (s0_2 : Int) (a1 : Int) (r1 : Bool) (r2 : Int) (r3 : Int) (w0 w : World) (hI : IsS74 w0 w g s0_0 s0_1 s0_2) (hB : Below w0.heap.size w0 w) (h : spec_l1Once.f s0_0 s0_1 s0_2 a1 = some (r1, r2, r3)) :
  Calls Tryd.prog 41 #[.pointer (some ⟨g, 0, none⟩), .int .i64 a1] w fun e w' => e = .returned (.bool r1) ∧ IsS74 w0 w' g s0_0 r2 r3 ∧ Below w0.heap.size w0 w' ∧ KeepBut w w' g none := by
 have HI0 := mk0 hI
 have HK := mk0 (KeepBut.refl w g none)
 have HL := mk0 hB.size
 clear hI
 have HW0 := mk0 hB.size
 have HB := mk0 hB
 clear hB
 have H : ((spec_l1Below.f s0_0 s0_1 s0_2 a1).bind fun bt208 => (some ((bt208.1 == 0),bt208.2.1,bt208.2.2))) = some (r1,r2,r3) := h
 clear h
 replace H := Option.bind_eq_some_iff.mp H
 obtain ⟨⟨t208,t209,t210⟩,A30,H⟩ := H
 replace H : (some ((t208 == 0),t209,t210)) = some (r1,r2,r3) := H
 have A3 := mk0 A30
 clear A30
 simp only [Option.some.injEq,Prod.mk.injEq] at H
 obtain ⟨rfl,rfl,rfl⟩ := H
 go_enter Tryd.func41,Tryd.ntmps41
 go_wp2_with (first|((with_reducible refine gate_callee (f := 43) rfl ?_);refine goesL_ (some 7) rfl rfl Tryd.func43 (by kernel_rfl) rfl #[.pointer (some ⟨g,0,none⟩),.int .i64 a1] rfl (by (try simp only [List.map_toArray,List.map_cons,List.map_nil]);first|done|rfl) ?_;(with_reducible refine (spec_l1Below.calls g s0_0 s0_1 s0_2 a1 t208 t209 t210 w0 _ ?side1 ?side2 A3.out).mono ?_);(case side1 => repeat (first|(with_reducible first|exact HI0.out|apply IsS74.alloc|apply IsS74.drewN|apply IsS74.drew|apply IsS74.set_1|apply IsS74.set_2)|exact HI0.out));(case side2 => repeat (first|(with_reducible first|exact HB.out|apply bA|apply bN|apply bD|refine bS ?_ (IsS74.ge HI0.out))|exact HB.out));rintro e w4 ⟨rfl,hi,hb,hk⟩;refine ⟨_,rfl,?_⟩;have n0_ := mk0 (KeepBut.trans (by repeat (first|(with_reducible first|exact HK.out|apply KeepBut.set_|apply keep_drewN|apply keep_drew|apply keep_alloc)|exact HK.out)) hk (.inl rfl));have n1_ := mk0 (hb);have n2_ := mk0 (hi);clear HK;clear HB;clear HI0;have HK := n0_;have HB := n1_;have HI0 := n2_;clear n0_ n1_ n2_;(try clear hb);(try clear hb2);(try clear hk);(try clear hi)))
 go_ret
 exact ⟨by first|rfl|(simp [errW_none,errW_some] <;> rfl)|(simp [*,errW_none,errW_some] <;> rfl),by repeat (first|(with_reducible first|exact HI0.out|apply IsS74.alloc|apply IsS74.drewN|apply IsS74.drew|apply IsS74.set_1|apply IsS74.set_2)|exact HI0.out),by repeat (first|(with_reducible first|exact HB.out|apply bA|apply bN|apply bD|refine bS ?_ (IsS74.ge HI0.out))|exact HB.out),by repeat (first|(with_reducible first|exact HK.out|apply KeepBut.set_|apply keep_drewN|apply keep_drew|apply keep_alloc)|exact HK.out)⟩

/-! ### spec_l1Str: function 42 -/
def spec_l1Str.f (s0_0 : List Int) (s0_1 : Int) (s0_2 : Int) (l1 : List ByteArray) : Option (ByteArray × Int × Int) := (spec_l1Below.f s0_0 s0_1 s0_2 (l1.length : Int)).bind fun bt211 => (if 0 ≤ bt211.1 then (if bt211.1 < (l1.length : Int) then (some (rdOf ByteArray.empty l1 bt211.1,bt211.2.1,bt211.2.2)) else (none)) else (none))
set_option maxHeartbeats 8000000 in
set_option maxRecDepth 100000 in
theorem spec_l1Str.calls (g : Nat) (s0_0 : List Int) (s0_1 : Int) (s0_2 : Int) (A1 : Option Addr) (c1 : Nat) (l1 : List ByteArray) (r1 : ByteArray) (r2 : Int) (r3 : Int) (w0 w : World) (hI : IsS74 w0 w g s0_0 s0_1 s0_2) (hB : Below w0.heap.size w0 w) (hr1 : Kd.C Kd.string w A1 l1.length l1) (hc1 : l1.length ≤ c1) (hf1 : ∀ ad, A1 = some ad → 0 < l1.length → ad.block ≠ g) (h : spec_l1Str.f s0_0 s0_1 s0_2 l1 = some (r1, r2, r3)) :
  Calls Tryd.prog 42 #[.pointer (some ⟨g, 0, none⟩), .slice A1 l1.length c1] w fun e w' => e = .returned (.string r1) ∧ IsS74 w0 w' g s0_0 r2 r3 ∧ Below w0.heap.size w0 w' ∧ KeepBut w w' g none := by
 have HR1 := mk0 hr1
 have HC1 := mk0 hc1
 clear hr1 hc1
 have HI0 := mk0 hI
 have HK := mk0 (KeepBut.refl w g none)
 have HL := mk0 hB.size
 clear hI
 have HW0 := mk0 hB.size
 have HB := mk0 hB
 clear hB
 have H : ((spec_l1Below.f s0_0 s0_1 s0_2 (l1.length : Int)).bind fun bt211 => (if 0 ≤ bt211.1 then (if bt211.1 < (l1.length : Int) then (some (rdOf ByteArray.empty l1 bt211.1,bt211.2.1,bt211.2.2)) else (none)) else (none))) = some (r1,r2,r3) := h
 clear h
 replace H := Option.bind_eq_some_iff.mp H
 obtain ⟨⟨t211,t212,t213⟩,A30,H⟩ := H
 replace H : (if 0 ≤ t211 then (if t211 < (l1.length : Int) then (some (rdOf ByteArray.empty l1 t211,t212,t213)) else (none)) else (none)) = some (r1,r2,r3) := H
 have A3 := mk0 A30
 clear A30
 by_cases c4 : 0 ≤ t211
 ·rw [if_pos c4] at H
  have c4b0 : decide (0 ≤ t211) = true := decide_eq_true c4
  clear c4
  by_cases c5 : t211 < (l1.length : Int)
  ·rw [if_pos c5] at H
   have c5b0 : decide (t211 < (l1.length : Int)) = true := decide_eq_true c5
   clear c5
   simp only [Option.some.injEq,Prod.mk.injEq] at H
   obtain ⟨rfl,rfl,rfl⟩ := H
   go_enter Tryd.func42,Tryd.ntmps42
   go_wp2_with (first|((with_reducible refine gate_callee (f := 43) rfl ?_);refine goesL_ (some 9) rfl rfl Tryd.func43 (by kernel_rfl) rfl #[.pointer (some ⟨g,0,none⟩),.int .i64 (l1.length : Int)] rfl (by (try simp only [List.map_toArray,List.map_cons,List.map_nil]);first|done|rfl) ?_;(with_reducible refine (spec_l1Below.calls g s0_0 s0_1 s0_2 (l1.length : Int) t211 t212 t213 w0 _ ?side1 ?side2 A3.out).mono ?_);(case side1 => repeat (first|(with_reducible first|exact HI0.out|apply IsS74.alloc|apply IsS74.drewN|apply IsS74.drew|apply IsS74.set_1|apply IsS74.set_2)|exact HI0.out));(case side2 => repeat (first|(with_reducible first|exact HB.out|apply bA|apply bN|apply bD|refine bS ?_ (IsS74.ge HI0.out))|exact HB.out));rintro e w6 ⟨rfl,hi,hb,hk⟩;refine ⟨_,rfl,?_⟩;have n0_ := mk0 (KeepBut.trans (by repeat (first|(with_reducible first|exact HK.out|apply KeepBut.set_|apply keep_drewN|apply keep_drew|apply keep_alloc)|exact HK.out)) hk (.inl rfl));have n1_ := mk0 (hb);have n2_ := mk0 (hi);clear HK;clear HB;clear HI0;have HK := n0_;have HB := n1_;have HI0 := n2_;clear n0_ n1_ n2_;(try clear hb);(try clear hb2);(try clear hk);(try clear hi);have p214 : 0 ≤ (t211 : Int) := of_decide_eq_true (by first|(with_reducible assumption)|assumption);have q214 : t211 < (l1.length : Int) := of_decide_eq_true (by first|(with_reducible assumption)|assumption);obtain ⟨ad214,e214,hx214_0⟩ := Kd.at_string HR1.out t211 p214 q214;cases e214;replace hx214_0 := keep_cell HK.out hx214_0 (by first|(rw [add_block];exact hf1 _ rfl (by omega))|exact hf1 _ rfl (by omega)|exact hf1 ad214 rfl (by omega));replace p214 := eq_true p214;replace q214 := eq_true q214))
   go_ret
   exact ⟨by first|rfl|(simp [errW_none,errW_some] <;> rfl)|(simp [*,errW_none,errW_some] <;> rfl),by repeat (first|(with_reducible first|exact HI0.out|apply IsS74.alloc|apply IsS74.drewN|apply IsS74.drew|apply IsS74.set_1|apply IsS74.set_2)|exact HI0.out),by repeat (first|(with_reducible first|exact HB.out|apply bA|apply bN|apply bD|refine bS ?_ (IsS74.ge HI0.out))|exact HB.out),by repeat (first|(with_reducible first|exact HK.out|apply KeepBut.set_|apply keep_drewN|apply keep_drew|apply keep_alloc)|exact HK.out)⟩
  ·rw [if_neg c5] at H
   exact absurd H (by simp)
 ·rw [if_neg c4] at H
  exact absurd H (by simp)

/-! ### spec_l2Text: function 48 -/
def spec_l2Text.l0 : Nat → ByteArray → Int → List Int → Int → Int → Option (ByteArray × Int × Int)
 |0,_,_,_,_,_ => none
 |k + 1,x3,x4,x1000,x1001,x1002 => if x4 > 0 then ((spec_l1Str.f x1000 x1001 x1002 (([(⟨#[97]⟩ : ByteArray),(⟨#[98]⟩ : ByteArray),(⟨#[105]⟩ : ByteArray),(⟨#[102,111,114]⟩ : ByteArray),(⟨#[116,111]⟩ : ByteArray),(⟨#[97,114,114,97,121]⟩ : ByteArray),(⟨#[112,114,105,110,116]⟩ : ByteArray),(⟨#[109,105,110]⟩ : ByteArray),(⟨#[109,97,120]⟩ : ByteArray),(⟨#[48]⟩ : ByteArray),(⟨#[55]⟩ : ByteArray),(⟨#[49,50]⟩ : ByteArray),(⟨#[59]⟩ : ByteArray),(⟨#[61]⟩ : ByteArray),(⟨#[91]⟩ : ByteArray),(⟨#[93]⟩ : ByteArray),(⟨#[40]⟩ : ByteArray),(⟨#[41]⟩ : ByteArray),(⟨#[123]⟩ : ByteArray),(⟨#[125]⟩ : ByteArray),(⟨#[43]⟩ : ByteArray),(⟨#[45]⟩ : ByteArray),(⟨#[42]⟩ : ByteArray),(⟨#[44]⟩ : ByteArray)] : List ByteArray))).bind fun bt221 => (if x3.size + bt221.1.size ≤ 9223372036854775807 then ((spec_l1Str.f x1000 bt221.2.1 bt221.2.2 (([(⟨#[32]⟩ : ByteArray),(⟨#[32]⟩ : ByteArray),(⟨#[10]⟩ : ByteArray),(⟨#[]⟩ : ByteArray)] : List ByteArray))).bind fun bt227 => (if (x3 ++ bt221.1).size + bt227.1.size ≤ 9223372036854775807 then (spec_l2Text.l0 k ((x3 ++ bt221.1) ++ bt227.1) (wrap64 (x4 - 1)) x1000 bt227.2.1 bt227.2.2) else (none))) else (none))) else (some (x3,x1001,x1002))
def spec_l2Text.f (k : Nat) (s0_0 : List Int) (s0_1 : Int) (s0_2 : Int) : Option (ByteArray × Int × Int) := (spec_l1Below.f s0_0 s0_1 s0_2 14).bind fun bt215 => (spec_l2Text.l0 k (⟨#[]⟩ : ByteArray) bt215.1 s0_0 bt215.2.1 bt215.2.2)
theorem spec_l2Text.mono_l : ∀ k, (∀ y0 y1 y2 y3 y4, LeO (spec_l2Text.l0 k y0 y1 y2 y3 y4) (spec_l2Text.l0 (k + 1) y0 y1 y2 y3 y4))
 | 0 => fun _ _ _ _ _ r h => by simp [spec_l2Text.l0] at h
 | k + 1 => by
  have ih0 := spec_l2Text.mono_l k
  ·intro y0 y1 y2 y3 y4
   unfold spec_l2Text.l0
   repeat' first
   | (with_reducible exact ih0 _ _ _ _ _)
   | (with_reducible exact LeO.refl _)
   | (with_reducible exact LeO.none _)
   | (with_reducible refine LeO.ite ?_ ?_)
   | (with_reducible refine LeO.bind ?_ (fun _ => ?_))
   | exact ih0 _ _ _ _ _
   | exact LeO.none _
   | refine LeO.ite ?_ ?_
   | refine LeO.bind ?_ (fun _ => ?_)
theorem spec_l2Text.mono : ∀ a0 a1 a2 k, LeO (spec_l2Text.f k a0 a1 a2) (spec_l2Text.f (k + 1) a0 a1 a2) := by
 intro a0 a1 a2 k
 have ih0 := spec_l2Text.mono_l k
 unfold spec_l2Text.f
 repeat' first
   | (with_reducible exact ih0 _ _ _ _ _)
   | (with_reducible exact LeO.refl _)
   | (with_reducible exact LeO.none _)
   | (with_reducible refine LeO.ite ?_ ?_)
   | (with_reducible refine LeO.bind ?_ (fun _ => ?_))
   | exact ih0 _ _ _ _ _
   | exact LeO.none _
   | refine LeO.ite ?_ ?_
   | refine LeO.bind ?_ (fun _ => ?_)
set_option maxHeartbeats 8000000 in
set_option maxRecDepth 100000 in
theorem spec_l2Text.calls (k : Nat) (g : Nat) (s0_0 : List Int) (s0_1 : Int) (s0_2 : Int) (r1 : ByteArray) (r2 : Int) (r3 : Int) (w0 w : World) (hI : IsS74 w0 w g s0_0 s0_1 s0_2) (hB : Below w0.heap.size w0 w) (h : spec_l2Text.f k s0_0 s0_1 s0_2 = some (r1, r2, r3)) :
  Calls Tryd.prog 48 #[.pointer (some ⟨g, 0, none⟩)] w fun e w' => e = .returned (.string r1) ∧ IsS74 w0 w' g s0_0 r2 r3 ∧ Below w0.heap.size w0 w' ∧ KeepBut w w' g none := by
 have HI0 := mk0 hI
 have HK := mk0 (KeepBut.refl w g none)
 have HL := mk0 hB.size
 clear hI
 have HW0 := mk0 hB.size
 have HB := mk0 hB
 clear hB
 have H : ((spec_l1Below.f s0_0 s0_1 s0_2 14).bind fun bt215 => (spec_l2Text.l0 k (⟨#[]⟩ : ByteArray) bt215.1 s0_0 bt215.2.1 bt215.2.2)) = some (r1,r2,r3) := h
 clear h
 replace H := Option.bind_eq_some_iff.mp H
 obtain ⟨⟨t215,t216,t217⟩,A20,H⟩ := H
 replace H : (spec_l2Text.l0 k (⟨#[]⟩ : ByteArray) t215 s0_0 t216 t217) = some (r1,r2,r3) := H
 have A2 := mk0 A20
 clear A20
 have H' := mk0 H
 clear H
 go_enter Tryd.func48,Tryd.ntmps48
 go_wp2_with (first|((with_reducible refine gate_callee (f := 43) rfl ?_);refine goesL_ (some 6) rfl rfl Tryd.func43 (by kernel_rfl) rfl #[.pointer (some ⟨g,0,none⟩),.int .i64 14] rfl (by (try simp only [List.map_toArray,List.map_cons,List.map_nil]);first|done|rfl) ?_;(with_reducible refine (spec_l1Below.calls g s0_0 s0_1 s0_2 14 t215 t216 t217 w0 _ ?side1 ?side2 A2.out).mono ?_);(case side1 => repeat (first|(with_reducible first|exact HI0.out|apply IsS74.alloc|apply IsS74.drewN|apply IsS74.drew|apply IsS74.set_1|apply IsS74.set_2)|exact HI0.out));(case side2 => repeat (first|(with_reducible first|exact HB.out|apply bA|apply bN|apply bD|refine bS ?_ (IsS74.ge HI0.out))|exact HB.out));rintro e w3 ⟨rfl,hi,hb,hk⟩;refine ⟨_,rfl,?_⟩;have n0_ := mk0 (KeepBut.trans (by repeat (first|(with_reducible first|exact HK.out|apply KeepBut.set_|apply keep_drewN|apply keep_drew|apply keep_alloc)|exact HK.out)) hk (.inl rfl));have n1_ := mk0 (hb);have n2_ := mk0 (hi);clear HK;clear HB;clear HI0;have HK := n0_;have HB := n1_;have HI0 := n2_;clear n0_ n1_ n2_;(try clear hb);(try clear hb2);(try clear hk);(try clear hi)))
 go_loopg [3,4] k (fun kq v3 v4 w' => ∃ (x3_1 : ByteArray) (x4_1 : Int) (x1001_1 : Int) (x1002_1 : Int),v3 = .string x3_1 ∧ v4 = .int .i64 x4_1 ∧ Aside0 (spec_l2Text.l0 kq x3_1 x4_1 s0_0 x1001_1 x1002_1 = some (r1,r2,r3)) ∧ Aside0 (kq ≤ k) ∧ Aside0 (IsS74 w0 w' g s0_0 x1001_1 x1002_1) ∧ Aside0 (KeepBut w w' g none) ∧ Aside0 (Below w0.heap.size w0 w'))
 case atStart => exact ⟨((⟨#[]⟩ : ByteArray)),(t215),(t216),(t217),(by first|rfl|(simp;done)|(simp [*];done)),(by first|rfl|(simp;done)|(simp [*];done)),H',⟨Nat.le_refl _⟩,⟨by repeat (first|(with_reducible first|exact HI0.out|apply IsS74.alloc|apply IsS74.drewN|apply IsS74.drew|apply IsS74.set_1|apply IsS74.set_2)|exact HI0.out)⟩,⟨by repeat (first|(with_reducible first|exact HK.out|apply KeepBut.set_|apply keep_drewN|apply keep_drew|apply keep_alloc)|exact HK.out)⟩,⟨by repeat (first|(with_reducible first|exact HB.out|apply bA|apply bN|apply bD|refine bS ?_ (IsS74.ge HI0.out))|exact HB.out)⟩⟩
 case round =>
  clear H'
  try clear p2
  obtain ⟨x3_1,x4_1,x1001_1,x1002_1,rfl,rfl,HA,HK1,HI0,HK,HB⟩ := hrel
  cases gk with
   |zero => exact absurd HA.out (by simp [spec_l2Text.l0])
   |succ k1 =>
   have H := HA.out
   clear HA
   simp only [spec_l2Text.l0] at H
   by_cases c4 : x4_1 > 0
   ·rw [if_pos c4] at H
    have c4b0 : decide (0 < x4_1) = true := decide_eq_true c4
    clear c4
    obtain ⟨y218,hy218⟩ : ∃ y_ : List ByteArray,y_ = (([(⟨#[97]⟩ : ByteArray),(⟨#[98]⟩ : ByteArray),(⟨#[105]⟩ : ByteArray),(⟨#[102,111,114]⟩ : ByteArray),(⟨#[116,111]⟩ : ByteArray),(⟨#[97,114,114,97,121]⟩ : ByteArray),(⟨#[112,114,105,110,116]⟩ : ByteArray),(⟨#[109,105,110]⟩ : ByteArray),(⟨#[109,97,120]⟩ : ByteArray),(⟨#[48]⟩ : ByteArray),(⟨#[55]⟩ : ByteArray),(⟨#[49,50]⟩ : ByteArray),(⟨#[59]⟩ : ByteArray),(⟨#[61]⟩ : ByteArray),(⟨#[91]⟩ : ByteArray),(⟨#[93]⟩ : ByteArray),(⟨#[40]⟩ : ByteArray),(⟨#[41]⟩ : ByteArray),(⟨#[123]⟩ : ByteArray),(⟨#[125]⟩ : ByteArray),(⟨#[43]⟩ : ByteArray),(⟨#[45]⟩ : ByteArray),(⟨#[42]⟩ : ByteArray),(⟨#[44]⟩ : ByteArray)] : List ByteArray)) := ⟨_,rfl⟩
    replace H : ((spec_l1Str.f s0_0 x1001_1 x1002_1 y218).bind fun bt221 => (if x3_1.size + bt221.1.size ≤ 9223372036854775807 then ((spec_l1Str.f s0_0 bt221.2.1 bt221.2.2 (([(⟨#[32]⟩ : ByteArray),(⟨#[32]⟩ : ByteArray),(⟨#[10]⟩ : ByteArray),(⟨#[]⟩ : ByteArray)] : List ByteArray))).bind fun bt227 => (if (x3_1 ++ bt221.1).size + bt227.1.size ≤ 9223372036854775807 then (spec_l2Text.l0 k1 ((x3_1 ++ bt221.1) ++ bt227.1) (wrap64 (x4_1 - 1)) s0_0 bt227.2.1 bt227.2.2) else (none))) else (none))) = some (r1,r2,r3) := by first|(rw [hy218];with_reducible exact H)|(have H2_ := (Option.bind_some _ _).symm.trans H;rw [hy218];with_reducible exact H2_)|(have H2_ := (Option.bind_some _ _).symm.trans H;with_reducible exact H2_)|with_reducible exact H|(rw [hy218];exact H)|exact H
    have Ny218 := mk0 hy218
    clear hy218
    replace H := Option.bind_eq_some_iff.mp H
    obtain ⟨⟨t221,t222,t223⟩,A50,H⟩ := H
    replace H : (if x3_1.size + t221.size ≤ 9223372036854775807 then ((spec_l1Str.f s0_0 t222 t223 (([(⟨#[32]⟩ : ByteArray),(⟨#[32]⟩ : ByteArray),(⟨#[10]⟩ : ByteArray),(⟨#[]⟩ : ByteArray)] : List ByteArray))).bind fun bt227 => (if (x3_1 ++ t221).size + bt227.1.size ≤ 9223372036854775807 then (spec_l2Text.l0 k1 ((x3_1 ++ t221) ++ bt227.1) (wrap64 (x4_1 - 1)) s0_0 bt227.2.1 bt227.2.2) else (none))) else (none)) = some (r1,r2,r3) := H
    have A5 := mk0 A50
    clear A50
    by_cases c6 : x3_1.size + t221.size ≤ 9223372036854775807
    ·rw [if_pos c6] at H
     have c6b0 := eq_true c6
     have c6b1 : decide (x3_1.size + t221.size ≤ 9223372036854775807) = true := decide_eq_true c6
     try have c6b2 : (9223372036854775807 < x3_1.size + t221.size) = False := eq_false (Nat.not_lt.2 c6)
     obtain ⟨y224,hy224⟩ : ∃ y_ : List ByteArray,y_ = (([(⟨#[32]⟩ : ByteArray),(⟨#[32]⟩ : ByteArray),(⟨#[10]⟩ : ByteArray),(⟨#[]⟩ : ByteArray)] : List ByteArray)) := ⟨_,rfl⟩
     replace H : ((spec_l1Str.f s0_0 t222 t223 y224).bind fun bt227 => (if (x3_1 ++ t221).size + bt227.1.size ≤ 9223372036854775807 then (spec_l2Text.l0 k1 ((x3_1 ++ t221) ++ bt227.1) (wrap64 (x4_1 - 1)) s0_0 bt227.2.1 bt227.2.2) else (none))) = some (r1,r2,r3) := by first|(rw [hy224];with_reducible exact H)|(have H2_ := (Option.bind_some _ _).symm.trans H;rw [hy224];with_reducible exact H2_)|(have H2_ := (Option.bind_some _ _).symm.trans H;with_reducible exact H2_)|with_reducible exact H|(rw [hy224];exact H)|exact H
     have Ny224 := mk0 hy224
     clear hy224
     replace H := Option.bind_eq_some_iff.mp H
     obtain ⟨⟨t227,t228,t229⟩,A70,H⟩ := H
     replace H : (if (x3_1 ++ t221).size + t227.size ≤ 9223372036854775807 then (spec_l2Text.l0 k1 ((x3_1 ++ t221) ++ t227) (wrap64 (x4_1 - 1)) s0_0 t228 t229) else (none)) = some (r1,r2,r3) := H
     have A7 := mk0 A70
     clear A70
     by_cases c8 : (x3_1 ++ t221).size + t227.size ≤ 9223372036854775807
     ·rw [if_pos c8] at H
      have c8b0 := eq_true c8
      have c8b1 : decide ((x3_1 ++ t221).size + t227.size ≤ 9223372036854775807) = true := decide_eq_true c8
      try have c8b2 : (9223372036854775807 < (x3_1 ++ t221).size + t227.size) = False := eq_false (Nat.not_lt.2 c8)
      try have c8b9 : (9223372036854775807 < x3_1.size + t221.size + t227.size) = False := eq_false (by have q_ := c8;simp only [ByteArray.size_append] at q_;omega)
      have H' := mk0 H
      clear H
      go_wp2_with (first|((with_reducible refine gate_dst (N := 13) rfl ?_);refine Kd.R_lit Kd.string _ 9 ?hg (N := 13) ?hd (xs := ([(⟨#[97]⟩ : ByteArray),(⟨#[98]⟩ : ByteArray),(⟨#[105]⟩ : ByteArray),(⟨#[102,111,114]⟩ : ByteArray),(⟨#[116,111]⟩ : ByteArray),(⟨#[97,114,114,97,121]⟩ : ByteArray),(⟨#[112,114,105,110,116]⟩ : ByteArray),(⟨#[109,105,110]⟩ : ByteArray),(⟨#[109,97,120]⟩ : ByteArray),(⟨#[48]⟩ : ByteArray),(⟨#[55]⟩ : ByteArray),(⟨#[49,50]⟩ : ByteArray),(⟨#[59]⟩ : ByteArray),(⟨#[61]⟩ : ByteArray),(⟨#[91]⟩ : ByteArray),(⟨#[93]⟩ : ByteArray),(⟨#[40]⟩ : ByteArray),(⟨#[41]⟩ : ByteArray),(⟨#[123]⟩ : ByteArray),(⟨#[125]⟩ : ByteArray),(⟨#[43]⟩ : ByteArray),(⟨#[45]⟩ : ByteArray),(⟨#[42]⟩ : ByteArray),(⟨#[44]⟩ : ByteArray)] : List ByteArray)) (inner := [.string (⟨#[97]⟩ : ByteArray),.string (⟨#[98]⟩ : ByteArray),.string (⟨#[105]⟩ : ByteArray),.string (⟨#[102,111,114]⟩ : ByteArray),.string (⟨#[116,111]⟩ : ByteArray),.string (⟨#[97,114,114,97,121]⟩ : ByteArray),.string (⟨#[112,114,105,110,116]⟩ : ByteArray),.string (⟨#[109,105,110]⟩ : ByteArray),.string (⟨#[109,97,120]⟩ : ByteArray),.string (⟨#[48]⟩ : ByteArray),.string (⟨#[55]⟩ : ByteArray),.string (⟨#[49,50]⟩ : ByteArray),.string (⟨#[59]⟩ : ByteArray),.string (⟨#[61]⟩ : ByteArray),.string (⟨#[91]⟩ : ByteArray),.string (⟨#[93]⟩ : ByteArray),.string (⟨#[40]⟩ : ByteArray),.string (⟨#[41]⟩ : ByteArray),.string (⟨#[123]⟩ : ByteArray),.string (⟨#[125]⟩ : ByteArray),.string (⟨#[43]⟩ : ByteArray),.string (⟨#[45]⟩ : ByteArray),.string (⟨#[42]⟩ : ByteArray),.string (⟨#[44]⟩ : ByteArray)]) (ok := fun _ => True) (okp := fun _ => True) ?hr ?hp (fun _ hk => hk) trivial (Below.refl _ _) (Nat.le_refl _) (by simp) ?_;(case hd => rfl);(case hg => rfl);(case hr => first|(go_simp;done)|(go_simp;rfl));(case hp => exact (Reps.one (show Kd.M Kd.string _ _ _ (⟨#[97]⟩ : ByteArray) [.string (⟨#[97]⟩ : ByteArray)] from rfl) (Reps.one (show Kd.M Kd.string _ _ _ (⟨#[98]⟩ : ByteArray) [.string (⟨#[98]⟩ : ByteArray)] from rfl) (Reps.one (show Kd.M Kd.string _ _ _ (⟨#[105]⟩ : ByteArray) [.string (⟨#[105]⟩ : ByteArray)] from rfl) (Reps.one (show Kd.M Kd.string _ _ _ (⟨#[102,111,114]⟩ : ByteArray) [.string (⟨#[102,111,114]⟩ : ByteArray)] from rfl) (Reps.one (show Kd.M Kd.string _ _ _ (⟨#[116,111]⟩ : ByteArray) [.string (⟨#[116,111]⟩ : ByteArray)] from rfl) (Reps.one (show Kd.M Kd.string _ _ _ (⟨#[97,114,114,97,121]⟩ : ByteArray) [.string (⟨#[97,114,114,97,121]⟩ : ByteArray)] from rfl) (Reps.one (show Kd.M Kd.string _ _ _ (⟨#[112,114,105,110,116]⟩ : ByteArray) [.string (⟨#[112,114,105,110,116]⟩ : ByteArray)] from rfl) (Reps.one (show Kd.M Kd.string _ _ _ (⟨#[109,105,110]⟩ : ByteArray) [.string (⟨#[109,105,110]⟩ : ByteArray)] from rfl) (Reps.one (show Kd.M Kd.string _ _ _ (⟨#[109,97,120]⟩ : ByteArray) [.string (⟨#[109,97,120]⟩ : ByteArray)] from rfl) (Reps.one (show Kd.M Kd.string _ _ _ (⟨#[48]⟩ : ByteArray) [.string (⟨#[48]⟩ : ByteArray)] from rfl) (Reps.one (show Kd.M Kd.string _ _ _ (⟨#[55]⟩ : ByteArray) [.string (⟨#[55]⟩ : ByteArray)] from rfl) (Reps.one (show Kd.M Kd.string _ _ _ (⟨#[49,50]⟩ : ByteArray) [.string (⟨#[49,50]⟩ : ByteArray)] from rfl) (Reps.one (show Kd.M Kd.string _ _ _ (⟨#[59]⟩ : ByteArray) [.string (⟨#[59]⟩ : ByteArray)] from rfl) (Reps.one (show Kd.M Kd.string _ _ _ (⟨#[61]⟩ : ByteArray) [.string (⟨#[61]⟩ : ByteArray)] from rfl) (Reps.one (show Kd.M Kd.string _ _ _ (⟨#[91]⟩ : ByteArray) [.string (⟨#[91]⟩ : ByteArray)] from rfl) (Reps.one (show Kd.M Kd.string _ _ _ (⟨#[93]⟩ : ByteArray) [.string (⟨#[93]⟩ : ByteArray)] from rfl) (Reps.one (show Kd.M Kd.string _ _ _ (⟨#[40]⟩ : ByteArray) [.string (⟨#[40]⟩ : ByteArray)] from rfl) (Reps.one (show Kd.M Kd.string _ _ _ (⟨#[41]⟩ : ByteArray) [.string (⟨#[41]⟩ : ByteArray)] from rfl) (Reps.one (show Kd.M Kd.string _ _ _ (⟨#[123]⟩ : ByteArray) [.string (⟨#[123]⟩ : ByteArray)] from rfl) (Reps.one (show Kd.M Kd.string _ _ _ (⟨#[125]⟩ : ByteArray) [.string (⟨#[125]⟩ : ByteArray)] from rfl) (Reps.one (show Kd.M Kd.string _ _ _ (⟨#[43]⟩ : ByteArray) [.string (⟨#[43]⟩ : ByteArray)] from rfl) (Reps.one (show Kd.M Kd.string _ _ _ (⟨#[45]⟩ : ByteArray) [.string (⟨#[45]⟩ : ByteArray)] from rfl) (Reps.one (show Kd.M Kd.string _ _ _ (⟨#[42]⟩ : ByteArray) [.string (⟨#[42]⟩ : ByteArray)] from rfl) (Reps.one (show Kd.M Kd.string _ _ _ (⟨#[44]⟩ : ByteArray) [.string (⟨#[44]⟩ : ByteArray)] from rfl) (Reps.none _ _))))))))))))))))))))))))));intro v219 w9 ho10 hb hg_ hnew_;clear hg_ hnew_;(first|rw [← Ny218.out] at ho10|(simp only [Int.reduceToNat] at ho10;rw [← Ny218.out] at ho10));have n0_ := mk0 (Kd.R_lower ho10 (keep_size (w := w) (g := g) (row := none) (by repeat (first|(with_reducible first|exact HK.out|apply KeepBut.set_|apply keep_drewN|apply keep_drew|apply keep_alloc)|exact HK.out))));have n1_ := mk0 (IsS74.below (by repeat (first|(with_reducible first|exact HI0.out|apply IsS74.alloc|apply IsS74.drewN|apply IsS74.drew|apply IsS74.set_1|apply IsS74.set_2)|exact HI0.out)) hb);have n2_ := mk0 (KeepBut.trans (by repeat (first|(with_reducible first|exact HK.out|apply KeepBut.set_|apply keep_drewN|apply keep_drew|apply keep_alloc)|exact HK.out)) (KeepBut.of_below hb g none) (.inl rfl));have n3_ := mk0 (below_step (by repeat (first|(with_reducible first|exact HB.out|apply bA|apply bN|apply bD|refine bS ?_ (IsS74.ge HI0.out))|exact HB.out)) hb);clear HI0;clear HK;clear HB;have HO220 := n0_;have HI0 := n1_;have HK := n2_;have HB := n3_;clear n0_ n1_ n2_ n3_;clear hb ho10;obtain ⟨Ao11,co11,eo11⟩ := Kd.R_slice HO220.out;subst eo11)|((with_reducible refine gate_callee (f := 42) rfl ?_);refine goesL_ (some 14) rfl rfl Tryd.func42 (by kernel_rfl) rfl #[.pointer (some ⟨g,0,none⟩),.slice Ao11 y218.length co11] rfl (by (try simp only [List.map_toArray,List.map_cons,List.map_nil]);first|done|rfl) ?_;(with_reducible refine (spec_l1Str.calls g s0_0 x1001_1 x1002_1 _ _ y218 t221 t222 t223 w0 _ ?side1 ?side2 ?side3 ?side4 ?side5 A5.out).mono ?_);(case side1 => repeat (first|(with_reducible first|exact HI0.out|apply IsS74.alloc|apply IsS74.drewN|apply IsS74.drew|apply IsS74.set_1|apply IsS74.set_2)|exact HI0.out));(case side2 => repeat (first|(with_reducible first|exact HB.out|apply bA|apply bN|apply bD|refine bS ?_ (IsS74.ge HI0.out))|exact HB.out));(case side3 => repeat (first|exact (Kd.R_reads' HO220.out).2.2|(with_reducible refine cA ?_ _)|(with_reducible refine cN ?_ _)|(with_reducible refine cD ?_)));(case side4 => exact (Kd.R_reads' HO220.out).2.1);(case side5 => exact far_slice (IsS74.own_ne HI0.out HO220.out (by decide)));rintro e w12 ⟨rfl,hi,hb,hk⟩;refine ⟨_,rfl,?_⟩;have n0_ := mk0 (Kd.R_mono (Kd.R_keep (IsS74.apart (show IsS74 w0 _ g s0_0 x1001_1 x1002_1 from by repeat (first|(with_reducible first|exact HI0.out|apply IsS74.alloc|apply IsS74.drewN|apply IsS74.drew|apply IsS74.set_1|apply IsS74.set_2)|exact HI0.out)) (by exact rX HO220.out) (by decide)) hk (fun _ h => h.2)) (fun _ h => h.1));have n1_ := mk0 (KeepBut.trans (by repeat (first|(with_reducible first|exact HK.out|apply KeepBut.set_|apply keep_drewN|apply keep_drew|apply keep_alloc)|exact HK.out)) hk (.inl rfl));have n2_ := mk0 (hb);have n3_ := mk0 (hi);clear HO220;clear HK;clear HB;clear HI0;have HO220 := n0_;have HK := n1_;have HB := n2_;have HI0 := n3_;clear n0_ n1_ n2_ n3_;(try clear hb);(try clear hb2);(try clear hk);(try clear hi))|((with_reducible refine gate_dst (N := 17) rfl ?_);refine Kd.R_lit Kd.string _ 9 ?hg (N := 17) ?hd (xs := ([(⟨#[32]⟩ : ByteArray),(⟨#[32]⟩ : ByteArray),(⟨#[10]⟩ : ByteArray),(⟨#[]⟩ : ByteArray)] : List ByteArray)) (inner := [.string (⟨#[32]⟩ : ByteArray),.string (⟨#[32]⟩ : ByteArray),.string (⟨#[10]⟩ : ByteArray),.string (⟨#[]⟩ : ByteArray)]) (ok := fun _ => True) (okp := fun _ => True) ?hr ?hp (fun _ hk => hk) trivial (Below.refl _ _) (Nat.le_refl _) (by simp) ?_;(case hd => rfl);(case hg => rfl);(case hr => first|(go_simp;done)|(go_simp;rfl));(case hp => exact (Reps.one (show Kd.M Kd.string _ _ _ (⟨#[32]⟩ : ByteArray) [.string (⟨#[32]⟩ : ByteArray)] from rfl) (Reps.one (show Kd.M Kd.string _ _ _ (⟨#[32]⟩ : ByteArray) [.string (⟨#[32]⟩ : ByteArray)] from rfl) (Reps.one (show Kd.M Kd.string _ _ _ (⟨#[10]⟩ : ByteArray) [.string (⟨#[10]⟩ : ByteArray)] from rfl) (Reps.one (show Kd.M Kd.string _ _ _ (⟨#[]⟩ : ByteArray) [.string (⟨#[]⟩ : ByteArray)] from rfl) (Reps.none _ _))))));intro v225 w13 ho14 hb hg_ hnew_;clear hg_ hnew_;(first|rw [← Ny224.out] at ho14|(simp only [Int.reduceToNat] at ho14;rw [← Ny224.out] at ho14));have n0_ := mk0 (Kd.R_elder' (by exact rX HO220.out) (Kd.R_base ho14) hb);have n1_ := mk0 (Kd.R_lower (Kd.R_new' ho14 (Kd.R_lt (by exact rX HO220.out))) (keep_size (w := w) (g := g) (row := none) (by repeat (first|(with_reducible first|exact HK.out|apply KeepBut.set_|apply keep_drewN|apply keep_drew|apply keep_alloc)|exact HK.out))));have n2_ := mk0 (IsS74.below (by repeat (first|(with_reducible first|exact HI0.out|apply IsS74.alloc|apply IsS74.drewN|apply IsS74.drew|apply IsS74.set_1|apply IsS74.set_2)|exact HI0.out)) hb);have n3_ := mk0 (KeepBut.trans (by repeat (first|(with_reducible first|exact HK.out|apply KeepBut.set_|apply keep_drewN|apply keep_drew|apply keep_alloc)|exact HK.out)) (KeepBut.of_below hb g none) (.inl rfl));have n4_ := mk0 (below_step (by repeat (first|(with_reducible first|exact HB.out|apply bA|apply bN|apply bD|refine bS ?_ (IsS74.ge HI0.out))|exact HB.out)) hb);clear HO220;clear HI0;clear HK;clear HB;have HO220 := n0_;have HO226 := n1_;have HI0 := n2_;have HK := n3_;have HB := n4_;clear n0_ n1_ n2_ n3_ n4_;clear hb ho14;obtain ⟨Ao15,co15,eo15⟩ := Kd.R_slice HO226.out;subst eo15)|((with_reducible refine gate_callee (f := 42) rfl ?_);refine goesL_ (some 18) rfl rfl Tryd.func42 (by kernel_rfl) rfl #[.pointer (some ⟨g,0,none⟩),.slice Ao15 y224.length co15] rfl (by (try simp only [List.map_toArray,List.map_cons,List.map_nil]);first|done|rfl) ?_;(with_reducible refine (spec_l1Str.calls g s0_0 t222 t223 _ _ y224 t227 t228 t229 w0 _ ?side1 ?side2 ?side3 ?side4 ?side5 A7.out).mono ?_);(case side1 => repeat (first|(with_reducible first|exact HI0.out|apply IsS74.alloc|apply IsS74.drewN|apply IsS74.drew|apply IsS74.set_1|apply IsS74.set_2)|exact HI0.out));(case side2 => repeat (first|(with_reducible first|exact HB.out|apply bA|apply bN|apply bD|refine bS ?_ (IsS74.ge HI0.out))|exact HB.out));(case side3 => repeat (first|exact (Kd.R_reads' HO226.out).2.2|(with_reducible refine cA ?_ _)|(with_reducible refine cN ?_ _)|(with_reducible refine cD ?_)));(case side4 => exact (Kd.R_reads' HO226.out).2.1);(case side5 => exact far_slice (IsS74.own_ne HI0.out HO226.out (by decide)));rintro e w16 ⟨rfl,hi,hb,hk⟩;refine ⟨_,rfl,?_⟩;have n0_ := mk0 (Kd.R_mono (Kd.R_keep (IsS74.apart (show IsS74 w0 _ g s0_0 t222 t223 from by repeat (first|(with_reducible first|exact HI0.out|apply IsS74.alloc|apply IsS74.drewN|apply IsS74.drew|apply IsS74.set_1|apply IsS74.set_2)|exact HI0.out)) (by exact rX HO220.out) (by decide)) hk (fun _ h => h.2)) (fun _ h => h.1));have n1_ := mk0 (Kd.R_mono (Kd.R_keep (IsS74.apart (show IsS74 w0 _ g s0_0 t222 t223 from by repeat (first|(with_reducible first|exact HI0.out|apply IsS74.alloc|apply IsS74.drewN|apply IsS74.drew|apply IsS74.set_1|apply IsS74.set_2)|exact HI0.out)) (by exact rX HO226.out) (by decide)) hk (fun _ h => h.2)) (fun _ h => h.1));have n2_ := mk0 (KeepBut.trans (by repeat (first|(with_reducible first|exact HK.out|apply KeepBut.set_|apply keep_drewN|apply keep_drew|apply keep_alloc)|exact HK.out)) hk (.inl rfl));have n3_ := mk0 (hb);have n4_ := mk0 (hi);clear HO220;clear HO226;clear HK;clear HB;clear HI0;have HO220 := n0_;have HO226 := n1_;have HK := n2_;have HB := n3_;have HI0 := n4_;clear n0_ n1_ n2_ n3_ n4_;(try clear hb);(try clear hb2);(try clear hk);(try clear hi)))
      go_roundg k1
      case measure => have := HK1.out;omega
      case rel => exact ⟨((x3_1 ++ t221) ++ t227),(wrap64 (x4_1 - 1)),(t228),(t229),(by first|rfl|(simp;done)|(simp [*];done)),(by first|rfl|(simp;done)|(simp [*];done)),H',⟨by have := HK1.out;omega⟩,⟨by repeat (first|(with_reducible first|exact HI0.out|apply IsS74.alloc|apply IsS74.drewN|apply IsS74.drew|apply IsS74.set_1|apply IsS74.set_2)|exact HI0.out)⟩,⟨by repeat (first|(with_reducible first|exact HK.out|apply KeepBut.set_|apply keep_drewN|apply keep_drew|apply keep_alloc)|exact HK.out)⟩,⟨by repeat (first|(with_reducible first|exact HB.out|apply bA|apply bN|apply bD|refine bS ?_ (IsS74.ge HI0.out))|exact HB.out)⟩⟩
     ·rw [if_neg c8] at H
      exact absurd H (by simp)
    ·rw [if_neg c6] at H
     exact absurd H (by simp)
   ·rw [if_neg c4] at H
    have c4b0 : decide (0 < x4_1) = false := decide_eq_false c4
    clear c4
    simp only [Option.some.injEq,Prod.mk.injEq] at H
    obtain ⟨rfl,rfl,rfl⟩ := H
    go_wp2
    go_ret
    exact ⟨by first|rfl|(simp [errW_none,errW_some] <;> rfl)|(simp [*,errW_none,errW_some] <;> rfl),by repeat (first|(with_reducible first|exact HI0.out|apply IsS74.alloc|apply IsS74.drewN|apply IsS74.drew|apply IsS74.set_1|apply IsS74.set_2)|exact HI0.out),by repeat (first|(with_reducible first|exact HB.out|apply bA|apply bN|apply bD|refine bS ?_ (IsS74.ge HI0.out))|exact HB.out),by repeat (first|(with_reducible first|exact HK.out|apply KeepBut.set_|apply keep_drewN|apply keep_drew|apply keep_alloc)|exact HK.out)⟩

/-! ### spec_l2Prog: function 49 -/
def spec_l2Prog.f (s0_0 : List Int) (s0_1 : Int) (s0_2 : Int) : Option (ByteArray × Int × Int) := (spec_l1Str.f s0_0 s0_1 s0_2 (([(⟨#[97,114,114,97,121,32,97,32,56,59,10,102,111,114,32,105,32,61,32,48,32,116,111,32,55,32,123,10,32,32,97,91,105,93,32,61,32,105,32,42,32,50,59,10,125,10,112,114,105,110,116,32,97,91,51,93,59,10]⟩ : ByteArray),(⟨#[97,114,114,97,121,32,97,32,56,59,10,97,114,114,97,121,32,98,32,56,59,10,102,111,114,32,105,32,61,32,48,32,116,111,32,55,32,123,10,32,32,97,91,105,93,32,61,32,105,59,10,125,10,102,111,114,32,105,32,61,32,49,32,116,111,32,55,32,123,10,32,32,98,91,105,93,32,61,32,97,91,105,32,45,32,49,93,32,43,32,97,91,105,93,59,10,125,10]⟩ : ByteArray),(⟨#[97,114,114,97,121,32,97,32,56,59,10,97,91,48,93,32,61,32,49,59,10,102,111,114,32,105,32,61,32,49,32,116,111,32,55,32,123,10,32,32,97,91,105,93,32,61,32,97,91,105,32,45,32,49,93,32,43,32,105,59,10,125,10,112,114,105,110,116,32,97,91,55,93,59,10]⟩ : ByteArray),(⟨#[97,114,114,97,121,32,97,32,56,59,10,102,111,114,32,105,32,61,32,48,32,116,111,32,55,32,123,10,32,32,97,91,105,93,32,61,32,105,32,42,32,105,59,10,125,10,115,32,61,32,53,59,10,102,111,114,32,105,32,61,32,48,32,116,111,32,55,32,123,10,32,32,115,32,61,32,115,32,43,32,97,91,105,93,59,10,125,10,112,114,105,110,116,32,115,59,10]⟩ : ByteArray),(⟨#[97,114,114,97,121,32,97,32,57,59,10,102,111,114,32,105,32,61,32,48,32,116,111,32,56,32,123,10,32,32,116,32,61,32,105,32,42,32,51,59,10,32,32,97,91,105,93,32,61,32,116,32,43,32,49,59,10,125,10,112,114,105,110,116,32,116,59,10]⟩ : ByteArray),(⟨#[97,114,114,97,121,32,97,32,57,59,10,102,111,114,32,105,32,61,32,48,32,116,111,32,50,32,123,10,32,32,102,111,114,32,106,32,61,32,48,32,116,111,32,50,32,123,10,32,32,32,32,97,91,105,32,42,32,51,32,43,32,106,93,32,61,32,105,32,45,32,106,59,10,32,32,125,10,125,10]⟩ : ByteArray),(⟨#[97,114,114,97,121,32,97,32,56,59,10,102,111,114,32,105,32,61,32,50,32,116,111,32,55,32,123,10,32,32,97,91,105,93,32,61,32,97,91,105,32,45,32,50,93,32,43,32,49,59,10,125,10]⟩ : ByteArray),(⟨#[97,114,114,97,121,32,97,32,56,59,10,109,32,61,32,57,57,59,10,102,111,114,32,105,32,61,32,48,32,116,111,32,55,32,123,10,32,32,109,32,61,32,109,105,110,40,109,44,32,97,91,105,93,32,45,32,105,41,59,10,125,10,112,114,105,110,116,32,109,59,10]⟩ : ByteArray),(⟨#[97,114,114,97,121,32,97,32,56,59,10,102,111,114,32,105,32,61,32,48,32,116,111,32,56,32,123,10,32,32,97,91,105,93,32,61,32,49,59,10,125,10]⟩ : ByteArray),(⟨#[97,114,114,97,121,32,97,32,56,59,10,102,111,114,32,105,32,61,32,48,32,116,111,32,51,32,123,10,32,32,97,91,105,93,32,61,32,97,91,105,32,43,32,52,93,32,43,32,49,59,10,125,10]⟩ : ByteArray),(⟨#[97,114,114,97,121,32,97,32,56,59,10,102,111,114,32,105,32,61,32,48,32,116,111,32,55,32,123,10,32,32,97,91,97,91,105,93,93,32,61,32,105,59,10,125,10]⟩ : ByteArray),(⟨#[120,32,61,32,51,59,10,102,111,114,32,105,32,61,32,48,32,116,111,32,120,32,123,10,32,32,121,32,61,32,121,32,42,32,50,32,43,32,105,59,10,125,10,112,114,105,110,116,32,121,32,45,32,120,59,10]⟩ : ByteArray)] : List ByteArray))).bind fun bt233 => (some (bt233.1,bt233.2.1,bt233.2.2))
set_option maxHeartbeats 8000000 in
set_option maxRecDepth 100000 in
theorem spec_l2Prog.calls (g : Nat) (s0_0 : List Int) (s0_1 : Int) (s0_2 : Int) (r1 : ByteArray) (r2 : Int) (r3 : Int) (w0 w : World) (hI : IsS74 w0 w g s0_0 s0_1 s0_2) (hB : Below w0.heap.size w0 w) (h : spec_l2Prog.f s0_0 s0_1 s0_2 = some (r1, r2, r3)) :
  Calls Tryd.prog 49 #[.pointer (some ⟨g, 0, none⟩)] w fun e w' => e = .returned (.string r1) ∧ IsS74 w0 w' g s0_0 r2 r3 ∧ Below w0.heap.size w0 w' ∧ KeepBut w w' g none := by
 have HI0 := mk0 hI
 have HK := mk0 (KeepBut.refl w g none)
 have HL := mk0 hB.size
 clear hI
 have HW0 := mk0 hB.size
 have HB := mk0 hB
 clear hB
 have H : ((spec_l1Str.f s0_0 s0_1 s0_2 (([(⟨#[97,114,114,97,121,32,97,32,56,59,10,102,111,114,32,105,32,61,32,48,32,116,111,32,55,32,123,10,32,32,97,91,105,93,32,61,32,105,32,42,32,50,59,10,125,10,112,114,105,110,116,32,97,91,51,93,59,10]⟩ : ByteArray),(⟨#[97,114,114,97,121,32,97,32,56,59,10,97,114,114,97,121,32,98,32,56,59,10,102,111,114,32,105,32,61,32,48,32,116,111,32,55,32,123,10,32,32,97,91,105,93,32,61,32,105,59,10,125,10,102,111,114,32,105,32,61,32,49,32,116,111,32,55,32,123,10,32,32,98,91,105,93,32,61,32,97,91,105,32,45,32,49,93,32,43,32,97,91,105,93,59,10,125,10]⟩ : ByteArray),(⟨#[97,114,114,97,121,32,97,32,56,59,10,97,91,48,93,32,61,32,49,59,10,102,111,114,32,105,32,61,32,49,32,116,111,32,55,32,123,10,32,32,97,91,105,93,32,61,32,97,91,105,32,45,32,49,93,32,43,32,105,59,10,125,10,112,114,105,110,116,32,97,91,55,93,59,10]⟩ : ByteArray),(⟨#[97,114,114,97,121,32,97,32,56,59,10,102,111,114,32,105,32,61,32,48,32,116,111,32,55,32,123,10,32,32,97,91,105,93,32,61,32,105,32,42,32,105,59,10,125,10,115,32,61,32,53,59,10,102,111,114,32,105,32,61,32,48,32,116,111,32,55,32,123,10,32,32,115,32,61,32,115,32,43,32,97,91,105,93,59,10,125,10,112,114,105,110,116,32,115,59,10]⟩ : ByteArray),(⟨#[97,114,114,97,121,32,97,32,57,59,10,102,111,114,32,105,32,61,32,48,32,116,111,32,56,32,123,10,32,32,116,32,61,32,105,32,42,32,51,59,10,32,32,97,91,105,93,32,61,32,116,32,43,32,49,59,10,125,10,112,114,105,110,116,32,116,59,10]⟩ : ByteArray),(⟨#[97,114,114,97,121,32,97,32,57,59,10,102,111,114,32,105,32,61,32,48,32,116,111,32,50,32,123,10,32,32,102,111,114,32,106,32,61,32,48,32,116,111,32,50,32,123,10,32,32,32,32,97,91,105,32,42,32,51,32,43,32,106,93,32,61,32,105,32,45,32,106,59,10,32,32,125,10,125,10]⟩ : ByteArray),(⟨#[97,114,114,97,121,32,97,32,56,59,10,102,111,114,32,105,32,61,32,50,32,116,111,32,55,32,123,10,32,32,97,91,105,93,32,61,32,97,91,105,32,45,32,50,93,32,43,32,49,59,10,125,10]⟩ : ByteArray),(⟨#[97,114,114,97,121,32,97,32,56,59,10,109,32,61,32,57,57,59,10,102,111,114,32,105,32,61,32,48,32,116,111,32,55,32,123,10,32,32,109,32,61,32,109,105,110,40,109,44,32,97,91,105,93,32,45,32,105,41,59,10,125,10,112,114,105,110,116,32,109,59,10]⟩ : ByteArray),(⟨#[97,114,114,97,121,32,97,32,56,59,10,102,111,114,32,105,32,61,32,48,32,116,111,32,56,32,123,10,32,32,97,91,105,93,32,61,32,49,59,10,125,10]⟩ : ByteArray),(⟨#[97,114,114,97,121,32,97,32,56,59,10,102,111,114,32,105,32,61,32,48,32,116,111,32,51,32,123,10,32,32,97,91,105,93,32,61,32,97,91,105,32,43,32,52,93,32,43,32,49,59,10,125,10]⟩ : ByteArray),(⟨#[97,114,114,97,121,32,97,32,56,59,10,102,111,114,32,105,32,61,32,48,32,116,111,32,55,32,123,10,32,32,97,91,97,91,105,93,93,32,61,32,105,59,10,125,10]⟩ : ByteArray),(⟨#[120,32,61,32,51,59,10,102,111,114,32,105,32,61,32,48,32,116,111,32,120,32,123,10,32,32,121,32,61,32,121,32,42,32,50,32,43,32,105,59,10,125,10,112,114,105,110,116,32,121,32,45,32,120,59,10]⟩ : ByteArray)] : List ByteArray))).bind fun bt233 => (some (bt233.1,bt233.2.1,bt233.2.2))) = some (r1,r2,r3) := h
 clear h
 obtain ⟨y230,hy230⟩ : ∃ y_ : List ByteArray,y_ = (([(⟨#[97,114,114,97,121,32,97,32,56,59,10,102,111,114,32,105,32,61,32,48,32,116,111,32,55,32,123,10,32,32,97,91,105,93,32,61,32,105,32,42,32,50,59,10,125,10,112,114,105,110,116,32,97,91,51,93,59,10]⟩ : ByteArray),(⟨#[97,114,114,97,121,32,97,32,56,59,10,97,114,114,97,121,32,98,32,56,59,10,102,111,114,32,105,32,61,32,48,32,116,111,32,55,32,123,10,32,32,97,91,105,93,32,61,32,105,59,10,125,10,102,111,114,32,105,32,61,32,49,32,116,111,32,55,32,123,10,32,32,98,91,105,93,32,61,32,97,91,105,32,45,32,49,93,32,43,32,97,91,105,93,59,10,125,10]⟩ : ByteArray),(⟨#[97,114,114,97,121,32,97,32,56,59,10,97,91,48,93,32,61,32,49,59,10,102,111,114,32,105,32,61,32,49,32,116,111,32,55,32,123,10,32,32,97,91,105,93,32,61,32,97,91,105,32,45,32,49,93,32,43,32,105,59,10,125,10,112,114,105,110,116,32,97,91,55,93,59,10]⟩ : ByteArray),(⟨#[97,114,114,97,121,32,97,32,56,59,10,102,111,114,32,105,32,61,32,48,32,116,111,32,55,32,123,10,32,32,97,91,105,93,32,61,32,105,32,42,32,105,59,10,125,10,115,32,61,32,53,59,10,102,111,114,32,105,32,61,32,48,32,116,111,32,55,32,123,10,32,32,115,32,61,32,115,32,43,32,97,91,105,93,59,10,125,10,112,114,105,110,116,32,115,59,10]⟩ : ByteArray),(⟨#[97,114,114,97,121,32,97,32,57,59,10,102,111,114,32,105,32,61,32,48,32,116,111,32,56,32,123,10,32,32,116,32,61,32,105,32,42,32,51,59,10,32,32,97,91,105,93,32,61,32,116,32,43,32,49,59,10,125,10,112,114,105,110,116,32,116,59,10]⟩ : ByteArray),(⟨#[97,114,114,97,121,32,97,32,57,59,10,102,111,114,32,105,32,61,32,48,32,116,111,32,50,32,123,10,32,32,102,111,114,32,106,32,61,32,48,32,116,111,32,50,32,123,10,32,32,32,32,97,91,105,32,42,32,51,32,43,32,106,93,32,61,32,105,32,45,32,106,59,10,32,32,125,10,125,10]⟩ : ByteArray),(⟨#[97,114,114,97,121,32,97,32,56,59,10,102,111,114,32,105,32,61,32,50,32,116,111,32,55,32,123,10,32,32,97,91,105,93,32,61,32,97,91,105,32,45,32,50,93,32,43,32,49,59,10,125,10]⟩ : ByteArray),(⟨#[97,114,114,97,121,32,97,32,56,59,10,109,32,61,32,57,57,59,10,102,111,114,32,105,32,61,32,48,32,116,111,32,55,32,123,10,32,32,109,32,61,32,109,105,110,40,109,44,32,97,91,105,93,32,45,32,105,41,59,10,125,10,112,114,105,110,116,32,109,59,10]⟩ : ByteArray),(⟨#[97,114,114,97,121,32,97,32,56,59,10,102,111,114,32,105,32,61,32,48,32,116,111,32,56,32,123,10,32,32,97,91,105,93,32,61,32,49,59,10,125,10]⟩ : ByteArray),(⟨#[97,114,114,97,121,32,97,32,56,59,10,102,111,114,32,105,32,61,32,48,32,116,111,32,51,32,123,10,32,32,97,91,105,93,32,61,32,97,91,105,32,43,32,52,93,32,43,32,49,59,10,125,10]⟩ : ByteArray),(⟨#[97,114,114,97,121,32,97,32,56,59,10,102,111,114,32,105,32,61,32,48,32,116,111,32,55,32,123,10,32,32,97,91,97,91,105,93,93,32,61,32,105,59,10,125,10]⟩ : ByteArray),(⟨#[120,32,61,32,51,59,10,102,111,114,32,105,32,61,32,48,32,116,111,32,120,32,123,10,32,32,121,32,61,32,121,32,42,32,50,32,43,32,105,59,10,125,10,112,114,105,110,116,32,121,32,45,32,120,59,10]⟩ : ByteArray)] : List ByteArray)) := ⟨_,rfl⟩
 replace H : ((spec_l1Str.f s0_0 s0_1 s0_2 y230).bind fun bt233 => (some (bt233.1,bt233.2.1,bt233.2.2))) = some (r1,r2,r3) := by first|(rw [hy230];with_reducible exact H)|(have H2_ := (Option.bind_some _ _).symm.trans H;rw [hy230];with_reducible exact H2_)|(have H2_ := (Option.bind_some _ _).symm.trans H;with_reducible exact H2_)|with_reducible exact H|(rw [hy230];exact H)|exact H
 have Ny230 := mk0 hy230
 clear hy230
 replace H := Option.bind_eq_some_iff.mp H
 obtain ⟨⟨t233,t234,t235⟩,A20,H⟩ := H
 replace H : (some (t233,t234,t235)) = some (r1,r2,r3) := H
 have A2 := mk0 A20
 clear A20
 simp only [Option.some.injEq,Prod.mk.injEq] at H
 obtain ⟨rfl,rfl,rfl⟩ := H
 go_enter Tryd.func49,Tryd.ntmps49
 go_wp2_with (first|((with_reducible refine gate_dst (N := 4) rfl ?_);refine Kd.R_lit Kd.string _ 9 ?hg (N := 4) ?hd (xs := ([(⟨#[97,114,114,97,121,32,97,32,56,59,10,102,111,114,32,105,32,61,32,48,32,116,111,32,55,32,123,10,32,32,97,91,105,93,32,61,32,105,32,42,32,50,59,10,125,10,112,114,105,110,116,32,97,91,51,93,59,10]⟩ : ByteArray),(⟨#[97,114,114,97,121,32,97,32,56,59,10,97,114,114,97,121,32,98,32,56,59,10,102,111,114,32,105,32,61,32,48,32,116,111,32,55,32,123,10,32,32,97,91,105,93,32,61,32,105,59,10,125,10,102,111,114,32,105,32,61,32,49,32,116,111,32,55,32,123,10,32,32,98,91,105,93,32,61,32,97,91,105,32,45,32,49,93,32,43,32,97,91,105,93,59,10,125,10]⟩ : ByteArray),(⟨#[97,114,114,97,121,32,97,32,56,59,10,97,91,48,93,32,61,32,49,59,10,102,111,114,32,105,32,61,32,49,32,116,111,32,55,32,123,10,32,32,97,91,105,93,32,61,32,97,91,105,32,45,32,49,93,32,43,32,105,59,10,125,10,112,114,105,110,116,32,97,91,55,93,59,10]⟩ : ByteArray),(⟨#[97,114,114,97,121,32,97,32,56,59,10,102,111,114,32,105,32,61,32,48,32,116,111,32,55,32,123,10,32,32,97,91,105,93,32,61,32,105,32,42,32,105,59,10,125,10,115,32,61,32,53,59,10,102,111,114,32,105,32,61,32,48,32,116,111,32,55,32,123,10,32,32,115,32,61,32,115,32,43,32,97,91,105,93,59,10,125,10,112,114,105,110,116,32,115,59,10]⟩ : ByteArray),(⟨#[97,114,114,97,121,32,97,32,57,59,10,102,111,114,32,105,32,61,32,48,32,116,111,32,56,32,123,10,32,32,116,32,61,32,105,32,42,32,51,59,10,32,32,97,91,105,93,32,61,32,116,32,43,32,49,59,10,125,10,112,114,105,110,116,32,116,59,10]⟩ : ByteArray),(⟨#[97,114,114,97,121,32,97,32,57,59,10,102,111,114,32,105,32,61,32,48,32,116,111,32,50,32,123,10,32,32,102,111,114,32,106,32,61,32,48,32,116,111,32,50,32,123,10,32,32,32,32,97,91,105,32,42,32,51,32,43,32,106,93,32,61,32,105,32,45,32,106,59,10,32,32,125,10,125,10]⟩ : ByteArray),(⟨#[97,114,114,97,121,32,97,32,56,59,10,102,111,114,32,105,32,61,32,50,32,116,111,32,55,32,123,10,32,32,97,91,105,93,32,61,32,97,91,105,32,45,32,50,93,32,43,32,49,59,10,125,10]⟩ : ByteArray),(⟨#[97,114,114,97,121,32,97,32,56,59,10,109,32,61,32,57,57,59,10,102,111,114,32,105,32,61,32,48,32,116,111,32,55,32,123,10,32,32,109,32,61,32,109,105,110,40,109,44,32,97,91,105,93,32,45,32,105,41,59,10,125,10,112,114,105,110,116,32,109,59,10]⟩ : ByteArray),(⟨#[97,114,114,97,121,32,97,32,56,59,10,102,111,114,32,105,32,61,32,48,32,116,111,32,56,32,123,10,32,32,97,91,105,93,32,61,32,49,59,10,125,10]⟩ : ByteArray),(⟨#[97,114,114,97,121,32,97,32,56,59,10,102,111,114,32,105,32,61,32,48,32,116,111,32,51,32,123,10,32,32,97,91,105,93,32,61,32,97,91,105,32,43,32,52,93,32,43,32,49,59,10,125,10]⟩ : ByteArray),(⟨#[97,114,114,97,121,32,97,32,56,59,10,102,111,114,32,105,32,61,32,48,32,116,111,32,55,32,123,10,32,32,97,91,97,91,105,93,93,32,61,32,105,59,10,125,10]⟩ : ByteArray),(⟨#[120,32,61,32,51,59,10,102,111,114,32,105,32,61,32,48,32,116,111,32,120,32,123,10,32,32,121,32,61,32,121,32,42,32,50,32,43,32,105,59,10,125,10,112,114,105,110,116,32,121,32,45,32,120,59,10]⟩ : ByteArray)] : List ByteArray)) (inner := [.string (⟨#[97,114,114,97,121,32,97,32,56,59,10,102,111,114,32,105,32,61,32,48,32,116,111,32,55,32,123,10,32,32,97,91,105,93,32,61,32,105,32,42,32,50,59,10,125,10,112,114,105,110,116,32,97,91,51,93,59,10]⟩ : ByteArray),.string (⟨#[97,114,114,97,121,32,97,32,56,59,10,97,114,114,97,121,32,98,32,56,59,10,102,111,114,32,105,32,61,32,48,32,116,111,32,55,32,123,10,32,32,97,91,105,93,32,61,32,105,59,10,125,10,102,111,114,32,105,32,61,32,49,32,116,111,32,55,32,123,10,32,32,98,91,105,93,32,61,32,97,91,105,32,45,32,49,93,32,43,32,97,91,105,93,59,10,125,10]⟩ : ByteArray),.string (⟨#[97,114,114,97,121,32,97,32,56,59,10,97,91,48,93,32,61,32,49,59,10,102,111,114,32,105,32,61,32,49,32,116,111,32,55,32,123,10,32,32,97,91,105,93,32,61,32,97,91,105,32,45,32,49,93,32,43,32,105,59,10,125,10,112,114,105,110,116,32,97,91,55,93,59,10]⟩ : ByteArray),.string (⟨#[97,114,114,97,121,32,97,32,56,59,10,102,111,114,32,105,32,61,32,48,32,116,111,32,55,32,123,10,32,32,97,91,105,93,32,61,32,105,32,42,32,105,59,10,125,10,115,32,61,32,53,59,10,102,111,114,32,105,32,61,32,48,32,116,111,32,55,32,123,10,32,32,115,32,61,32,115,32,43,32,97,91,105,93,59,10,125,10,112,114,105,110,116,32,115,59,10]⟩ : ByteArray),.string (⟨#[97,114,114,97,121,32,97,32,57,59,10,102,111,114,32,105,32,61,32,48,32,116,111,32,56,32,123,10,32,32,116,32,61,32,105,32,42,32,51,59,10,32,32,97,91,105,93,32,61,32,116,32,43,32,49,59,10,125,10,112,114,105,110,116,32,116,59,10]⟩ : ByteArray),.string (⟨#[97,114,114,97,121,32,97,32,57,59,10,102,111,114,32,105,32,61,32,48,32,116,111,32,50,32,123,10,32,32,102,111,114,32,106,32,61,32,48,32,116,111,32,50,32,123,10,32,32,32,32,97,91,105,32,42,32,51,32,43,32,106,93,32,61,32,105,32,45,32,106,59,10,32,32,125,10,125,10]⟩ : ByteArray),.string (⟨#[97,114,114,97,121,32,97,32,56,59,10,102,111,114,32,105,32,61,32,50,32,116,111,32,55,32,123,10,32,32,97,91,105,93,32,61,32,97,91,105,32,45,32,50,93,32,43,32,49,59,10,125,10]⟩ : ByteArray),.string (⟨#[97,114,114,97,121,32,97,32,56,59,10,109,32,61,32,57,57,59,10,102,111,114,32,105,32,61,32,48,32,116,111,32,55,32,123,10,32,32,109,32,61,32,109,105,110,40,109,44,32,97,91,105,93,32,45,32,105,41,59,10,125,10,112,114,105,110,116,32,109,59,10]⟩ : ByteArray),.string (⟨#[97,114,114,97,121,32,97,32,56,59,10,102,111,114,32,105,32,61,32,48,32,116,111,32,56,32,123,10,32,32,97,91,105,93,32,61,32,49,59,10,125,10]⟩ : ByteArray),.string (⟨#[97,114,114,97,121,32,97,32,56,59,10,102,111,114,32,105,32,61,32,48,32,116,111,32,51,32,123,10,32,32,97,91,105,93,32,61,32,97,91,105,32,43,32,52,93,32,43,32,49,59,10,125,10]⟩ : ByteArray),.string (⟨#[97,114,114,97,121,32,97,32,56,59,10,102,111,114,32,105,32,61,32,48,32,116,111,32,55,32,123,10,32,32,97,91,97,91,105,93,93,32,61,32,105,59,10,125,10]⟩ : ByteArray),.string (⟨#[120,32,61,32,51,59,10,102,111,114,32,105,32,61,32,48,32,116,111,32,120,32,123,10,32,32,121,32,61,32,121,32,42,32,50,32,43,32,105,59,10,125,10,112,114,105,110,116,32,121,32,45,32,120,59,10]⟩ : ByteArray)]) (ok := fun _ => True) (okp := fun _ => True) ?hr ?hp (fun _ hk => hk) trivial (Below.refl _ _) (Nat.le_refl _) (by simp) ?_;(case hd => rfl);(case hg => rfl);(case hr => first|(go_simp;done)|(go_simp;rfl));(case hp => exact (Reps.one (show Kd.M Kd.string _ _ _ (⟨#[97,114,114,97,121,32,97,32,56,59,10,102,111,114,32,105,32,61,32,48,32,116,111,32,55,32,123,10,32,32,97,91,105,93,32,61,32,105,32,42,32,50,59,10,125,10,112,114,105,110,116,32,97,91,51,93,59,10]⟩ : ByteArray) [.string (⟨#[97,114,114,97,121,32,97,32,56,59,10,102,111,114,32,105,32,61,32,48,32,116,111,32,55,32,123,10,32,32,97,91,105,93,32,61,32,105,32,42,32,50,59,10,125,10,112,114,105,110,116,32,97,91,51,93,59,10]⟩ : ByteArray)] from rfl) (Reps.one (show Kd.M Kd.string _ _ _ (⟨#[97,114,114,97,121,32,97,32,56,59,10,97,114,114,97,121,32,98,32,56,59,10,102,111,114,32,105,32,61,32,48,32,116,111,32,55,32,123,10,32,32,97,91,105,93,32,61,32,105,59,10,125,10,102,111,114,32,105,32,61,32,49,32,116,111,32,55,32,123,10,32,32,98,91,105,93,32,61,32,97,91,105,32,45,32,49,93,32,43,32,97,91,105,93,59,10,125,10]⟩ : ByteArray) [.string (⟨#[97,114,114,97,121,32,97,32,56,59,10,97,114,114,97,121,32,98,32,56,59,10,102,111,114,32,105,32,61,32,48,32,116,111,32,55,32,123,10,32,32,97,91,105,93,32,61,32,105,59,10,125,10,102,111,114,32,105,32,61,32,49,32,116,111,32,55,32,123,10,32,32,98,91,105,93,32,61,32,97,91,105,32,45,32,49,93,32,43,32,97,91,105,93,59,10,125,10]⟩ : ByteArray)] from rfl) (Reps.one (show Kd.M Kd.string _ _ _ (⟨#[97,114,114,97,121,32,97,32,56,59,10,97,91,48,93,32,61,32,49,59,10,102,111,114,32,105,32,61,32,49,32,116,111,32,55,32,123,10,32,32,97,91,105,93,32,61,32,97,91,105,32,45,32,49,93,32,43,32,105,59,10,125,10,112,114,105,110,116,32,97,91,55,93,59,10]⟩ : ByteArray) [.string (⟨#[97,114,114,97,121,32,97,32,56,59,10,97,91,48,93,32,61,32,49,59,10,102,111,114,32,105,32,61,32,49,32,116,111,32,55,32,123,10,32,32,97,91,105,93,32,61,32,97,91,105,32,45,32,49,93,32,43,32,105,59,10,125,10,112,114,105,110,116,32,97,91,55,93,59,10]⟩ : ByteArray)] from rfl) (Reps.one (show Kd.M Kd.string _ _ _ (⟨#[97,114,114,97,121,32,97,32,56,59,10,102,111,114,32,105,32,61,32,48,32,116,111,32,55,32,123,10,32,32,97,91,105,93,32,61,32,105,32,42,32,105,59,10,125,10,115,32,61,32,53,59,10,102,111,114,32,105,32,61,32,48,32,116,111,32,55,32,123,10,32,32,115,32,61,32,115,32,43,32,97,91,105,93,59,10,125,10,112,114,105,110,116,32,115,59,10]⟩ : ByteArray) [.string (⟨#[97,114,114,97,121,32,97,32,56,59,10,102,111,114,32,105,32,61,32,48,32,116,111,32,55,32,123,10,32,32,97,91,105,93,32,61,32,105,32,42,32,105,59,10,125,10,115,32,61,32,53,59,10,102,111,114,32,105,32,61,32,48,32,116,111,32,55,32,123,10,32,32,115,32,61,32,115,32,43,32,97,91,105,93,59,10,125,10,112,114,105,110,116,32,115,59,10]⟩ : ByteArray)] from rfl) (Reps.one (show Kd.M Kd.string _ _ _ (⟨#[97,114,114,97,121,32,97,32,57,59,10,102,111,114,32,105,32,61,32,48,32,116,111,32,56,32,123,10,32,32,116,32,61,32,105,32,42,32,51,59,10,32,32,97,91,105,93,32,61,32,116,32,43,32,49,59,10,125,10,112,114,105,110,116,32,116,59,10]⟩ : ByteArray) [.string (⟨#[97,114,114,97,121,32,97,32,57,59,10,102,111,114,32,105,32,61,32,48,32,116,111,32,56,32,123,10,32,32,116,32,61,32,105,32,42,32,51,59,10,32,32,97,91,105,93,32,61,32,116,32,43,32,49,59,10,125,10,112,114,105,110,116,32,116,59,10]⟩ : ByteArray)] from rfl) (Reps.one (show Kd.M Kd.string _ _ _ (⟨#[97,114,114,97,121,32,97,32,57,59,10,102,111,114,32,105,32,61,32,48,32,116,111,32,50,32,123,10,32,32,102,111,114,32,106,32,61,32,48,32,116,111,32,50,32,123,10,32,32,32,32,97,91,105,32,42,32,51,32,43,32,106,93,32,61,32,105,32,45,32,106,59,10,32,32,125,10,125,10]⟩ : ByteArray) [.string (⟨#[97,114,114,97,121,32,97,32,57,59,10,102,111,114,32,105,32,61,32,48,32,116,111,32,50,32,123,10,32,32,102,111,114,32,106,32,61,32,48,32,116,111,32,50,32,123,10,32,32,32,32,97,91,105,32,42,32,51,32,43,32,106,93,32,61,32,105,32,45,32,106,59,10,32,32,125,10,125,10]⟩ : ByteArray)] from rfl) (Reps.one (show Kd.M Kd.string _ _ _ (⟨#[97,114,114,97,121,32,97,32,56,59,10,102,111,114,32,105,32,61,32,50,32,116,111,32,55,32,123,10,32,32,97,91,105,93,32,61,32,97,91,105,32,45,32,50,93,32,43,32,49,59,10,125,10]⟩ : ByteArray) [.string (⟨#[97,114,114,97,121,32,97,32,56,59,10,102,111,114,32,105,32,61,32,50,32,116,111,32,55,32,123,10,32,32,97,91,105,93,32,61,32,97,91,105,32,45,32,50,93,32,43,32,49,59,10,125,10]⟩ : ByteArray)] from rfl) (Reps.one (show Kd.M Kd.string _ _ _ (⟨#[97,114,114,97,121,32,97,32,56,59,10,109,32,61,32,57,57,59,10,102,111,114,32,105,32,61,32,48,32,116,111,32,55,32,123,10,32,32,109,32,61,32,109,105,110,40,109,44,32,97,91,105,93,32,45,32,105,41,59,10,125,10,112,114,105,110,116,32,109,59,10]⟩ : ByteArray) [.string (⟨#[97,114,114,97,121,32,97,32,56,59,10,109,32,61,32,57,57,59,10,102,111,114,32,105,32,61,32,48,32,116,111,32,55,32,123,10,32,32,109,32,61,32,109,105,110,40,109,44,32,97,91,105,93,32,45,32,105,41,59,10,125,10,112,114,105,110,116,32,109,59,10]⟩ : ByteArray)] from rfl) (Reps.one (show Kd.M Kd.string _ _ _ (⟨#[97,114,114,97,121,32,97,32,56,59,10,102,111,114,32,105,32,61,32,48,32,116,111,32,56,32,123,10,32,32,97,91,105,93,32,61,32,49,59,10,125,10]⟩ : ByteArray) [.string (⟨#[97,114,114,97,121,32,97,32,56,59,10,102,111,114,32,105,32,61,32,48,32,116,111,32,56,32,123,10,32,32,97,91,105,93,32,61,32,49,59,10,125,10]⟩ : ByteArray)] from rfl) (Reps.one (show Kd.M Kd.string _ _ _ (⟨#[97,114,114,97,121,32,97,32,56,59,10,102,111,114,32,105,32,61,32,48,32,116,111,32,51,32,123,10,32,32,97,91,105,93,32,61,32,97,91,105,32,43,32,52,93,32,43,32,49,59,10,125,10]⟩ : ByteArray) [.string (⟨#[97,114,114,97,121,32,97,32,56,59,10,102,111,114,32,105,32,61,32,48,32,116,111,32,51,32,123,10,32,32,97,91,105,93,32,61,32,97,91,105,32,43,32,52,93,32,43,32,49,59,10,125,10]⟩ : ByteArray)] from rfl) (Reps.one (show Kd.M Kd.string _ _ _ (⟨#[97,114,114,97,121,32,97,32,56,59,10,102,111,114,32,105,32,61,32,48,32,116,111,32,55,32,123,10,32,32,97,91,97,91,105,93,93,32,61,32,105,59,10,125,10]⟩ : ByteArray) [.string (⟨#[97,114,114,97,121,32,97,32,56,59,10,102,111,114,32,105,32,61,32,48,32,116,111,32,55,32,123,10,32,32,97,91,97,91,105,93,93,32,61,32,105,59,10,125,10]⟩ : ByteArray)] from rfl) (Reps.one (show Kd.M Kd.string _ _ _ (⟨#[120,32,61,32,51,59,10,102,111,114,32,105,32,61,32,48,32,116,111,32,120,32,123,10,32,32,121,32,61,32,121,32,42,32,50,32,43,32,105,59,10,125,10,112,114,105,110,116,32,121,32,45,32,120,59,10]⟩ : ByteArray) [.string (⟨#[120,32,61,32,51,59,10,102,111,114,32,105,32,61,32,48,32,116,111,32,120,32,123,10,32,32,121,32,61,32,121,32,42,32,50,32,43,32,105,59,10,125,10,112,114,105,110,116,32,121,32,45,32,120,59,10]⟩ : ByteArray)] from rfl) (Reps.none _ _))))))))))))));intro v231 w3 ho4 hb hg_ hnew_;clear hg_ hnew_;(first|rw [← Ny230.out] at ho4|(simp only [Int.reduceToNat] at ho4;rw [← Ny230.out] at ho4));have n0_ := mk0 (Kd.R_lower ho4 (keep_size (w := w) (g := g) (row := none) (by repeat (first|(with_reducible first|exact HK.out|apply KeepBut.set_|apply keep_drewN|apply keep_drew|apply keep_alloc)|exact HK.out))));have n1_ := mk0 (IsS74.below (by repeat (first|(with_reducible first|exact HI0.out|apply IsS74.alloc|apply IsS74.drewN|apply IsS74.drew|apply IsS74.set_1|apply IsS74.set_2)|exact HI0.out)) hb);have n2_ := mk0 (KeepBut.trans (by repeat (first|(with_reducible first|exact HK.out|apply KeepBut.set_|apply keep_drewN|apply keep_drew|apply keep_alloc)|exact HK.out)) (KeepBut.of_below hb g none) (.inl rfl));have n3_ := mk0 (below_step (by repeat (first|(with_reducible first|exact HB.out|apply bA|apply bN|apply bD|refine bS ?_ (IsS74.ge HI0.out))|exact HB.out)) hb);clear HI0;clear HK;clear HB;have HO232 := n0_;have HI0 := n1_;have HK := n2_;have HB := n3_;clear n0_ n1_ n2_ n3_;clear hb ho4;obtain ⟨Ao5,co5,eo5⟩ := Kd.R_slice HO232.out;subst eo5)|((with_reducible refine gate_callee (f := 42) rfl ?_);refine goesL_ (some 5) rfl rfl Tryd.func42 (by kernel_rfl) rfl #[.pointer (some ⟨g,0,none⟩),.slice Ao5 y230.length co5] rfl (by (try simp only [List.map_toArray,List.map_cons,List.map_nil]);first|done|rfl) ?_;(with_reducible refine (spec_l1Str.calls g s0_0 s0_1 s0_2 _ _ y230 t233 t234 t235 w0 _ ?side1 ?side2 ?side3 ?side4 ?side5 A2.out).mono ?_);(case side1 => repeat (first|(with_reducible first|exact HI0.out|apply IsS74.alloc|apply IsS74.drewN|apply IsS74.drew|apply IsS74.set_1|apply IsS74.set_2)|exact HI0.out));(case side2 => repeat (first|(with_reducible first|exact HB.out|apply bA|apply bN|apply bD|refine bS ?_ (IsS74.ge HI0.out))|exact HB.out));(case side3 => repeat (first|exact (Kd.R_reads' HO232.out).2.2|(with_reducible refine cA ?_ _)|(with_reducible refine cN ?_ _)|(with_reducible refine cD ?_)));(case side4 => exact (Kd.R_reads' HO232.out).2.1);(case side5 => exact far_slice (IsS74.own_ne HI0.out HO232.out (by decide)));rintro e w6 ⟨rfl,hi,hb,hk⟩;refine ⟨_,rfl,?_⟩;have n0_ := mk0 (Kd.R_mono (Kd.R_keep (IsS74.apart (show IsS74 w0 _ g s0_0 s0_1 s0_2 from by repeat (first|(with_reducible first|exact HI0.out|apply IsS74.alloc|apply IsS74.drewN|apply IsS74.drew|apply IsS74.set_1|apply IsS74.set_2)|exact HI0.out)) (by exact rX HO232.out) (by decide)) hk (fun _ h => h.2)) (fun _ h => h.1));have n1_ := mk0 (KeepBut.trans (by repeat (first|(with_reducible first|exact HK.out|apply KeepBut.set_|apply keep_drewN|apply keep_drew|apply keep_alloc)|exact HK.out)) hk (.inl rfl));have n2_ := mk0 (hb);have n3_ := mk0 (hi);clear HO232;clear HK;clear HB;clear HI0;have HO232 := n0_;have HK := n1_;have HB := n2_;have HI0 := n3_;clear n0_ n1_ n2_ n3_;(try clear hb);(try clear hb2);(try clear hk);(try clear hi)))
 go_ret
 exact ⟨by first|rfl|(simp [errW_none,errW_some] <;> rfl)|(simp [*,errW_none,errW_some] <;> rfl),by repeat (first|(with_reducible first|exact HI0.out|apply IsS74.alloc|apply IsS74.drewN|apply IsS74.drew|apply IsS74.set_1|apply IsS74.set_2)|exact HI0.out),by repeat (first|(with_reducible first|exact HB.out|apply bA|apply bN|apply bD|refine bS ?_ (IsS74.ge HI0.out))|exact HB.out),by repeat (first|(with_reducible first|exact HK.out|apply KeepBut.set_|apply keep_drewN|apply keep_drew|apply keep_alloc)|exact HK.out)⟩
end Go.Proofs.YtpencchkfbekdaaDoor.PFnLex
