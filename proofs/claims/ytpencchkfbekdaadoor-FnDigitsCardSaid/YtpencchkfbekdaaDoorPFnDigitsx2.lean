-- The functions of a law as plain Lean functions, each with its contract: written by a program of this session.
import Derived.Test.YtpencchkfbekdaaDoorPFnDigitsx0
import Derived.Test.YtpencchkfbekdaaDoorPFnDigitsx1
namespace Go.Proofs.YtpencchkfbekdaaDoor.PFnDigits
open Go.RowKit Go.Proofs.YtpencchkfbekdaaDoorW.PrintWords Go.Proofs.YtpencchkfbekdaaDoorW.PrintLast Go.Proofs.YtpencchkfbekdaaDoorW.PrintMore
attribute [local go_sem] max2_int min2_int max_two min_two max_three min_three max_four min_four   -- for this text's walks alone
set_option linter.unusedVariables false
set_option linter.unusedSimpArgs false

/-- A state of type 74 at block g of W; what its slices lead to came in by w0. -/
def IsS74 (w0 W : World) (g : Nat) (f0 : List Int) (f1 : Int) (f2 : Int) : Prop := ∃ A0 c0, W.heap[g]? = some (.cells #[.slice A0 f0.length c0, .int .i64 f1, .int .i64 f2] 74 (0, 0)) ∧ w0.heap.size ≤ g ∧ Kd.C (Kd.int .u8) w0 A0 f0.length f0
theorem IsS74.grown {w0 W : World} {g : Nat} {f0 : List Int} {f1 : Int} {f2 : Int} {W1 : World} {row : Option Nat} (h : IsS74 w0 W g f0 f1 f2) (hw : W.grownBy W1 row) (hne : some g ≠ row) : IsS74 w0 W1 g f0 f1 f2 := by
  obtain ⟨A0, c0, hb, hg, hr0⟩ := h
  exact ⟨A0, c0, blk_grown hb hw hne, hg, hr0⟩
theorem IsS74.own_neN {w0 W : World} {g : Nat} {f0 : List Int} {f1 : Int} {f2 : Int} {α : Type} {d : Kd α} {e : Nat} {base : Nat} {ok : Nat → Prop} {v : Value} {xs : List α} (h : IsS74 w0 W g f0 f1 f2) (ho : Kd.N d e W base ok v xs) (ht : e ≠ 74) : some g ≠ v.ownBlock := by
  obtain ⟨A0, c0, hb, hg, hr0⟩ := h
  exact Kd.N_ne ho hb ht
theorem IsS74.fresh {w0 W : World} {g : Nat} {f0 : List Int} {f1 : Int} {f2 : Int} (h : IsS74 w0 W g f0 f1 f2) : ∀ k, W.heap.size ≤ k → k ≠ g := by
  obtain ⟨A0, c0, hb, hg, hr0⟩ := h
  exact Kd.freshB hb
theorem IsS74.kept {w0 W : World} {g : Nat} {f0 : List Int} {f1 : Int} {f2 : Int} {W1 : World} {S : Nat → Prop} (h : IsS74 w0 W g f0 f1 f2) (hk : Kept W W1 S) (hne : ¬ S g) : IsS74 w0 W1 g f0 f1 f2 := by
  obtain ⟨A0, c0, hb, hg, hr0⟩ := h
  exact ⟨A0, c0, blk_kept hb hk hne, hg, hr0⟩
theorem IsS74.below {w0 W : World} {g : Nat} {f0 : List Int} {f1 : Int} {f2 : Int} {W1 : World} (h : IsS74 w0 W g f0 f1 f2) (hw : Below W.heap.size W W1) : IsS74 w0 W1 g f0 f1 f2 := h.grown (grown_of_below hw none) (by simp)
theorem IsS74.alloc {w0 W : World} {g : Nat} {f0 : List Int} {f1 : Int} {f2 : Int} (h : IsS74 w0 W g f0 f1 f2) (o : Obj) : IsS74 w0 (W.alloc o) g f0 f1 f2 := h.below (below_alloc (Below.refl _ _) o)
theorem IsS74.drewN {w0 W : World} {g : Nat} {f0 : List Int} {f1 : Int} {f2 : Int} (h : IsS74 w0 W g f0 f1 f2) (m : Nat) : IsS74 w0 (W.drewN m) g f0 f1 f2 := h
theorem IsS74.drew {w0 W : World} {g : Nat} {f0 : List Int} {f1 : Int} {f2 : Int} (h : IsS74 w0 W g f0 f1 f2) : IsS74 w0 W.drew g f0 f1 f2 := h
theorem IsS74.at_ {w0 W : World} {g : Nat} {f0 : List Int} {f1 : Int} {f2 : Int} {w' : World} {m : Nat} (hq : W.drewN m = w') (h : IsS74 w0 W g f0 f1 f2) : IsS74 w0 w' g f0 f1 f2 := by subst hq; exact IsS74.drewN h m
theorem IsS74.apart {w0 W : World} {g : Nat} {f0 : List Int} {f1 : Int} {f2 : Int} {α : Type} {d : Kd α} {e : Nat} {base : Nat} {ok : Nat → Prop} {v : Value} {xs : List α} (h : IsS74 w0 W g f0 f1 f2) (ho : d.R e W base ok v xs) (ht : ∀ q, q ∈ e :: d.E → q ≠ 74) : d.R e W base (fun k => ok k ∧ k ≠ g) v xs := by
  obtain ⟨A0, c0, hb, hg, hr0⟩ := h
  exact Kd.R_types ho hb ht
theorem IsS74.own_ne {w0 W : World} {g : Nat} {f0 : List Int} {f1 : Int} {f2 : Int} {α : Type} {d : Kd α} {e : Nat} {base : Nat} {ok : Nat → Prop} {v : Value} {xs : List α} (h : IsS74 w0 W g f0 f1 f2) (ho : d.R e W base ok v xs) (ht : e ≠ 74) : some g ≠ v.ownBlock := by
  obtain ⟨A0, c0, hb, hg, hr0⟩ := h
  exact Kd.R_ne ho hb ht
theorem IsS74.apartQ {w0 W : World} {g : Nat} {f0 : List Int} {f1 : Int} {f2 : Int} {α : Type} {d : Kd α} {e : Nat} {base : Nat} {ok : Nat → Prop} {v : Value} {xs : List α} (h : IsS74 w0 W g f0 f1 f2) (ho : d.Q e W base ok v xs) (ht : ∀ q, q ∈ e :: d.E → q ≠ 74) : d.Q e W base (fun k => ok k ∧ k ≠ g) v xs := by
  obtain ⟨A0, c0, hb, hg, hr0⟩ := h
  exact Kd.Q_types ho hb ht
theorem IsS74.own_neQ {w0 W : World} {g : Nat} {f0 : List Int} {f1 : Int} {f2 : Int} {α : Type} {d : Kd α} {e : Nat} {base : Nat} {ok : Nat → Prop} {v : Value} {xs : List α} (h : IsS74 w0 W g f0 f1 f2) (ho : d.Q e W base ok v xs) (ht : e ≠ 74) : some g ≠ v.ownBlock := by
  obtain ⟨A0, c0, hb, hg, hr0⟩ := h
  exact Kd.Q_ne ho hb ht
theorem IsS74.apartS {w0 W : World} {g : Nat} {f0 : List Int} {f1 : Int} {f2 : Int} {α : Type} {d : Kd α} {e : Nat} {base : Nat} {ok : Nat → Prop} {v : Value} {xs : List α} (h : IsS74 w0 W g f0 f1 f2) (ho : d.S e W base ok v xs) (ht : ∀ q, q ∈ e :: d.E → q ≠ 74) : d.S e W base (fun k => ok k ∧ k ≠ g) v xs := by
  obtain ⟨A0, c0, hb, hg, hr0⟩ := h
  exact Kd.S_types ho hb ht
theorem IsS74.own_neS {w0 W : World} {g : Nat} {f0 : List Int} {f1 : Int} {f2 : Int} {α : Type} {d : Kd α} {e : Nat} {base : Nat} {ok : Nat → Prop} {v : Value} {xs : List α} (h : IsS74 w0 W g f0 f1 f2) (ho : d.S e W base ok v xs) (ht : e ≠ 74) : some g ≠ v.ownBlock := by
  obtain ⟨A0, c0, hb, hg, hr0⟩ := h
  exact Kd.S_ne ho hb ht
theorem IsS74.lt {w0 W : World} {g : Nat} {f0 : List Int} {f1 : Int} {f2 : Int} (h : IsS74 w0 W g f0 f1 f2) : g < W.heap.size := by
  obtain ⟨A0, c0, hb, hg, hr0⟩ := h
  exact blk_lt hb
theorem IsS74.ge {w0 W : World} {g : Nat} {f0 : List Int} {f1 : Int} {f2 : Int} (h : IsS74 w0 W g f0 f1 f2) : w0.heap.size ≤ g := by
  obtain ⟨A0, c0, hb, hg, hr0⟩ := h
  exact hg
theorem IsS74.ne_blk {w0 W : World} {g : Nat} {f0 : List Int} {f1 : Int} {f2 : Int} {a : Nat} {cs : Array Value} {t : TypeId} {fr : Nat × Nat} (h : IsS74 w0 W g f0 f1 f2) (hb2 : W.heap[a]? = some (.cells cs t fr)) (ht : t ≠ 74) : g ≠ a := by
  obtain ⟨A0, c0, hb, hg, hr0⟩ := h
  rintro rfl
  rw [hb] at hb2
  injection hb2 with hb2
  injection hb2 with _ ht2
  exact ht ht2.symm
theorem IsS74.far {w0 W : World} {g : Nat} {f0 : List Int} {f1 : Int} {f2 : Int} {p : Addr} (h : IsS74 w0 W g f0 f1 f2) (hne : g ≠ p.block) (u : Value) : IsS74 w0 (W.setCell p u) g f0 f1 f2 := by
  obtain ⟨A0, c0, hb, hg, hr0⟩ := h
  exact ⟨A0, c0, blk_far hb hne u, hg, hr0⟩
theorem cellS74_0 {W : World} {g : Nat} {A0 : Option Addr} {c0 : Nat} {f0 : List Int} {f1 : Int} {f2 : Int} (h : W.heap[g]? = some (.cells #[.slice A0 f0.length c0, .int .i64 f1, .int .i64 f2] 74 (0, 0))) : W.cell? ⟨g, 0, none⟩ = some (.slice A0 f0.length c0) := (blk_cell h 0).trans rfl
theorem cellS74_1 {W : World} {g : Nat} {A0 : Option Addr} {c0 : Nat} {f0 : List Int} {f1 : Int} {f2 : Int} (h : W.heap[g]? = some (.cells #[.slice A0 f0.length c0, .int .i64 f1, .int .i64 f2] 74 (0, 0))) : W.cell? ⟨g, 1, none⟩ = some (.int .i64 f1) := (blk_cell h 1).trans rfl
theorem IsS74.set_1 {w0 W : World} {g : Nat} {f0 : List Int} {f1 : Int} {f2 : Int} (h : IsS74 w0 W g f0 f1 f2) (x : Int) : IsS74 w0 (W.setCell ⟨g, 1, none⟩ (.int .i64 x)) g f0 x f2 := by
  obtain ⟨A0, c0, hb, hg, hr0⟩ := h
  exact ⟨A0, c0, by simpa using blk_set hb 1 (.int .i64 x), hg, hr0⟩
theorem cellS74_2 {W : World} {g : Nat} {A0 : Option Addr} {c0 : Nat} {f0 : List Int} {f1 : Int} {f2 : Int} (h : W.heap[g]? = some (.cells #[.slice A0 f0.length c0, .int .i64 f1, .int .i64 f2] 74 (0, 0))) : W.cell? ⟨g, 2, none⟩ = some (.int .i64 f2) := (blk_cell h 2).trans rfl
theorem IsS74.set_2 {w0 W : World} {g : Nat} {f0 : List Int} {f1 : Int} {f2 : Int} (h : IsS74 w0 W g f0 f1 f2) (x : Int) : IsS74 w0 (W.setCell ⟨g, 2, none⟩ (.int .i64 x)) g f0 f1 x := by
  obtain ⟨A0, c0, hb, hg, hr0⟩ := h
  exact ⟨A0, c0, by simpa using blk_set hb 2 (.int .i64 x), hg, hr0⟩
theorem IsS74.new (w0 W : World) (A0 : Option Addr) (c0 : Nat) (f0 : List Int) (f1 : Int) (f2 : Int) (hB : Below w0.heap.size w0 W) (hr0 : Kd.C (Kd.int .u8) w0 A0 f0.length f0) : IsS74 w0 (W.alloc (.cells #[.slice A0 f0.length c0, .int .i64 f1, .int .i64 f2] 74)) W.heap.size f0 f1 f2 := ⟨A0, c0, by simpa using heap_alloc_new W _, hB.size, hr0⟩

/-! ### spec_l1New: function 40 -/
def spec_l1New.l0 : Nat → List Int → Int → Int → Option (List Int × Int × Int)
  | 0, _, _, _ => none
  | k + 1, x0, x3, x4 => if x4 < (x0.length : Int) then (if x4 < 4000 then (if 0 ≤ x4 then (spec_l1New.l0 k x0 (Go.bits .and .i64 (wrap64 ((wrap64 ((wrap64 (x3 * 137)) + (wrap64 (rd x0 x4)))) + 11)) 1073741823) (wrap64 (x4 + 1))) else (none)) else (some (x0, 0, x3))) else (some (x0, 0, x3))
def spec_l1New.f (k : Nat) (l0 : List Int) : Option (List Int × Int × Int) := spec_l1New.l0 k l0 (wrap64 (957957 + (l0.length : Int))) 0
theorem spec_l1New.mono_l : ∀ k, (∀ y0 y1 y2, LeO (spec_l1New.l0 k y0 y1 y2) (spec_l1New.l0 (k + 1) y0 y1 y2))
  | 0 => fun _ _ _ r h => by simp [spec_l1New.l0] at h
  | k + 1 => by
    have ih0 := spec_l1New.mono_l k
    · intro y0 y1 y2
      unfold spec_l1New.l0
      repeat' first
      | (with_reducible exact ih0 _ _ _)
      | (with_reducible exact LeO.refl _)
      | (with_reducible exact LeO.none _)
      | (with_reducible refine LeO.ite ?_ ?_)
      | (with_reducible refine LeO.bind ?_ (fun _ => ?_))
      | exact ih0 _ _ _
      | exact LeO.none _
      | refine LeO.ite ?_ ?_
      | refine LeO.bind ?_ (fun _ => ?_)
theorem spec_l1New.mono : ∀ a0 k, LeO (spec_l1New.f k a0) (spec_l1New.f (k + 1) a0) := by
  intro a0 k
  have ih0 := spec_l1New.mono_l k
  unfold spec_l1New.f
  repeat' first
      | (with_reducible exact ih0 _ _ _)
      | (with_reducible exact LeO.refl _)
      | (with_reducible exact LeO.none _)
      | (with_reducible refine LeO.ite ?_ ?_)
      | (with_reducible refine LeO.bind ?_ (fun _ => ?_))
      | exact ih0 _ _ _
      | exact LeO.none _
      | refine LeO.ite ?_ ?_
      | refine LeO.bind ?_ (fun _ => ?_)
set_option maxHeartbeats 8000000 in
set_option maxRecDepth 100000 in
theorem spec_l1New.calls (k : Nat) (A0 : Option Addr) (c0 : Nat) (l0 : List Int) (r1 : List Int) (r2 : Int) (r3 : Int) (w0 w : World) (hB : Below w0.heap.size w0 w) (hr0 : Kd.C (Kd.int .u8) w0 A0 l0.length l0) (hc0 : l0.length ≤ c0) (h : spec_l1New.f k l0 = some (r1, r2, r3)) :
    Calls Tryd.prog 40 #[.slice A0 l0.length c0] w fun e w' => ∃ g_ : Nat, e = .returned (.pointer (some ⟨g_, 0, none⟩)) ∧ IsS74 w0 w' g_ r1 r2 r3 ∧ Below w0.heap.size w0 w' ∧ Below w.heap.size w w' := by
  have hu74 := Tryd.underlying74
  have HR0 := mk0 hr0
  have HC0 := mk0 hc0
  clear hr0 hc0
  have HBW := mk0 (Below.refl w.heap.size w)
  have HW0 := mk0 hB.size
  have HB := mk0 hB
  clear hB
  have H : (spec_l1New.l0 k l0 (wrap64 (957957 + (l0.length : Int))) 0) = some (r1,r2,r3) := h
  clear h
  have H' := mk0 H
  clear H
  go_enter Tryd.func40,Tryd.ntmps40
  go_wp2
  go_loopg [3,4] k (fun kq v3 v4 w' => ∃ (x3_1 : Int) (x4_1 : Int),v3 = .int .i64 x3_1 ∧ v4 = .int .i64 x4_1 ∧ Aside0 (spec_l1New.l0 kq l0 x3_1 x4_1 = some (r1,r2,r3)) ∧ Aside0 (kq ≤ k) ∧ Aside0 (Below w0.heap.size w0 w') ∧ Aside0 (Below w.heap.size w w'))
  case atStart => exact ⟨(wrap64 (957957 + (l0.length : Int))),(0),(by first|rfl|(simp;done)|(simp [*];done)),(by first|rfl|(simp;done)|(simp [*];done)),H',⟨Nat.le_refl _⟩,⟨by repeat (first|(with_reducible first|exact HB.out|apply bA|apply bN|apply bD)|exact HB.out)⟩,⟨by repeat (first|(with_reducible first|exact HBW.out|apply bA|apply bN|apply bD)|exact HBW.out)⟩⟩
  case round =>
    clear H'
    clear HBW
    obtain ⟨x3_1,x4_1,rfl,rfl,HA,HK1,HB,HBW⟩ := hrel
    cases gk with
   |zero => exact absurd HA.out (by simp [spec_l1New.l0])
   |succ k1 =>
      have H := HA.out
      clear HA
      simp only [spec_l1New.l0] at H
      by_cases c2 : x4_1 < (l0.length : Int)
      · rw [if_pos c2] at H
        have c2b0 : decide (x4_1 < (l0.length : Int)) = true := decide_eq_true c2
        clear c2
        by_cases c3 : x4_1 < 4000
        · rw [if_pos c3] at H
          have c3b0 : decide (x4_1 < 4000) = true := decide_eq_true c3
          clear c3
          by_cases c4 : 0 ≤ x4_1
          · rw [if_pos c4] at H
            have c4b0 : decide (0 ≤ x4_1) = true := decide_eq_true c4
            clear c4
            have H' := mk0 H
            clear H
            have p115 : 0 ≤ (x4_1 : Int) := of_decide_eq_true (by first|(with_reducible assumption)|assumption)
            have q115 : x4_1 < (l0.length : Int) := of_decide_eq_true (by first|(with_reducible assumption)|assumption)
            obtain ⟨ad115,e115,hx115_0⟩ := Kd.at_int HR0.out x4_1 p115 q115
            cases e115
            replace hx115_0 := pw_cell_below HB.out hx115_0
            replace p115 := eq_true p115
            replace q115 := eq_true q115
            go_wp2
            go_roundg k1
            case measure => have := HK1.out;omega
            case rel => exact ⟨(Go.bits .and .i64 (wrap64 ((wrap64 ((wrap64 (x3_1 * 137)) + (wrap64 (rd l0 x4_1)))) + 11)) 1073741823),(wrap64 (x4_1 + 1)),(by first|rfl|(simp;done)|(simp [*];done)),(by first|rfl|(simp;done)|(simp [*];done)),H',⟨by have := HK1.out;omega⟩,⟨by repeat (first|(with_reducible first|exact HB.out|apply bA|apply bN|apply bD)|exact HB.out)⟩,⟨by repeat (first|(with_reducible first|exact HBW.out|apply bA|apply bN|apply bD)|exact HBW.out)⟩⟩
          · rw [if_neg c4] at H
            exact absurd H (by simp)
        · rw [if_neg c3] at H
          have c3b0 : decide (x4_1 < 4000) = false := decide_eq_false c3
          clear c3
          simp only [Option.some.injEq,Prod.mk.injEq] at H
          obtain ⟨rfl,rfl,rfl⟩ := H
          go_wp2_with (first|((with_reducible refine gate_dst (N := 31) rfl ?_);refine box_event ?hg (N := 31) ?hd (cs := #[.slice A0 l0.length c0,.int .i64 0,.int .i64 x3_1]) (t := 74) ?hr ?_;(case hd => rfl);(case hg => rfl);(case hr => first|(go_simp;done)|(go_simp;rfl));intro gb116 hg w5 hbox hb;have n0_ := mk0 (below_step HBW.out hb);have n1_ := mk0 (below_step (by repeat (first|(with_reducible first|exact HB.out|apply bA|apply bN|apply bD)|exact HB.out)) hb);have n2_ := mk0 (hbox);have n3_ := mk0 ((by rw [hg];exact (below_size (by repeat (first|(with_reducible first|exact HBW.out|apply bA|apply bN|apply bD)|exact HBW.out))) : w.heap.size ≤ gb116));have n4_ := mk0 ((Nat.le_trans HW0.out (by rw [hg];exact (below_size (by repeat (first|(with_reducible first|exact HBW.out|apply bA|apply bN|apply bD)|exact HBW.out))) : w.heap.size ≤ gb116) : w0.heap.size ≤ gb116));clear HBW;clear HB;have HBW := n0_;have HB := n1_;have BK116 := n2_;have GW116 := n3_;have GE116 := n4_;clear n0_ n1_ n2_ n3_ n4_;clear hb hbox hg))
          go_ret
          exact ⟨_,rfl,(show IsS74 w0 _ gb116 l0 0 x3_1 from ⟨_,_,by refine kX ?_;exact BK116.out,GE116.out,HR0.out⟩),by repeat (first|(with_reducible first|exact HB.out|apply bA|apply bN|apply bD|refine bS ?_ GE116.out)|exact HB.out),by repeat (first|(with_reducible first|exact HBW.out|apply bA|apply bN|apply bD|refine bS ?_ GW116.out)|exact HBW.out)⟩
      · rw [if_neg c2] at H
        have c2b0 : decide (x4_1 < (l0.length : Int)) = false := decide_eq_false c2
        clear c2
        simp only [Option.some.injEq,Prod.mk.injEq] at H
        obtain ⟨rfl,rfl,rfl⟩ := H
        go_wp2_with (first|((with_reducible refine gate_dst (N := 31) rfl ?_);refine box_event ?hg (N := 31) ?hd (cs := #[.slice A0 l0.length c0,.int .i64 0,.int .i64 x3_1]) (t := 74) ?hr ?_;(case hd => rfl);(case hg => rfl);(case hr => first|(go_simp;done)|(go_simp;rfl));intro gb117 hg w6 hbox hb;have n0_ := mk0 (below_step HBW.out hb);have n1_ := mk0 (below_step (by repeat (first|(with_reducible first|exact HB.out|apply bA|apply bN|apply bD)|exact HB.out)) hb);have n2_ := mk0 (hbox);have n3_ := mk0 ((by rw [hg];exact (below_size (by repeat (first|(with_reducible first|exact HBW.out|apply bA|apply bN|apply bD)|exact HBW.out))) : w.heap.size ≤ gb117));have n4_ := mk0 ((Nat.le_trans HW0.out (by rw [hg];exact (below_size (by repeat (first|(with_reducible first|exact HBW.out|apply bA|apply bN|apply bD)|exact HBW.out))) : w.heap.size ≤ gb117) : w0.heap.size ≤ gb117));clear HBW;clear HB;have HBW := n0_;have HB := n1_;have BK117 := n2_;have GW117 := n3_;have GE117 := n4_;clear n0_ n1_ n2_ n3_ n4_;clear hb hbox hg))
        go_ret
        exact ⟨_,rfl,(show IsS74 w0 _ gb117 l0 0 x3_1 from ⟨_,_,by refine kX ?_;exact BK117.out,GE117.out,HR0.out⟩),by repeat (first|(with_reducible first|exact HB.out|apply bA|apply bN|apply bD|refine bS ?_ GE117.out)|exact HB.out),by repeat (first|(with_reducible first|exact HBW.out|apply bA|apply bN|apply bD|refine bS ?_ GW117.out)|exact HBW.out)⟩

/-! ### spec_l1Byte: function 58 -/
def spec_l1Byte.f (s0_0 : List Int) (s0_1 : Int) (s0_2 : Int) : Option (Int × Int × Int) := if s0_1 < (s0_0.length : Int) then (if 0 ≤ s0_1 then (some (Go.bits .and .i64 (wrap64 ((Go.bits .and .i64 (Go.bits .xor .i64 ((wrap64 ((wrap64 (s0_2 * 6364136223846793005)) + 1442695040888963407)) / 8589934592) ((wrap64 ((wrap64 (s0_2 * 6364136223846793005)) + 1442695040888963407)) / 140737488355328)) 255) + (wrap64 (rd s0_0 s0_1)))) 255,wrap64 (s0_1 + 1),wrap64 ((wrap64 (s0_2 * 6364136223846793005)) + 1442695040888963407))) else (none)) else (some (Go.bits .and .i64 (Go.bits .xor .i64 ((wrap64 ((wrap64 (s0_2 * 6364136223846793005)) + 1442695040888963407)) / 8589934592) ((wrap64 ((wrap64 (s0_2 * 6364136223846793005)) + 1442695040888963407)) / 140737488355328)) 255,s0_1,wrap64 ((wrap64 (s0_2 * 6364136223846793005)) + 1442695040888963407)))
set_option maxHeartbeats 8000000 in
set_option maxRecDepth 100000 in
theorem spec_l1Byte.calls (g : Nat) (s0_0 : List Int) (s0_1 : Int) (s0_2 : Int) (r1 : Int) (r2 : Int) (r3 : Int) (w0 w : World) (hI : IsS74 w0 w g s0_0 s0_1 s0_2) (hB : Below w0.heap.size w0 w) (h : spec_l1Byte.f s0_0 s0_1 s0_2 = some (r1, r2, r3)) :
    Calls Tryd.prog 58 #[.pointer (some ⟨g, 0, none⟩)] w fun e w' => e = .returned (.int .i64 r1) ∧ IsS74 w0 w' g s0_0 r2 r3 ∧ Below w0.heap.size w0 w' ∧ KeepBut w w' g none := by
  have HI0 := mk0 hI
  have HK := mk0 (KeepBut.refl w g none)
  have HL := mk0 hB.size
  clear hI
  have HW0 := mk0 hB.size
  have HB := mk0 hB
  clear hB
  have H : (if s0_1 < (s0_0.length : Int) then (if 0 ≤ s0_1 then (some (Go.bits .and .i64 (wrap64 ((Go.bits .and .i64 (Go.bits .xor .i64 ((wrap64 ((wrap64 (s0_2 * 6364136223846793005)) + 1442695040888963407)) / 8589934592) ((wrap64 ((wrap64 (s0_2 * 6364136223846793005)) + 1442695040888963407)) / 140737488355328)) 255) + (wrap64 (rd s0_0 s0_1)))) 255,wrap64 (s0_1 + 1),wrap64 ((wrap64 (s0_2 * 6364136223846793005)) + 1442695040888963407))) else (none)) else (some (Go.bits .and .i64 (Go.bits .xor .i64 ((wrap64 ((wrap64 (s0_2 * 6364136223846793005)) + 1442695040888963407)) / 8589934592) ((wrap64 ((wrap64 (s0_2 * 6364136223846793005)) + 1442695040888963407)) / 140737488355328)) 255,s0_1,wrap64 ((wrap64 (s0_2 * 6364136223846793005)) + 1442695040888963407)))) = some (r1,r2,r3) := h
  clear h
  by_cases c2 : s0_1 < (s0_0.length : Int)
  · rw [if_pos c2] at H
    have c2b0 : decide (s0_1 < (s0_0.length : Int)) = true := decide_eq_true c2
    clear c2
    by_cases c3 : 0 ≤ s0_1
    · rw [if_pos c3] at H
      have c3b0 : decide (0 ≤ s0_1) = true := decide_eq_true c3
      clear c3
      simp only [Option.some.injEq,Prod.mk.injEq] at H
      obtain ⟨rfl,rfl,rfl⟩ := H
      obtain ⟨ASz4_0,cSz4_0,HGz4,hgz4,HSz4_0⟩ := HI0.out
      have hcz4_0 := cellS74_0 HGz4
      have hcz4_1 := cellS74_1 HGz4
      have hcz4_2 := cellS74_2 HGz4
      have hfz4_1 := blk_frozen HGz4 1
      have hfz4_2 := blk_frozen HGz4 2
      clear HGz4 hgz4
      have p118 : 0 ≤ (s0_1 : Int) := of_decide_eq_true (by first|(with_reducible assumption)|assumption)
      have q118 : s0_1 < (s0_0.length : Int) := of_decide_eq_true (by first|(with_reducible assumption)|assumption)
      obtain ⟨ad118,e118,hx118_0⟩ := Kd.at_int HSz4_0 s0_1 p118 q118
      cases e118
      have hn118_0 : ad118.block ≠ g := Nat.ne_of_lt (Nat.lt_of_lt_of_le (by have := World.block_lt_of_cell? _ _ hx118_0;first|rwa [add_block] at this|exact this) (IsS74.ge HI0.out))
      replace hx118_0 := pw_cell_below HB.out hx118_0
      replace hx118_0 := (cell_far (p := ⟨g,2,none⟩) (by first|(rw [add_block];exact hn118_0)|(show (Addr.add _ _).block ≠ _;rw [add_block];exact hn118_0)|exact hn118_0) (.int .i64 (wrap64 ((wrap64 (s0_2 * 6364136223846793005)) + 1442695040888963407)))).trans hx118_0
      (try have hy118_0 := fun (n_ : Nat) => (show (((w.drewN n_).setCell ⟨g,2,none⟩ (.int .i64 (wrap64 ((wrap64 (s0_2 * 6364136223846793005)) + 1442695040888963407))))).cell? _ = some _ from hx118_0))
      clear hn118_0
      replace p118 := eq_true p118
      replace q118 := eq_true q118
      go_enter Tryd.func58,Tryd.ntmps58
      go_wp2
      repeat (go_quiet (fail);try go_wp2)
      go_ret
      exact ⟨by first|rfl|(simp [errW_none,errW_some] <;> rfl)|(simp [*,errW_none,errW_some] <;> rfl),by repeat (first|(with_reducible first|exact HI0.out|apply IsS74.alloc|apply IsS74.drewN|apply IsS74.drew|apply IsS74.set_1|apply IsS74.set_2)|exact HI0.out),by repeat (first|(with_reducible first|exact HB.out|apply bA|apply bN|apply bD|refine bS ?_ (IsS74.ge HI0.out))|exact HB.out),by repeat (first|(with_reducible first|exact HK.out|apply KeepBut.set_|apply keep_drewN|apply keep_drew|apply keep_alloc)|exact HK.out)⟩
    · rw [if_neg c3] at H
      exact absurd H (by simp)
  · rw [if_neg c2] at H
    have c2b0 : decide (s0_1 < (s0_0.length : Int)) = false := decide_eq_false c2
    clear c2
    simp only [Option.some.injEq,Prod.mk.injEq] at H
    obtain ⟨rfl,rfl,rfl⟩ := H
    obtain ⟨ASz5_0,cSz5_0,HGz5,hgz5,HSz5_0⟩ := HI0.out
    have hcz5_0 := cellS74_0 HGz5
    have hcz5_1 := cellS74_1 HGz5
    have hcz5_2 := cellS74_2 HGz5
    have hfz5_1 := blk_frozen HGz5 1
    have hfz5_2 := blk_frozen HGz5 2
    clear HGz5 hgz5
    go_enter Tryd.func58,Tryd.ntmps58
    go_wp2
    repeat (go_quiet (fail);try go_wp2)
    go_ret
    exact ⟨by first|rfl|(simp [errW_none,errW_some] <;> rfl)|(simp [*,errW_none,errW_some] <;> rfl),by repeat (first|(with_reducible first|exact HI0.out|apply IsS74.alloc|apply IsS74.drewN|apply IsS74.drew|apply IsS74.set_1|apply IsS74.set_2)|exact HI0.out),by repeat (first|(with_reducible first|exact HB.out|apply bA|apply bN|apply bD|refine bS ?_ (IsS74.ge HI0.out))|exact HB.out),by repeat (first|(with_reducible first|exact HK.out|apply KeepBut.set_|apply keep_drewN|apply keep_drew|apply keep_alloc)|exact HK.out)⟩

/-! ### spec_l1Below: function 43 -/
def spec_l1Below.f (s0_0 : List Int) (s0_1 : Int) (s0_2 : Int) (a1 : Int) : Option (Int × Int × Int) := if a1 ≤ 0 then (some (0,s0_1,s0_2)) else (if a1 ≤ 256 then ((spec_l1Byte.f s0_0 s0_1 s0_2).bind fun bt119 => (if a1 = 0 then (none) else (some (Int.tmod bt119.1 a1,bt119.2.1,bt119.2.2)))) else ((spec_l1Byte.f s0_0 s0_1 s0_2).bind fun bt122 => ((spec_l1Byte.f s0_0 bt122.2.1 bt122.2.2).bind fun bt125 => ((spec_l1Byte.f s0_0 bt125.2.1 bt125.2.2).bind fun bt128 => (if a1 = 0 then (none) else (some (Int.tmod (wrap64 ((wrap64 ((wrap64 (bt122.1 * 65536)) + (wrap64 (bt125.1 * 256)))) + bt128.1)) a1,bt128.2.1,bt128.2.2)))))))
set_option maxHeartbeats 8000000 in
set_option maxRecDepth 100000 in
theorem spec_l1Below.calls (g : Nat) (s0_0 : List Int) (s0_1 : Int) (s0_2 : Int) (a1 : Int) (r1 : Int) (r2 : Int) (r3 : Int) (w0 w : World) (hI : IsS74 w0 w g s0_0 s0_1 s0_2) (hB : Below w0.heap.size w0 w) (h : spec_l1Below.f s0_0 s0_1 s0_2 a1 = some (r1, r2, r3)) :
    Calls Tryd.prog 43 #[.pointer (some ⟨g, 0, none⟩), .int .i64 a1] w fun e w' => e = .returned (.int .i64 r1) ∧ IsS74 w0 w' g s0_0 r2 r3 ∧ Below w0.heap.size w0 w' ∧ KeepBut w w' g none := by
  have HI0 := mk0 hI
  have HK := mk0 (KeepBut.refl w g none)
  have HL := mk0 hB.size
  clear hI
  have HW0 := mk0 hB.size
  have HB := mk0 hB
  clear hB
  have H : (if a1 ≤ 0 then (some (0,s0_1,s0_2)) else (if a1 ≤ 256 then ((spec_l1Byte.f s0_0 s0_1 s0_2).bind fun bt119 => (if a1 = 0 then (none) else (some (Int.tmod bt119.1 a1,bt119.2.1,bt119.2.2)))) else ((spec_l1Byte.f s0_0 s0_1 s0_2).bind fun bt122 => ((spec_l1Byte.f s0_0 bt122.2.1 bt122.2.2).bind fun bt125 => ((spec_l1Byte.f s0_0 bt125.2.1 bt125.2.2).bind fun bt128 => (if a1 = 0 then (none) else (some (Int.tmod (wrap64 ((wrap64 ((wrap64 (bt122.1 * 65536)) + (wrap64 (bt125.1 * 256)))) + bt128.1)) a1,bt128.2.1,bt128.2.2)))))))) = some (r1,r2,r3) := h
  clear h
  by_cases c3 : a1 ≤ 0
  · rw [if_pos c3] at H
    have c3b0 : decide (a1 ≤ 0) = true := decide_eq_true c3
    clear c3
    simp only [Option.some.injEq,Prod.mk.injEq] at H
    obtain ⟨rfl,rfl,rfl⟩ := H
    go_enter Tryd.func43,Tryd.ntmps43
    go_wp2
    go_ret
    exact ⟨by first|rfl|(simp [errW_none,errW_some] <;> rfl)|(simp [*,errW_none,errW_some] <;> rfl),by repeat (first|(with_reducible first|exact HI0.out|apply IsS74.alloc|apply IsS74.drewN|apply IsS74.drew|apply IsS74.set_1|apply IsS74.set_2)|exact HI0.out),by repeat (first|(with_reducible first|exact HB.out|apply bA|apply bN|apply bD|refine bS ?_ (IsS74.ge HI0.out))|exact HB.out),by repeat (first|(with_reducible first|exact HK.out|apply KeepBut.set_|apply keep_drewN|apply keep_drew|apply keep_alloc)|exact HK.out)⟩
  · rw [if_neg c3] at H
    have c3b0 : decide (a1 ≤ 0) = false := decide_eq_false c3
    clear c3
    by_cases c4 : a1 ≤ 256
    · rw [if_pos c4] at H
      have c4b0 : decide (a1 ≤ 256) = true := decide_eq_true c4
      clear c4
      replace H := Option.bind_eq_some_iff.mp H
      obtain ⟨⟨t119,t120,t121⟩,A50,H⟩ := H
      replace H : (if a1 = 0 then (none) else (some (Int.tmod t119 a1,t120,t121))) = some (r1,r2,r3) := H
      have A5 := mk0 A50
      clear A50
      by_cases c6 : a1 = 0
      · rw [if_pos c6] at H
        exact absurd H (by simp)
      · rw [if_neg c6] at H
        have c6b0 : (a1 == 0) = false := beq_eq_false_iff_ne.mpr c6
        have c6b1 : (a1 != 0) = true := bne_iff_ne.mpr c6
        simp only [Option.some.injEq,Prod.mk.injEq] at H
        obtain ⟨rfl,rfl,rfl⟩ := H
        go_enter Tryd.func43,Tryd.ntmps43
        go_wp2_with (first|((with_reducible refine gate_callee (f := 58) rfl ?_);refine goesL_ (some 13) rfl rfl Tryd.func58 (by kernel_rfl) rfl #[.pointer (some ⟨g,0,none⟩)] rfl (by (try simp only [List.map_toArray,List.map_cons,List.map_nil]);first|done|rfl) ?_;(with_reducible refine (spec_l1Byte.calls g s0_0 s0_1 s0_2 t119 t120 t121 w0 _ ?side1 ?side2 A5.out).mono ?_);(case side1 => repeat (first|(with_reducible first|exact HI0.out|apply IsS74.alloc|apply IsS74.drewN|apply IsS74.drew|apply IsS74.set_1|apply IsS74.set_2)|exact HI0.out));(case side2 => repeat (first|(with_reducible first|exact HB.out|apply bA|apply bN|apply bD|refine bS ?_ (IsS74.ge HI0.out))|exact HB.out));rintro e w7 ⟨rfl,hi,hb,hk⟩;refine ⟨_,rfl,?_⟩;have n0_ := mk0 (KeepBut.trans (by repeat (first|(with_reducible first|exact HK.out|apply KeepBut.set_|apply keep_drewN|apply keep_drew|apply keep_alloc)|exact HK.out)) hk (.inl rfl));have n1_ := mk0 (hb);have n2_ := mk0 (hi);clear HK;clear HB;clear HI0;have HK := n0_;have HB := n1_;have HI0 := n2_;clear n0_ n1_ n2_;(try clear hb);(try clear hb2);(try clear hk);(try clear hi)))
        go_ret
        exact ⟨by first|rfl|(simp [errW_none,errW_some] <;> rfl)|(simp [*,errW_none,errW_some] <;> rfl),by repeat (first|(with_reducible first|exact HI0.out|apply IsS74.alloc|apply IsS74.drewN|apply IsS74.drew|apply IsS74.set_1|apply IsS74.set_2)|exact HI0.out),by repeat (first|(with_reducible first|exact HB.out|apply bA|apply bN|apply bD|refine bS ?_ (IsS74.ge HI0.out))|exact HB.out),by repeat (first|(with_reducible first|exact HK.out|apply KeepBut.set_|apply keep_drewN|apply keep_drew|apply keep_alloc)|exact HK.out)⟩
    · rw [if_neg c4] at H
      have c4b0 : decide (a1 ≤ 256) = false := decide_eq_false c4
      clear c4
      replace H := Option.bind_eq_some_iff.mp H
      obtain ⟨⟨t122,t123,t124⟩,A80,H⟩ := H
      replace H : ((spec_l1Byte.f s0_0 t123 t124).bind fun bt125 => ((spec_l1Byte.f s0_0 bt125.2.1 bt125.2.2).bind fun bt128 => (if a1 = 0 then (none) else (some (Int.tmod (wrap64 ((wrap64 ((wrap64 (t122 * 65536)) + (wrap64 (bt125.1 * 256)))) + bt128.1)) a1,bt128.2.1,bt128.2.2))))) = some (r1,r2,r3) := H
      have A8 := mk0 A80
      clear A80
      replace H := Option.bind_eq_some_iff.mp H
      obtain ⟨⟨t125,t126,t127⟩,A90,H⟩ := H
      replace H : ((spec_l1Byte.f s0_0 t126 t127).bind fun bt128 => (if a1 = 0 then (none) else (some (Int.tmod (wrap64 ((wrap64 ((wrap64 (t122 * 65536)) + (wrap64 (t125 * 256)))) + bt128.1)) a1,bt128.2.1,bt128.2.2)))) = some (r1,r2,r3) := H
      have A9 := mk0 A90
      clear A90
      replace H := Option.bind_eq_some_iff.mp H
      obtain ⟨⟨t128,t129,t130⟩,A100,H⟩ := H
      replace H : (if a1 = 0 then (none) else (some (Int.tmod (wrap64 ((wrap64 ((wrap64 (t122 * 65536)) + (wrap64 (t125 * 256)))) + t128)) a1,t129,t130))) = some (r1,r2,r3) := H
      have A10 := mk0 A100
      clear A100
      by_cases c11 : a1 = 0
      · rw [if_pos c11] at H
        exact absurd H (by simp)
      · rw [if_neg c11] at H
        have c11b0 : (a1 == 0) = false := beq_eq_false_iff_ne.mpr c11
        have c11b1 : (a1 != 0) = true := bne_iff_ne.mpr c11
        simp only [Option.some.injEq,Prod.mk.injEq] at H
        obtain ⟨rfl,rfl,rfl⟩ := H
        go_enter Tryd.func43,Tryd.ntmps43
        go_wp2_with (first|((with_reducible refine gate_callee (f := 58) rfl ?_);refine goesL_ (some 17) rfl rfl Tryd.func58 (by kernel_rfl) rfl #[.pointer (some ⟨g,0,none⟩)] rfl (by (try simp only [List.map_toArray,List.map_cons,List.map_nil]);first|done|rfl) ?_;(with_reducible refine (spec_l1Byte.calls g s0_0 s0_1 s0_2 t122 t123 t124 w0 _ ?side1 ?side2 A8.out).mono ?_);(case side1 => repeat (first|(with_reducible first|exact HI0.out|apply IsS74.alloc|apply IsS74.drewN|apply IsS74.drew|apply IsS74.set_1|apply IsS74.set_2)|exact HI0.out));(case side2 => repeat (first|(with_reducible first|exact HB.out|apply bA|apply bN|apply bD|refine bS ?_ (IsS74.ge HI0.out))|exact HB.out));rintro e w12 ⟨rfl,hi,hb,hk⟩;refine ⟨_,rfl,?_⟩;have n0_ := mk0 (KeepBut.trans (by repeat (first|(with_reducible first|exact HK.out|apply KeepBut.set_|apply keep_drewN|apply keep_drew|apply keep_alloc)|exact HK.out)) hk (.inl rfl));have n1_ := mk0 (hb);have n2_ := mk0 (hi);clear HK;clear HB;clear HI0;have HK := n0_;have HB := n1_;have HI0 := n2_;clear n0_ n1_ n2_;(try clear hb);(try clear hb2);(try clear hk);(try clear hi))|((with_reducible refine gate_callee (f := 58) rfl ?_);refine goesL_ (some 19) rfl rfl Tryd.func58 (by kernel_rfl) rfl #[.pointer (some ⟨g,0,none⟩)] rfl (by (try simp only [List.map_toArray,List.map_cons,List.map_nil]);first|done|rfl) ?_;(with_reducible refine (spec_l1Byte.calls g s0_0 t123 t124 t125 t126 t127 w0 _ ?side1 ?side2 A9.out).mono ?_);(case side1 => repeat (first|(with_reducible first|exact HI0.out|apply IsS74.alloc|apply IsS74.drewN|apply IsS74.drew|apply IsS74.set_1|apply IsS74.set_2)|exact HI0.out));(case side2 => repeat (first|(with_reducible first|exact HB.out|apply bA|apply bN|apply bD|refine bS ?_ (IsS74.ge HI0.out))|exact HB.out));rintro e w13 ⟨rfl,hi,hb,hk⟩;refine ⟨_,rfl,?_⟩;have n0_ := mk0 (KeepBut.trans (by repeat (first|(with_reducible first|exact HK.out|apply KeepBut.set_|apply keep_drewN|apply keep_drew|apply keep_alloc)|exact HK.out)) hk (.inl rfl));have n1_ := mk0 (hb);have n2_ := mk0 (hi);clear HK;clear HB;clear HI0;have HK := n0_;have HB := n1_;have HI0 := n2_;clear n0_ n1_ n2_;(try clear hb);(try clear hb2);(try clear hk);(try clear hi))|((with_reducible refine gate_callee (f := 58) rfl ?_);refine goesL_ (some 21) rfl rfl Tryd.func58 (by kernel_rfl) rfl #[.pointer (some ⟨g,0,none⟩)] rfl (by (try simp only [List.map_toArray,List.map_cons,List.map_nil]);first|done|rfl) ?_;(with_reducible refine (spec_l1Byte.calls g s0_0 t126 t127 t128 t129 t130 w0 _ ?side1 ?side2 A10.out).mono ?_);(case side1 => repeat (first|(with_reducible first|exact HI0.out|apply IsS74.alloc|apply IsS74.drewN|apply IsS74.drew|apply IsS74.set_1|apply IsS74.set_2)|exact HI0.out));(case side2 => repeat (first|(with_reducible first|exact HB.out|apply bA|apply bN|apply bD|refine bS ?_ (IsS74.ge HI0.out))|exact HB.out));rintro e w14 ⟨rfl,hi,hb,hk⟩;refine ⟨_,rfl,?_⟩;have n0_ := mk0 (KeepBut.trans (by repeat (first|(with_reducible first|exact HK.out|apply KeepBut.set_|apply keep_drewN|apply keep_drew|apply keep_alloc)|exact HK.out)) hk (.inl rfl));have n1_ := mk0 (hb);have n2_ := mk0 (hi);clear HK;clear HB;clear HI0;have HK := n0_;have HB := n1_;have HI0 := n2_;clear n0_ n1_ n2_;(try clear hb);(try clear hb2);(try clear hk);(try clear hi)))
        go_ret
        exact ⟨by first|rfl|(simp [errW_none,errW_some] <;> rfl)|(simp [*,errW_none,errW_some] <;> rfl),by repeat (first|(with_reducible first|exact HI0.out|apply IsS74.alloc|apply IsS74.drewN|apply IsS74.drew|apply IsS74.set_1|apply IsS74.set_2)|exact HI0.out),by repeat (first|(with_reducible first|exact HB.out|apply bA|apply bN|apply bD|refine bS ?_ (IsS74.ge HI0.out))|exact HB.out),by repeat (first|(with_reducible first|exact HK.out|apply KeepBut.set_|apply keep_drewN|apply keep_drew|apply keep_alloc)|exact HK.out)⟩

/-! ### spec_l1Once: function 41 -/
def spec_l1Once.f (s0_0 : List Int) (s0_1 : Int) (s0_2 : Int) (a1 : Int) : Option (Bool × Int × Int) := (spec_l1Below.f s0_0 s0_1 s0_2 a1).bind fun bt131 => (some ((bt131.1 == 0),bt131.2.1,bt131.2.2))
set_option maxHeartbeats 8000000 in
set_option maxRecDepth 100000 in
theorem spec_l1Once.calls (g : Nat) (s0_0 : List Int) (s0_1 : Int) (s0_2 : Int) (a1 : Int) (r1 : Bool) (r2 : Int) (r3 : Int) (w0 w : World) (hI : IsS74 w0 w g s0_0 s0_1 s0_2) (hB : Below w0.heap.size w0 w) (h : spec_l1Once.f s0_0 s0_1 s0_2 a1 = some (r1, r2, r3)) :
    Calls Tryd.prog 41 #[.pointer (some ⟨g, 0, none⟩), .int .i64 a1] w fun e w' => e = .returned (.bool r1) ∧ IsS74 w0 w' g s0_0 r2 r3 ∧ Below w0.heap.size w0 w' ∧ KeepBut w w' g none := by
  have HI0 := mk0 hI
  have HK := mk0 (KeepBut.refl w g none)
  have HL := mk0 hB.size
  clear hI
  have HW0 := mk0 hB.size
  have HB := mk0 hB
  clear hB
  have H : ((spec_l1Below.f s0_0 s0_1 s0_2 a1).bind fun bt131 => (some ((bt131.1 == 0),bt131.2.1,bt131.2.2))) = some (r1,r2,r3) := h
  clear h
  replace H := Option.bind_eq_some_iff.mp H
  obtain ⟨⟨t131,t132,t133⟩,A30,H⟩ := H
  replace H : (some ((t131 == 0),t132,t133)) = some (r1,r2,r3) := H
  have A3 := mk0 A30
  clear A30
  simp only [Option.some.injEq,Prod.mk.injEq] at H
  obtain ⟨rfl,rfl,rfl⟩ := H
  go_enter Tryd.func41,Tryd.ntmps41
  go_wp2_with (first|((with_reducible refine gate_callee (f := 43) rfl ?_);refine goesL_ (some 7) rfl rfl Tryd.func43 (by kernel_rfl) rfl #[.pointer (some ⟨g,0,none⟩),.int .i64 a1] rfl (by (try simp only [List.map_toArray,List.map_cons,List.map_nil]);first|done|rfl) ?_;(with_reducible refine (spec_l1Below.calls g s0_0 s0_1 s0_2 a1 t131 t132 t133 w0 _ ?side1 ?side2 A3.out).mono ?_);(case side1 => repeat (first|(with_reducible first|exact HI0.out|apply IsS74.alloc|apply IsS74.drewN|apply IsS74.drew|apply IsS74.set_1|apply IsS74.set_2)|exact HI0.out));(case side2 => repeat (first|(with_reducible first|exact HB.out|apply bA|apply bN|apply bD|refine bS ?_ (IsS74.ge HI0.out))|exact HB.out));rintro e w4 ⟨rfl,hi,hb,hk⟩;refine ⟨_,rfl,?_⟩;have n0_ := mk0 (KeepBut.trans (by repeat (first|(with_reducible first|exact HK.out|apply KeepBut.set_|apply keep_drewN|apply keep_drew|apply keep_alloc)|exact HK.out)) hk (.inl rfl));have n1_ := mk0 (hb);have n2_ := mk0 (hi);clear HK;clear HB;clear HI0;have HK := n0_;have HB := n1_;have HI0 := n2_;clear n0_ n1_ n2_;(try clear hb);(try clear hb2);(try clear hk);(try clear hi)))
  go_ret
  exact ⟨by first|rfl|(simp [errW_none,errW_some] <;> rfl)|(simp [*,errW_none,errW_some] <;> rfl),by repeat (first|(with_reducible first|exact HI0.out|apply IsS74.alloc|apply IsS74.drewN|apply IsS74.drew|apply IsS74.set_1|apply IsS74.set_2)|exact HI0.out),by repeat (first|(with_reducible first|exact HB.out|apply bA|apply bN|apply bD|refine bS ?_ (IsS74.ge HI0.out))|exact HB.out),by repeat (first|(with_reducible first|exact HK.out|apply KeepBut.set_|apply keep_drewN|apply keep_drew|apply keep_alloc)|exact HK.out)⟩

/-! ### spec_l1Str: function 42 -/
def spec_l1Str.f (s0_0 : List Int) (s0_1 : Int) (s0_2 : Int) (l1 : List ByteArray) : Option (ByteArray × Int × Int) := (spec_l1Below.f s0_0 s0_1 s0_2 (l1.length : Int)).bind fun bt134 => (if 0 ≤ bt134.1 then (if bt134.1 < (l1.length : Int) then (some (rdOf ByteArray.empty l1 bt134.1,bt134.2.1,bt134.2.2)) else (none)) else (none))
set_option maxHeartbeats 8000000 in
set_option maxRecDepth 100000 in
theorem spec_l1Str.calls (g : Nat) (s0_0 : List Int) (s0_1 : Int) (s0_2 : Int) (A1 : Option Addr) (c1 : Nat) (l1 : List ByteArray) (r1 : ByteArray) (r2 : Int) (r3 : Int) (w0 w : World) (hI : IsS74 w0 w g s0_0 s0_1 s0_2) (hB : Below w0.heap.size w0 w) (hr1 : Kd.C Kd.string w A1 l1.length l1) (hc1 : l1.length ≤ c1) (hf1 : ∀ ad, A1 = some ad → 0 < l1.length → ad.block ≠ g) (h : spec_l1Str.f s0_0 s0_1 s0_2 l1 = some (r1, r2, r3)) :
    Calls Tryd.prog 42 #[.pointer (some ⟨g, 0, none⟩), .slice A1 l1.length c1] w fun e w' => e = .returned (.string r1) ∧ IsS74 w0 w' g s0_0 r2 r3 ∧ Below w0.heap.size w0 w' ∧ KeepBut w w' g none := by
  have HR1 := mk0 hr1
  have HC1 := mk0 hc1
  clear hr1 hc1
  have HI0 := mk0 hI
  have HK := mk0 (KeepBut.refl w g none)
  have HL := mk0 hB.size
  clear hI
  have HW0 := mk0 hB.size
  have HB := mk0 hB
  clear hB
  have H : ((spec_l1Below.f s0_0 s0_1 s0_2 (l1.length : Int)).bind fun bt134 => (if 0 ≤ bt134.1 then (if bt134.1 < (l1.length : Int) then (some (rdOf ByteArray.empty l1 bt134.1,bt134.2.1,bt134.2.2)) else (none)) else (none))) = some (r1,r2,r3) := h
  clear h
  replace H := Option.bind_eq_some_iff.mp H
  obtain ⟨⟨t134,t135,t136⟩,A30,H⟩ := H
  replace H : (if 0 ≤ t134 then (if t134 < (l1.length : Int) then (some (rdOf ByteArray.empty l1 t134,t135,t136)) else (none)) else (none)) = some (r1,r2,r3) := H
  have A3 := mk0 A30
  clear A30
  by_cases c4 : 0 ≤ t134
  · rw [if_pos c4] at H
    have c4b0 : decide (0 ≤ t134) = true := decide_eq_true c4
    clear c4
    by_cases c5 : t134 < (l1.length : Int)
    · rw [if_pos c5] at H
      have c5b0 : decide (t134 < (l1.length : Int)) = true := decide_eq_true c5
      clear c5
      simp only [Option.some.injEq,Prod.mk.injEq] at H
      obtain ⟨rfl,rfl,rfl⟩ := H
      go_enter Tryd.func42,Tryd.ntmps42
      go_wp2_with (first|((with_reducible refine gate_callee (f := 43) rfl ?_);refine goesL_ (some 9) rfl rfl Tryd.func43 (by kernel_rfl) rfl #[.pointer (some ⟨g,0,none⟩),.int .i64 (l1.length : Int)] rfl (by (try simp only [List.map_toArray,List.map_cons,List.map_nil]);first|done|rfl) ?_;(with_reducible refine (spec_l1Below.calls g s0_0 s0_1 s0_2 (l1.length : Int) t134 t135 t136 w0 _ ?side1 ?side2 A3.out).mono ?_);(case side1 => repeat (first|(with_reducible first|exact HI0.out|apply IsS74.alloc|apply IsS74.drewN|apply IsS74.drew|apply IsS74.set_1|apply IsS74.set_2)|exact HI0.out));(case side2 => repeat (first|(with_reducible first|exact HB.out|apply bA|apply bN|apply bD|refine bS ?_ (IsS74.ge HI0.out))|exact HB.out));rintro e w6 ⟨rfl,hi,hb,hk⟩;refine ⟨_,rfl,?_⟩;have n0_ := mk0 (KeepBut.trans (by repeat (first|(with_reducible first|exact HK.out|apply KeepBut.set_|apply keep_drewN|apply keep_drew|apply keep_alloc)|exact HK.out)) hk (.inl rfl));have n1_ := mk0 (hb);have n2_ := mk0 (hi);clear HK;clear HB;clear HI0;have HK := n0_;have HB := n1_;have HI0 := n2_;clear n0_ n1_ n2_;(try clear hb);(try clear hb2);(try clear hk);(try clear hi);have p137 : 0 ≤ (t134 : Int) := of_decide_eq_true (by first|(with_reducible assumption)|assumption);have q137 : t134 < (l1.length : Int) := of_decide_eq_true (by first|(with_reducible assumption)|assumption);obtain ⟨ad137,e137,hx137_0⟩ := Kd.at_string HR1.out t134 p137 q137;cases e137;replace hx137_0 := keep_cell HK.out hx137_0 (by first|(rw [add_block];exact hf1 _ rfl (by omega))|exact hf1 _ rfl (by omega)|exact hf1 ad137 rfl (by omega));replace p137 := eq_true p137;replace q137 := eq_true q137))
      go_ret
      exact ⟨by first|rfl|(simp [errW_none,errW_some] <;> rfl)|(simp [*,errW_none,errW_some] <;> rfl),by repeat (first|(with_reducible first|exact HI0.out|apply IsS74.alloc|apply IsS74.drewN|apply IsS74.drew|apply IsS74.set_1|apply IsS74.set_2)|exact HI0.out),by repeat (first|(with_reducible first|exact HB.out|apply bA|apply bN|apply bD|refine bS ?_ (IsS74.ge HI0.out))|exact HB.out),by repeat (first|(with_reducible first|exact HK.out|apply KeepBut.set_|apply keep_drewN|apply keep_drew|apply keep_alloc)|exact HK.out)⟩
    · rw [if_neg c5] at H
      exact absurd H (by simp)
  · rw [if_neg c4] at H
    exact absurd H (by simp)

/-! ### spec_DrawParseNum: function 20 -/
def spec_DrawParseNum.f (k : Nat) (l0 : List Int) : Option (ByteArray) := (spec_l1New.f k l0).bind fun bt138 => ((spec_l1Once.f bt138.1 bt138.2.1 bt138.2.2 3).bind fun bt142 => (if bt142.1 = true then ((spec_l1Str.f bt138.1 bt142.2.1 bt142.2.2 (([(⟨#[]⟩ : ByteArray),(⟨#[48,48]⟩ : ByteArray),(⟨#[48,49]⟩ : ByteArray),(⟨#[120]⟩ : ByteArray),(⟨#[45,49]⟩ : ByteArray),(⟨#[50,49,52,55,52,56,51,54,52,55]⟩ : ByteArray),(⟨#[50,49,52,55,52,56,51,54,52,56]⟩ : ByteArray),(⟨#[57,57,57,57,57,57,57,57,57,57,57]⟩ : ByteArray),(⟨#[49,32]⟩ : ByteArray)] : List ByteArray))).bind fun bt148 => (some bt148.1)) else ((spec_l1Below.f bt138.1 bt142.2.1 bt142.2.2 70000).bind fun bt151 => ((spec_NumText.f k bt151.1).bind fun t154 => (some t154)))))
theorem spec_DrawParseNum.mono : ∀ a0 k, LeO (spec_DrawParseNum.f k a0) (spec_DrawParseNum.f (k + 1) a0) := by
  intro a0 k
  unfold spec_DrawParseNum.f
  repeat' first
      | (with_reducible exact spec_NumText.mono _ _)
      | (with_reducible exact spec_l1New.mono _ _)
      | (with_reducible exact LeO.refl _)
      | (with_reducible exact LeO.none _)
      | (with_reducible refine LeO.ite ?_ ?_)
      | (with_reducible refine LeO.bind ?_ (fun _ => ?_))
      | exact spec_NumText.mono _ _
      | exact spec_l1New.mono _ _
      | exact LeO.none _
      | refine LeO.ite ?_ ?_
      | refine LeO.bind ?_ (fun _ => ?_)
set_option maxHeartbeats 8000000 in
set_option maxRecDepth 100000 in
theorem spec_DrawParseNum.calls (k : Nat) (A0 : Option Addr) (c0 : Nat) (l0 : List Int) (r : ByteArray) (w : World) (hr0 : Kd.C (Kd.int .u8) w A0 l0.length l0) (hc0 : l0.length ≤ c0) (h : spec_DrawParseNum.f k l0 = some r) :
    Calls Tryd.prog 20 #[.slice A0 l0.length c0] w fun e w' => e = .returned (.string r) ∧ Below w.heap.size w w' := by
  have HR0 := mk0 hr0
  have HC0 := mk0 hc0
  clear hr0 hc0
  have HB := mk0 (Below.refl w.heap.size w)
  have H : ((spec_l1New.f k l0).bind fun bt138 => ((spec_l1Once.f bt138.1 bt138.2.1 bt138.2.2 3).bind fun bt142 => (if bt142.1 = true then ((spec_l1Str.f bt138.1 bt142.2.1 bt142.2.2 (([(⟨#[]⟩ : ByteArray),(⟨#[48,48]⟩ : ByteArray),(⟨#[48,49]⟩ : ByteArray),(⟨#[120]⟩ : ByteArray),(⟨#[45,49]⟩ : ByteArray),(⟨#[50,49,52,55,52,56,51,54,52,55]⟩ : ByteArray),(⟨#[50,49,52,55,52,56,51,54,52,56]⟩ : ByteArray),(⟨#[57,57,57,57,57,57,57,57,57,57,57]⟩ : ByteArray),(⟨#[49,32]⟩ : ByteArray)] : List ByteArray))).bind fun bt148 => (some bt148.1)) else ((spec_l1Below.f bt138.1 bt142.2.1 bt142.2.2 70000).bind fun bt151 => ((spec_NumText.f k bt151.1).bind fun t154 => (some t154)))))) = some r := h
  clear h
  replace H := Option.bind_eq_some_iff.mp H
  obtain ⟨⟨t138,t139,t140⟩,A20,H⟩ := H
  replace H : ((spec_l1Once.f t138 t139 t140 3).bind fun bt142 => (if bt142.1 = true then ((spec_l1Str.f t138 bt142.2.1 bt142.2.2 (([(⟨#[]⟩ : ByteArray),(⟨#[48,48]⟩ : ByteArray),(⟨#[48,49]⟩ : ByteArray),(⟨#[120]⟩ : ByteArray),(⟨#[45,49]⟩ : ByteArray),(⟨#[50,49,52,55,52,56,51,54,52,55]⟩ : ByteArray),(⟨#[50,49,52,55,52,56,51,54,52,56]⟩ : ByteArray),(⟨#[57,57,57,57,57,57,57,57,57,57,57]⟩ : ByteArray),(⟨#[49,32]⟩ : ByteArray)] : List ByteArray))).bind fun bt148 => (some bt148.1)) else ((spec_l1Below.f t138 bt142.2.1 bt142.2.2 70000).bind fun bt151 => ((spec_NumText.f k bt151.1).bind fun t154 => (some t154))))) = some r := H
  have A2 := mk0 A20
  clear A20
  replace H := Option.bind_eq_some_iff.mp H
  obtain ⟨⟨t142,t143,t144⟩,A30,H⟩ := H
  replace H : (if t142 = true then ((spec_l1Str.f t138 t143 t144 (([(⟨#[]⟩ : ByteArray),(⟨#[48,48]⟩ : ByteArray),(⟨#[48,49]⟩ : ByteArray),(⟨#[120]⟩ : ByteArray),(⟨#[45,49]⟩ : ByteArray),(⟨#[50,49,52,55,52,56,51,54,52,55]⟩ : ByteArray),(⟨#[50,49,52,55,52,56,51,54,52,56]⟩ : ByteArray),(⟨#[57,57,57,57,57,57,57,57,57,57,57]⟩ : ByteArray),(⟨#[49,32]⟩ : ByteArray)] : List ByteArray))).bind fun bt148 => (some bt148.1)) else ((spec_l1Below.f t138 t143 t144 70000).bind fun bt151 => ((spec_NumText.f k bt151.1).bind fun t154 => (some t154)))) = some r := H
  have A3 := mk0 A30
  clear A30
  by_cases c4 : t142 = true
  · subst c4
    rw [if_pos rfl] at H
    obtain ⟨y145,hy145⟩ : ∃ y_ : List ByteArray,y_ = (([(⟨#[]⟩ : ByteArray),(⟨#[48,48]⟩ : ByteArray),(⟨#[48,49]⟩ : ByteArray),(⟨#[120]⟩ : ByteArray),(⟨#[45,49]⟩ : ByteArray),(⟨#[50,49,52,55,52,56,51,54,52,55]⟩ : ByteArray),(⟨#[50,49,52,55,52,56,51,54,52,56]⟩ : ByteArray),(⟨#[57,57,57,57,57,57,57,57,57,57,57]⟩ : ByteArray),(⟨#[49,32]⟩ : ByteArray)] : List ByteArray)) := ⟨_,rfl⟩
    replace H : ((spec_l1Str.f t138 t143 t144 y145).bind fun bt148 => (some bt148.1)) = some r := by first|(rw [hy145];with_reducible exact H)|(have H2_ := (Option.bind_some _ _).symm.trans H;rw [hy145];with_reducible exact H2_)|(have H2_ := (Option.bind_some _ _).symm.trans H;with_reducible exact H2_)|with_reducible exact H|(rw [hy145];exact H)|exact H
    have Ny145 := mk0 hy145
    clear hy145
    replace H := Option.bind_eq_some_iff.mp H
    obtain ⟨⟨t148,t149,t150⟩,A50,H⟩ := H
    replace H : (some t148) = some r := H
    have A5 := mk0 A50
    clear A50
    obtain rfl := Option.some.inj H
    go_enter Tryd.func20,Tryd.ntmps20
    go_wp2_with (first|((with_reducible refine gate_callee (f := 40) rfl ?_);refine goesL_ (some 5) rfl rfl Tryd.func40 (by kernel_rfl) rfl #[.slice A0 l0.length c0] rfl (by (try simp only [List.map_toArray,List.map_cons,List.map_nil]);first|done|rfl) ?_;(with_reducible refine (spec_l1New.calls k _ _ l0 t138 t139 t140 w _ ?side1 ?side2 ?side3 A2.out).mono ?_);(case side1 => repeat (first|(with_reducible first|exact HB.out|apply bA|apply bN|apply bD)|exact HB.out));(case side2 => exact HR0.out);(case side3 => exact HC0.out);rintro e w6 ⟨g141,rfl,hi,hb,hb2⟩;refine ⟨_,rfl,?_⟩;have n0_ := mk0 (hb);have n1_ := mk0 (hi);clear HB;have HB := n0_;have HI141 := n1_;clear n0_ n1_;(try clear hb);(try clear hb2);(try clear hk);(try clear hi))|((with_reducible refine gate_callee (f := 41) rfl ?_);refine goesL_ (some 7) rfl rfl Tryd.func41 (by kernel_rfl) rfl #[.pointer (some ⟨g141,0,none⟩),.int .i64 3] rfl (by (try simp only [List.map_toArray,List.map_cons,List.map_nil]);first|done|rfl) ?_;(with_reducible refine (spec_l1Once.calls g141 t138 t139 t140 3 true t143 t144 w _ ?side1 ?side2 A3.out).mono ?_);(case side1 => repeat (first|(with_reducible first|exact HI141.out|apply IsS74.alloc|apply IsS74.drewN|apply IsS74.drew|apply IsS74.set_1|apply IsS74.set_2)|exact HI141.out));(case side2 => repeat (first|(with_reducible first|exact HB.out|apply bA|apply bN|apply bD|refine bS ?_ (IsS74.ge HI141.out))|exact HB.out));rintro e w7 ⟨rfl,hi,hb,hk⟩;refine ⟨_,rfl,?_⟩;have n0_ := mk0 (hb);have n1_ := mk0 (hi);clear HB;clear HI141;have HB := n0_;have HI141 := n1_;clear n0_ n1_;(try clear hb);(try clear hb2);(try clear hk);(try clear hi))|((with_reducible refine gate_dst (N := 9) rfl ?_);refine Kd.R_lit Kd.string _ 9 ?hg (N := 9) ?hd (xs := ([(⟨#[]⟩ : ByteArray),(⟨#[48,48]⟩ : ByteArray),(⟨#[48,49]⟩ : ByteArray),(⟨#[120]⟩ : ByteArray),(⟨#[45,49]⟩ : ByteArray),(⟨#[50,49,52,55,52,56,51,54,52,55]⟩ : ByteArray),(⟨#[50,49,52,55,52,56,51,54,52,56]⟩ : ByteArray),(⟨#[57,57,57,57,57,57,57,57,57,57,57]⟩ : ByteArray),(⟨#[49,32]⟩ : ByteArray)] : List ByteArray)) (inner := [.string (⟨#[]⟩ : ByteArray),.string (⟨#[48,48]⟩ : ByteArray),.string (⟨#[48,49]⟩ : ByteArray),.string (⟨#[120]⟩ : ByteArray),.string (⟨#[45,49]⟩ : ByteArray),.string (⟨#[50,49,52,55,52,56,51,54,52,55]⟩ : ByteArray),.string (⟨#[50,49,52,55,52,56,51,54,52,56]⟩ : ByteArray),.string (⟨#[57,57,57,57,57,57,57,57,57,57,57]⟩ : ByteArray),.string (⟨#[49,32]⟩ : ByteArray)]) (ok := fun _ => True) (okp := fun _ => True) ?hr ?hp (fun _ hk => hk) trivial (Below.refl _ _) (Nat.le_refl _) (by simp) ?_;(case hd => rfl);(case hg => rfl);(case hr => first|(go_simp;done)|(go_simp;rfl));(case hp => exact (Reps.one (show Kd.M Kd.string _ _ _ (⟨#[]⟩ : ByteArray) [.string (⟨#[]⟩ : ByteArray)] from rfl) (Reps.one (show Kd.M Kd.string _ _ _ (⟨#[48,48]⟩ : ByteArray) [.string (⟨#[48,48]⟩ : ByteArray)] from rfl) (Reps.one (show Kd.M Kd.string _ _ _ (⟨#[48,49]⟩ : ByteArray) [.string (⟨#[48,49]⟩ : ByteArray)] from rfl) (Reps.one (show Kd.M Kd.string _ _ _ (⟨#[120]⟩ : ByteArray) [.string (⟨#[120]⟩ : ByteArray)] from rfl) (Reps.one (show Kd.M Kd.string _ _ _ (⟨#[45,49]⟩ : ByteArray) [.string (⟨#[45,49]⟩ : ByteArray)] from rfl) (Reps.one (show Kd.M Kd.string _ _ _ (⟨#[50,49,52,55,52,56,51,54,52,55]⟩ : ByteArray) [.string (⟨#[50,49,52,55,52,56,51,54,52,55]⟩ : ByteArray)] from rfl) (Reps.one (show Kd.M Kd.string _ _ _ (⟨#[50,49,52,55,52,56,51,54,52,56]⟩ : ByteArray) [.string (⟨#[50,49,52,55,52,56,51,54,52,56]⟩ : ByteArray)] from rfl) (Reps.one (show Kd.M Kd.string _ _ _ (⟨#[57,57,57,57,57,57,57,57,57,57,57]⟩ : ByteArray) [.string (⟨#[57,57,57,57,57,57,57,57,57,57,57]⟩ : ByteArray)] from rfl) (Reps.one (show Kd.M Kd.string _ _ _ (⟨#[49,32]⟩ : ByteArray) [.string (⟨#[49,32]⟩ : ByteArray)] from rfl) (Reps.none _ _)))))))))));intro v146 w8 ho9 hb hg_ hnew_;clear hg_ hnew_;(first|rw [← Ny145.out] at ho9|(simp only [Int.reduceToNat] at ho9;rw [← Ny145.out] at ho9));have n0_ := mk0 (Kd.R_lower ho9 (below_size (by repeat (first|(with_reducible first|exact HB.out|apply bA|apply bN|apply bD|refine bS ?_ (IsS74.ge HI141.out))|exact HB.out))));have n1_ := mk0 (IsS74.below (by repeat (first|(with_reducible first|exact HI141.out|apply IsS74.alloc|apply IsS74.drewN|apply IsS74.drew|apply IsS74.set_1|apply IsS74.set_2)|exact HI141.out)) hb);have n2_ := mk0 (below_step (by repeat (first|(with_reducible first|exact HB.out|apply bA|apply bN|apply bD|refine bS ?_ (IsS74.ge HI141.out))|exact HB.out)) hb);clear HI141;clear HB;have HO147 := n0_;have HI141 := n1_;have HB := n2_;clear n0_ n1_ n2_;clear hb ho9;obtain ⟨Ao10,co10,eo10⟩ := Kd.R_slice HO147.out;subst eo10)|((with_reducible refine gate_callee (f := 42) rfl ?_);refine goesL_ (some 10) rfl rfl Tryd.func42 (by kernel_rfl) rfl #[.pointer (some ⟨g141,0,none⟩),.slice Ao10 y145.length co10] rfl (by (try simp only [List.map_toArray,List.map_cons,List.map_nil]);first|done|rfl) ?_;(with_reducible refine (spec_l1Str.calls g141 t138 t143 t144 _ _ y145 t148 t149 t150 w _ ?side1 ?side2 ?side3 ?side4 ?side5 A5.out).mono ?_);(case side1 => repeat (first|(with_reducible first|exact HI141.out|apply IsS74.alloc|apply IsS74.drewN|apply IsS74.drew|apply IsS74.set_1|apply IsS74.set_2)|exact HI141.out));(case side2 => repeat (first|(with_reducible first|exact HB.out|apply bA|apply bN|apply bD|refine bS ?_ (IsS74.ge HI141.out))|exact HB.out));(case side3 => repeat (first|exact (Kd.R_reads' HO147.out).2.2|(with_reducible refine cA ?_ _)|(with_reducible refine cN ?_ _)|(with_reducible refine cD ?_)));(case side4 => exact (Kd.R_reads' HO147.out).2.1);(case side5 => exact far_slice (IsS74.own_ne HI141.out HO147.out (by decide)));rintro e w11 ⟨rfl,hi,hb,hk⟩;refine ⟨_,rfl,?_⟩;have n0_ := mk0 (Kd.R_mono (Kd.R_keep (IsS74.apart (show IsS74 w _ g141 t138 t143 t144 from by repeat (first|(with_reducible first|exact HI141.out|apply IsS74.alloc|apply IsS74.drewN|apply IsS74.drew|apply IsS74.set_1|apply IsS74.set_2)|exact HI141.out)) (by exact rX HO147.out) (by decide)) hk (fun _ h => h.2)) (fun _ h => h.1));have n1_ := mk0 (hb);have n2_ := mk0 (hi);clear HO147;clear HB;clear HI141;have HO147 := n0_;have HB := n1_;have HI141 := n2_;clear n0_ n1_ n2_;(try clear hb);(try clear hb2);(try clear hk);(try clear hi)))
    go_ret
    exact ⟨by first|rfl|(simp [errW_none,errW_some] <;> rfl)|(simp [*,errW_none,errW_some] <;> rfl),by repeat (first|(with_reducible first|exact HB.out|apply bA|apply bN|apply bD|refine bS ?_ (IsS74.ge HI141.out))|exact HB.out)⟩
  · replace c4 := Bool.eq_false_iff.mpr c4
    subst c4
    rw [if_neg (show ¬ (false = true) by decide)] at H
    replace H := Option.bind_eq_some_iff.mp H
    obtain ⟨⟨t151,t152,t153⟩,A120,H⟩ := H
    replace H : ((spec_NumText.f k t151).bind fun t154 => (some t154)) = some r := H
    have A12 := mk0 A120
    clear A120
    obtain ⟨t154,A13,H⟩ := bindA H
    obtain rfl := Option.some.inj H
    go_enter Tryd.func20,Tryd.ntmps20
    go_wp2_with (first|((with_reducible refine gate_callee (f := 40) rfl ?_);refine goesL_ (some 5) rfl rfl Tryd.func40 (by kernel_rfl) rfl #[.slice A0 l0.length c0] rfl (by (try simp only [List.map_toArray,List.map_cons,List.map_nil]);first|done|rfl) ?_;(with_reducible refine (spec_l1New.calls k _ _ l0 t138 t139 t140 w _ ?side1 ?side2 ?side3 A2.out).mono ?_);(case side1 => repeat (first|(with_reducible first|exact HB.out|apply bA|apply bN|apply bD)|exact HB.out));(case side2 => exact HR0.out);(case side3 => exact HC0.out);rintro e w14 ⟨g141,rfl,hi,hb,hb2⟩;refine ⟨_,rfl,?_⟩;have n0_ := mk0 (hb);have n1_ := mk0 (hi);clear HB;have HB := n0_;have HI141 := n1_;clear n0_ n1_;(try clear hb);(try clear hb2);(try clear hk);(try clear hi))|((with_reducible refine gate_callee (f := 41) rfl ?_);refine goesL_ (some 7) rfl rfl Tryd.func41 (by kernel_rfl) rfl #[.pointer (some ⟨g141,0,none⟩),.int .i64 3] rfl (by (try simp only [List.map_toArray,List.map_cons,List.map_nil]);first|done|rfl) ?_;(with_reducible refine (spec_l1Once.calls g141 t138 t139 t140 3 false t143 t144 w _ ?side1 ?side2 A3.out).mono ?_);(case side1 => repeat (first|(with_reducible first|exact HI141.out|apply IsS74.alloc|apply IsS74.drewN|apply IsS74.drew|apply IsS74.set_1|apply IsS74.set_2)|exact HI141.out));(case side2 => repeat (first|(with_reducible first|exact HB.out|apply bA|apply bN|apply bD|refine bS ?_ (IsS74.ge HI141.out))|exact HB.out));rintro e w15 ⟨rfl,hi,hb,hk⟩;refine ⟨_,rfl,?_⟩;have n0_ := mk0 (hb);have n1_ := mk0 (hi);clear HB;clear HI141;have HB := n0_;have HI141 := n1_;clear n0_ n1_;(try clear hb);(try clear hb2);(try clear hk);(try clear hi))|((with_reducible refine gate_callee (f := 43) rfl ?_);refine goesL_ (some 12) rfl rfl Tryd.func43 (by kernel_rfl) rfl #[.pointer (some ⟨g141,0,none⟩),.int .i64 70000] rfl (by (try simp only [List.map_toArray,List.map_cons,List.map_nil]);first|done|rfl) ?_;(with_reducible refine (spec_l1Below.calls g141 t138 t143 t144 70000 t151 t152 t153 w _ ?side1 ?side2 A12.out).mono ?_);(case side1 => repeat (first|(with_reducible first|exact HI141.out|apply IsS74.alloc|apply IsS74.drewN|apply IsS74.drew|apply IsS74.set_1|apply IsS74.set_2)|exact HI141.out));(case side2 => repeat (first|(with_reducible first|exact HB.out|apply bA|apply bN|apply bD|refine bS ?_ (IsS74.ge HI141.out))|exact HB.out));rintro e w16 ⟨rfl,hi,hb,hk⟩;refine ⟨_,rfl,?_⟩;have n0_ := mk0 (hb);have n1_ := mk0 (hi);clear HB;clear HI141;have HB := n0_;have HI141 := n1_;clear n0_ n1_;(try clear hb);(try clear hb2);(try clear hk);(try clear hi))|((with_reducible refine gate_callee (f := 9) rfl ?_);refine goesL_ (some 13) rfl rfl Tryd.func9 (by kernel_rfl) rfl #[.int .i64 t151] rfl (by (try simp only [List.map_toArray,List.map_cons,List.map_nil]);first|done|rfl) ?_;(with_reducible refine (spec_NumText.calls k t151 t154 _ A13.out).mono ?_);rintro e w17 ⟨rfl,hb⟩;refine ⟨_,rfl,?_⟩;have n0_ := mk0 (IsS74.below (by repeat (first|(with_reducible first|exact HI141.out|apply IsS74.alloc|apply IsS74.drewN|apply IsS74.drew|apply IsS74.set_1|apply IsS74.set_2)|exact HI141.out)) hb);have n1_ := mk0 (below_step (by repeat (first|(with_reducible first|exact HB.out|apply bA|apply bN|apply bD|refine bS ?_ (IsS74.ge HI141.out))|exact HB.out)) hb);clear HI141;clear HB;have HI141 := n0_;have HB := n1_;clear n0_ n1_;(try clear hb);(try clear hb2);(try clear hk);(try clear hi)))
    go_ret
    exact ⟨by first|rfl|(simp [errW_none,errW_some] <;> rfl)|(simp [*,errW_none,errW_some] <;> rfl),by repeat (first|(with_reducible first|exact HB.out|apply bA|apply bN|apply bD|refine bS ?_ (IsS74.ge HI141.out))|exact HB.out)⟩

/-! ### spec_l1Int: function 59 -/
def spec_l1Int.f (s0_0 : List Int) (s0_1 : Int) (s0_2 : Int) (l1 : List Int) : Option (Int × Int × Int) := (spec_l1Below.f s0_0 s0_1 s0_2 (l1.length : Int)).bind fun bt155 => (if 0 ≤ bt155.1 then (if bt155.1 < (l1.length : Int) then (some (rd l1 bt155.1,bt155.2.1,bt155.2.2)) else (none)) else (none))
set_option maxHeartbeats 8000000 in
set_option maxRecDepth 100000 in
theorem spec_l1Int.calls (g : Nat) (s0_0 : List Int) (s0_1 : Int) (s0_2 : Int) (A1 : Option Addr) (c1 : Nat) (l1 : List Int) (r1 : Int) (r2 : Int) (r3 : Int) (w0 w : World) (hI : IsS74 w0 w g s0_0 s0_1 s0_2) (hB : Below w0.heap.size w0 w) (hr1 : Kd.C (Kd.int .i64) w A1 l1.length l1) (hc1 : l1.length ≤ c1) (hf1 : ∀ ad, A1 = some ad → 0 < l1.length → ad.block ≠ g) (h : spec_l1Int.f s0_0 s0_1 s0_2 l1 = some (r1, r2, r3)) :
    Calls Tryd.prog 59 #[.pointer (some ⟨g, 0, none⟩), .slice A1 l1.length c1] w fun e w' => e = .returned (.int .i64 r1) ∧ IsS74 w0 w' g s0_0 r2 r3 ∧ Below w0.heap.size w0 w' ∧ KeepBut w w' g none := by
  have HR1 := mk0 hr1
  have HC1 := mk0 hc1
  clear hr1 hc1
  have HI0 := mk0 hI
  have HK := mk0 (KeepBut.refl w g none)
  have HL := mk0 hB.size
  clear hI
  have HW0 := mk0 hB.size
  have HB := mk0 hB
  clear hB
  have H : ((spec_l1Below.f s0_0 s0_1 s0_2 (l1.length : Int)).bind fun bt155 => (if 0 ≤ bt155.1 then (if bt155.1 < (l1.length : Int) then (some (rd l1 bt155.1,bt155.2.1,bt155.2.2)) else (none)) else (none))) = some (r1,r2,r3) := h
  clear h
  replace H := Option.bind_eq_some_iff.mp H
  obtain ⟨⟨t155,t156,t157⟩,A30,H⟩ := H
  replace H : (if 0 ≤ t155 then (if t155 < (l1.length : Int) then (some (rd l1 t155,t156,t157)) else (none)) else (none)) = some (r1,r2,r3) := H
  have A3 := mk0 A30
  clear A30
  by_cases c4 : 0 ≤ t155
  · rw [if_pos c4] at H
    have c4b0 : decide (0 ≤ t155) = true := decide_eq_true c4
    clear c4
    by_cases c5 : t155 < (l1.length : Int)
    · rw [if_pos c5] at H
      have c5b0 : decide (t155 < (l1.length : Int)) = true := decide_eq_true c5
      clear c5
      simp only [Option.some.injEq,Prod.mk.injEq] at H
      obtain ⟨rfl,rfl,rfl⟩ := H
      go_enter Tryd.func59,Tryd.ntmps59
      go_wp2_with (first|((with_reducible refine gate_callee (f := 43) rfl ?_);refine goesL_ (some 9) rfl rfl Tryd.func43 (by kernel_rfl) rfl #[.pointer (some ⟨g,0,none⟩),.int .i64 (l1.length : Int)] rfl (by (try simp only [List.map_toArray,List.map_cons,List.map_nil]);first|done|rfl) ?_;(with_reducible refine (spec_l1Below.calls g s0_0 s0_1 s0_2 (l1.length : Int) t155 t156 t157 w0 _ ?side1 ?side2 A3.out).mono ?_);(case side1 => repeat (first|(with_reducible first|exact HI0.out|apply IsS74.alloc|apply IsS74.drewN|apply IsS74.drew|apply IsS74.set_1|apply IsS74.set_2)|exact HI0.out));(case side2 => repeat (first|(with_reducible first|exact HB.out|apply bA|apply bN|apply bD|refine bS ?_ (IsS74.ge HI0.out))|exact HB.out));rintro e w6 ⟨rfl,hi,hb,hk⟩;refine ⟨_,rfl,?_⟩;have n0_ := mk0 (KeepBut.trans (by repeat (first|(with_reducible first|exact HK.out|apply KeepBut.set_|apply keep_drewN|apply keep_drew|apply keep_alloc)|exact HK.out)) hk (.inl rfl));have n1_ := mk0 (hb);have n2_ := mk0 (hi);clear HK;clear HB;clear HI0;have HK := n0_;have HB := n1_;have HI0 := n2_;clear n0_ n1_ n2_;(try clear hb);(try clear hb2);(try clear hk);(try clear hi);have p158 : 0 ≤ (t155 : Int) := of_decide_eq_true (by first|(with_reducible assumption)|assumption);have q158 : t155 < (l1.length : Int) := of_decide_eq_true (by first|(with_reducible assumption)|assumption);obtain ⟨ad158,e158,hx158_0⟩ := Kd.at_int HR1.out t155 p158 q158;cases e158;replace hx158_0 := keep_cell HK.out hx158_0 (by first|(rw [add_block];exact hf1 _ rfl (by omega))|exact hf1 _ rfl (by omega)|exact hf1 ad158 rfl (by omega));replace p158 := eq_true p158;replace q158 := eq_true q158))
      go_ret
      exact ⟨by first|rfl|(simp [errW_none,errW_some] <;> rfl)|(simp [*,errW_none,errW_some] <;> rfl),by repeat (first|(with_reducible first|exact HI0.out|apply IsS74.alloc|apply IsS74.drewN|apply IsS74.drew|apply IsS74.set_1|apply IsS74.set_2)|exact HI0.out),by repeat (first|(with_reducible first|exact HB.out|apply bA|apply bN|apply bD|refine bS ?_ (IsS74.ge HI0.out))|exact HB.out),by repeat (first|(with_reducible first|exact HK.out|apply KeepBut.set_|apply keep_drewN|apply keep_drew|apply keep_alloc)|exact HK.out)⟩
    · rw [if_neg c5] at H
      exact absurd H (by simp)
  · rw [if_neg c4] at H
    exact absurd H (by simp)

/-! ### spec_l1Word: function 44 -/
def spec_l1Word.f (s0_0 : List Int) (s0_1 : Int) (s0_2 : Int) : Option (Int × Int × Int) := (spec_l1Int.f s0_0 s0_1 s0_2 (([0,1,2,3,7,(-1),(-5),100,65536,2147483647,(-2147483648),2147483648,4294967296,(-2147483649),9223372036854775807,(-9223372036854775808)] : List Int))).bind fun bt162 => (some (bt162.1,bt162.2.1,bt162.2.2))
set_option maxHeartbeats 8000000 in
set_option maxRecDepth 100000 in
theorem spec_l1Word.calls (g : Nat) (s0_0 : List Int) (s0_1 : Int) (s0_2 : Int) (r1 : Int) (r2 : Int) (r3 : Int) (w0 w : World) (hI : IsS74 w0 w g s0_0 s0_1 s0_2) (hB : Below w0.heap.size w0 w) (h : spec_l1Word.f s0_0 s0_1 s0_2 = some (r1, r2, r3)) :
    Calls Tryd.prog 44 #[.pointer (some ⟨g, 0, none⟩)] w fun e w' => e = .returned (.int .i64 r1) ∧ IsS74 w0 w' g s0_0 r2 r3 ∧ Below w0.heap.size w0 w' ∧ KeepBut w w' g none := by
  have HI0 := mk0 hI
  have HK := mk0 (KeepBut.refl w g none)
  have HL := mk0 hB.size
  clear hI
  have HW0 := mk0 hB.size
  have HB := mk0 hB
  clear hB
  have H : ((spec_l1Int.f s0_0 s0_1 s0_2 (([0,1,2,3,7,(-1),(-5),100,65536,2147483647,(-2147483648),2147483648,4294967296,(-2147483649),9223372036854775807,(-9223372036854775808)] : List Int))).bind fun bt162 => (some (bt162.1,bt162.2.1,bt162.2.2))) = some (r1,r2,r3) := h
  clear h
  obtain ⟨y159,hy159⟩ : ∃ y_ : List Int,y_ = (([0,1,2,3,7,(-1),(-5),100,65536,2147483647,(-2147483648),2147483648,4294967296,(-2147483649),9223372036854775807,(-9223372036854775808)] : List Int)) := ⟨_,rfl⟩
  replace H : ((spec_l1Int.f s0_0 s0_1 s0_2 y159).bind fun bt162 => (some (bt162.1,bt162.2.1,bt162.2.2))) = some (r1,r2,r3) := by first|(rw [hy159];with_reducible exact H)|(have H2_ := (Option.bind_some _ _).symm.trans H;rw [hy159];with_reducible exact H2_)|(have H2_ := (Option.bind_some _ _).symm.trans H;with_reducible exact H2_)|with_reducible exact H|(rw [hy159];exact H)|exact H
  have Ny159 := mk0 hy159
  clear hy159
  replace H := Option.bind_eq_some_iff.mp H
  obtain ⟨⟨t162,t163,t164⟩,A20,H⟩ := H
  replace H : (some (t162,t163,t164)) = some (r1,r2,r3) := H
  have A2 := mk0 A20
  clear A20
  simp only [Option.some.injEq,Prod.mk.injEq] at H
  obtain ⟨rfl,rfl,rfl⟩ := H
  go_enter Tryd.func44,Tryd.ntmps44
  go_wp2_with (first|((with_reducible refine gate_dst (N := 4) rfl ?_);refine Kd.R_lit (Kd.int .i64) _ 3 ?hg (N := 4) ?hd (xs := ([0,1,2,3,7,(-1),(-5),100,65536,2147483647,(-2147483648),2147483648,4294967296,(-2147483649),9223372036854775807,(-9223372036854775808)] : List Int)) (inner := [.int .i64 0,.int .i64 1,.int .i64 2,.int .i64 3,.int .i64 7,.int .i64 (-1),.int .i64 (-5),.int .i64 100,.int .i64 65536,.int .i64 2147483647,.int .i64 (-2147483648),.int .i64 2147483648,.int .i64 4294967296,.int .i64 (-2147483649),.int .i64 9223372036854775807,.int .i64 (-9223372036854775808)]) (ok := fun _ => True) (okp := fun _ => True) ?hr ?hp (fun _ hk => hk) trivial (Below.refl _ _) (Nat.le_refl _) (by simp) ?_;(case hd => rfl);(case hg => rfl);(case hr => first|(go_simp;done)|(go_simp;rfl));(case hp => exact (Reps.one (show Kd.M (Kd.int .i64) _ _ _ 0 [.int .i64 0] from rfl) (Reps.one (show Kd.M (Kd.int .i64) _ _ _ 1 [.int .i64 1] from rfl) (Reps.one (show Kd.M (Kd.int .i64) _ _ _ 2 [.int .i64 2] from rfl) (Reps.one (show Kd.M (Kd.int .i64) _ _ _ 3 [.int .i64 3] from rfl) (Reps.one (show Kd.M (Kd.int .i64) _ _ _ 7 [.int .i64 7] from rfl) (Reps.one (show Kd.M (Kd.int .i64) _ _ _ (-1) [.int .i64 (-1)] from rfl) (Reps.one (show Kd.M (Kd.int .i64) _ _ _ (-5) [.int .i64 (-5)] from rfl) (Reps.one (show Kd.M (Kd.int .i64) _ _ _ 100 [.int .i64 100] from rfl) (Reps.one (show Kd.M (Kd.int .i64) _ _ _ 65536 [.int .i64 65536] from rfl) (Reps.one (show Kd.M (Kd.int .i64) _ _ _ 2147483647 [.int .i64 2147483647] from rfl) (Reps.one (show Kd.M (Kd.int .i64) _ _ _ (-2147483648) [.int .i64 (-2147483648)] from rfl) (Reps.one (show Kd.M (Kd.int .i64) _ _ _ 2147483648 [.int .i64 2147483648] from rfl) (Reps.one (show Kd.M (Kd.int .i64) _ _ _ 4294967296 [.int .i64 4294967296] from rfl) (Reps.one (show Kd.M (Kd.int .i64) _ _ _ (-2147483649) [.int .i64 (-2147483649)] from rfl) (Reps.one (show Kd.M (Kd.int .i64) _ _ _ 9223372036854775807 [.int .i64 9223372036854775807] from rfl) (Reps.one (show Kd.M (Kd.int .i64) _ _ _ (-9223372036854775808) [.int .i64 (-9223372036854775808)] from rfl) (Reps.none _ _))))))))))))))))));intro v160 w3 ho4 hb hg_ hnew_;clear hg_ hnew_;(first|rw [← Ny159.out] at ho4|(simp only [Int.reduceToNat] at ho4;rw [← Ny159.out] at ho4));have n0_ := mk0 (Kd.R_lower ho4 (keep_size (w := w) (g := g) (row := none) (by repeat (first|(with_reducible first|exact HK.out|apply KeepBut.set_|apply keep_drewN|apply keep_drew|apply keep_alloc)|exact HK.out))));have n1_ := mk0 (IsS74.below (by repeat (first|(with_reducible first|exact HI0.out|apply IsS74.alloc|apply IsS74.drewN|apply IsS74.drew|apply IsS74.set_1|apply IsS74.set_2)|exact HI0.out)) hb);have n2_ := mk0 (KeepBut.trans (by repeat (first|(with_reducible first|exact HK.out|apply KeepBut.set_|apply keep_drewN|apply keep_drew|apply keep_alloc)|exact HK.out)) (KeepBut.of_below hb g none) (.inl rfl));have n3_ := mk0 (below_step (by repeat (first|(with_reducible first|exact HB.out|apply bA|apply bN|apply bD|refine bS ?_ (IsS74.ge HI0.out))|exact HB.out)) hb);clear HI0;clear HK;clear HB;have HO161 := n0_;have HI0 := n1_;have HK := n2_;have HB := n3_;clear n0_ n1_ n2_ n3_;clear hb ho4;obtain ⟨Ao5,co5,eo5⟩ := Kd.R_slice HO161.out;subst eo5)|((with_reducible refine gate_callee (f := 59) rfl ?_);refine goesL_ (some 5) rfl rfl Tryd.func59 (by kernel_rfl) rfl #[.pointer (some ⟨g,0,none⟩),.slice Ao5 y159.length co5] rfl (by (try simp only [List.map_toArray,List.map_cons,List.map_nil]);first|done|rfl) ?_;(with_reducible refine (spec_l1Int.calls g s0_0 s0_1 s0_2 _ _ y159 t162 t163 t164 w0 _ ?side1 ?side2 ?side3 ?side4 ?side5 A2.out).mono ?_);(case side1 => repeat (first|(with_reducible first|exact HI0.out|apply IsS74.alloc|apply IsS74.drewN|apply IsS74.drew|apply IsS74.set_1|apply IsS74.set_2)|exact HI0.out));(case side2 => repeat (first|(with_reducible first|exact HB.out|apply bA|apply bN|apply bD|refine bS ?_ (IsS74.ge HI0.out))|exact HB.out));(case side3 => repeat (first|exact (Kd.R_reads' HO161.out).2.2|(with_reducible refine cA ?_ _)|(with_reducible refine cN ?_ _)|(with_reducible refine cD ?_)));(case side4 => exact (Kd.R_reads' HO161.out).2.1);(case side5 => exact far_slice (IsS74.own_ne HI0.out HO161.out (by decide)));rintro e w6 ⟨rfl,hi,hb,hk⟩;refine ⟨_,rfl,?_⟩;have n0_ := mk0 (Kd.R_mono (Kd.R_keep (IsS74.apart (show IsS74 w0 _ g s0_0 s0_1 s0_2 from by repeat (first|(with_reducible first|exact HI0.out|apply IsS74.alloc|apply IsS74.drewN|apply IsS74.drew|apply IsS74.set_1|apply IsS74.set_2)|exact HI0.out)) (by exact rX HO161.out) (by decide)) hk (fun _ h => h.2)) (fun _ h => h.1));have n1_ := mk0 (KeepBut.trans (by repeat (first|(with_reducible first|exact HK.out|apply KeepBut.set_|apply keep_drewN|apply keep_drew|apply keep_alloc)|exact HK.out)) hk (.inl rfl));have n2_ := mk0 (hb);have n3_ := mk0 (hi);clear HO161;clear HK;clear HB;clear HI0;have HO161 := n0_;have HK := n1_;have HB := n2_;have HI0 := n3_;clear n0_ n1_ n2_ n3_;(try clear hb);(try clear hb2);(try clear hk);(try clear hi)))
  go_ret
  exact ⟨by first|rfl|(simp [errW_none,errW_some] <;> rfl)|(simp [*,errW_none,errW_some] <;> rfl),by repeat (first|(with_reducible first|exact HI0.out|apply IsS74.alloc|apply IsS74.drewN|apply IsS74.drew|apply IsS74.set_1|apply IsS74.set_2)|exact HI0.out),by repeat (first|(with_reducible first|exact HB.out|apply bA|apply bN|apply bD|refine bS ?_ (IsS74.ge HI0.out))|exact HB.out),by repeat (first|(with_reducible first|exact HK.out|apply KeepBut.set_|apply keep_drewN|apply keep_drew|apply keep_alloc)|exact HK.out)⟩

/-! ### spec_DrawNumText: function 21 -/
def spec_DrawNumText.f (k : Nat) (l0 : List Int) : Option (Int) := (spec_l1New.f k l0).bind fun bt165 => ((spec_l1Word.f bt165.1 bt165.2.1 bt165.2.2).bind fun bt169 => (some bt169.1))
theorem spec_DrawNumText.mono : ∀ a0 k, LeO (spec_DrawNumText.f k a0) (spec_DrawNumText.f (k + 1) a0) := by
  intro a0 k
  unfold spec_DrawNumText.f
  repeat' first
      | (with_reducible exact spec_l1New.mono _ _)
      | (with_reducible exact LeO.refl _)
      | (with_reducible exact LeO.none _)
      | (with_reducible refine LeO.ite ?_ ?_)
      | (with_reducible refine LeO.bind ?_ (fun _ => ?_))
      | exact spec_l1New.mono _ _
      | exact LeO.none _
      | refine LeO.ite ?_ ?_
      | refine LeO.bind ?_ (fun _ => ?_)
set_option maxHeartbeats 8000000 in
set_option maxRecDepth 100000 in
theorem spec_DrawNumText.calls (k : Nat) (A0 : Option Addr) (c0 : Nat) (l0 : List Int) (r : Int) (w : World) (hr0 : Kd.C (Kd.int .u8) w A0 l0.length l0) (hc0 : l0.length ≤ c0) (h : spec_DrawNumText.f k l0 = some r) :
    Calls Tryd.prog 21 #[.slice A0 l0.length c0] w fun e w' => e = .returned (.int .i64 r) ∧ Below w.heap.size w w' := by
  have HR0 := mk0 hr0
  have HC0 := mk0 hc0
  clear hr0 hc0
  have HB := mk0 (Below.refl w.heap.size w)
  have H : ((spec_l1New.f k l0).bind fun bt165 => ((spec_l1Word.f bt165.1 bt165.2.1 bt165.2.2).bind fun bt169 => (some bt169.1))) = some r := h
  clear h
  replace H := Option.bind_eq_some_iff.mp H
  obtain ⟨⟨t165,t166,t167⟩,A20,H⟩ := H
  replace H : ((spec_l1Word.f t165 t166 t167).bind fun bt169 => (some bt169.1)) = some r := H
  have A2 := mk0 A20
  clear A20
  replace H := Option.bind_eq_some_iff.mp H
  obtain ⟨⟨t169,t170,t171⟩,A30,H⟩ := H
  replace H : (some t169) = some r := H
  have A3 := mk0 A30
  clear A30
  obtain rfl := Option.some.inj H
  go_enter Tryd.func21,Tryd.ntmps21
  go_wp2_with (first|((with_reducible refine gate_callee (f := 40) rfl ?_);refine goesL_ (some 5) rfl rfl Tryd.func40 (by kernel_rfl) rfl #[.slice A0 l0.length c0] rfl (by (try simp only [List.map_toArray,List.map_cons,List.map_nil]);first|done|rfl) ?_;(with_reducible refine (spec_l1New.calls k _ _ l0 t165 t166 t167 w _ ?side1 ?side2 ?side3 A2.out).mono ?_);(case side1 => repeat (first|(with_reducible first|exact HB.out|apply bA|apply bN|apply bD)|exact HB.out));(case side2 => exact HR0.out);(case side3 => exact HC0.out);rintro e w4 ⟨g168,rfl,hi,hb,hb2⟩;refine ⟨_,rfl,?_⟩;have n0_ := mk0 (hb);have n1_ := mk0 (hi);clear HB;have HB := n0_;have HI168 := n1_;clear n0_ n1_;(try clear hb);(try clear hb2);(try clear hk);(try clear hi))|((with_reducible refine gate_callee (f := 44) rfl ?_);refine goesL_ (some 7) rfl rfl Tryd.func44 (by kernel_rfl) rfl #[.pointer (some ⟨g168,0,none⟩)] rfl (by (try simp only [List.map_toArray,List.map_cons,List.map_nil]);first|done|rfl) ?_;(with_reducible refine (spec_l1Word.calls g168 t165 t166 t167 t169 t170 t171 w _ ?side1 ?side2 A3.out).mono ?_);(case side1 => repeat (first|(with_reducible first|exact HI168.out|apply IsS74.alloc|apply IsS74.drewN|apply IsS74.drew|apply IsS74.set_1|apply IsS74.set_2)|exact HI168.out));(case side2 => repeat (first|(with_reducible first|exact HB.out|apply bA|apply bN|apply bD|refine bS ?_ (IsS74.ge HI168.out))|exact HB.out));rintro e w5 ⟨rfl,hi,hb,hk⟩;refine ⟨_,rfl,?_⟩;have n0_ := mk0 (hb);have n1_ := mk0 (hi);clear HB;clear HI168;have HB := n0_;have HI168 := n1_;clear n0_ n1_;(try clear hb);(try clear hb2);(try clear hk);(try clear hi)))
  go_ret
  exact ⟨by first|rfl|(simp [errW_none,errW_some] <;> rfl)|(simp [*,errW_none,errW_some] <;> rfl),by repeat (first|(with_reducible first|exact HB.out|apply bA|apply bN|apply bD|refine bS ?_ (IsS74.ge HI168.out))|exact HB.out)⟩

/-! ### laws_FnDigits: function 6 -/
def laws_FnDigits.f (k : Nat) (l0 : List Int) : Option (Bool) := (laws_big.f l0).bind fun t172 => (if t172 = true then (some true) else ((laws_at.f l0 2).bind fun t173 => ((laws_at.f l0 3).bind fun t174 => ((laws_at.f l0 4).bind fun t175 => ((impl_NumText.f (wrap64 ((wrap64 ((wrap64 ((wrap64 (t173 * 256)) + t174)) * 256)) + t175))).bind fun t176 => ((impl_ParseNum.f k t176).bind fun bt177 => ((spec_DrawParseNum.f k l0).bind fun t179 => ((impl_ParseNum.f k t179).bind fun bt180 => ((spec_ParseNum.f k t179).bind fun bt182 => ((spec_DrawNumText.f k l0).bind fun t184 => (if bt177.2 = true then (if bt177.1 = (wrap64 ((wrap64 ((wrap64 ((wrap64 (t173 * 256)) + t174)) * 256)) + t175)) then (if (bt180.2 == bt182.2) = true then (if bt180.1 = bt182.1 then (if bt180.2 = true then ((impl_NumText.f bt180.1).bind fun t185 => (if t185.toList = t179.toList then ((impl_NumText.f t184).bind fun t186 => ((spec_NumText.f k t184).bind fun t187 => (some (t186.toList == t187.toList)))) else (none))) else ((impl_NumText.f t184).bind fun t188 => ((spec_NumText.f k t184).bind fun t189 => (some (t188.toList == t189.toList))))) else (none)) else (none)) else (none)) else (none))))))))))))
theorem laws_FnDigits.mono : ∀ a0 k, LeO (laws_FnDigits.f k a0) (laws_FnDigits.f (k + 1) a0) := by
  intro a0 k
  unfold laws_FnDigits.f
  repeat' first
      | (with_reducible exact impl_ParseNum.mono _ _)
      | (with_reducible exact spec_DrawNumText.mono _ _)
      | (with_reducible exact spec_DrawParseNum.mono _ _)
      | (with_reducible exact spec_NumText.mono _ _)
      | (with_reducible exact spec_ParseNum.mono _ _)
      | (with_reducible exact LeO.refl _)
      | (with_reducible exact LeO.none _)
      | (with_reducible refine LeO.ite ?_ ?_)
      | (with_reducible refine LeO.bind ?_ (fun _ => ?_))
      | exact impl_ParseNum.mono _ _
      | exact spec_DrawNumText.mono _ _
      | exact spec_DrawParseNum.mono _ _
      | exact spec_NumText.mono _ _
      | exact spec_ParseNum.mono _ _
      | exact LeO.none _
      | refine LeO.ite ?_ ?_
      | refine LeO.bind ?_ (fun _ => ?_)
set_option maxHeartbeats 8000000 in
set_option maxRecDepth 100000 in
theorem laws_FnDigits.calls (k : Nat) (A0 : Option Addr) (c0 : Nat) (l0 : List Int) (r : Bool) (w : World) (hT : TabW w) (hr0 : Kd.C (Kd.int .u8) w A0 l0.length l0) (hc0 : l0.length ≤ c0) (h : laws_FnDigits.f k l0 = some r) :
    Calls Tryd.prog 6 #[.slice A0 l0.length c0] w fun e w' => e = .returned (.bool r) ∧ Below w.heap.size w w' := by
  have HR0 := mk0 hr0
  have HC0 := mk0 hc0
  clear hr0 hc0
  have HB := mk0 (Below.refl w.heap.size w)
  have HT := mk0 hT
  clear hT
  have H : ((laws_big.f l0).bind fun t172 => (if t172 = true then (some true) else ((laws_at.f l0 2).bind fun t173 => ((laws_at.f l0 3).bind fun t174 => ((laws_at.f l0 4).bind fun t175 => ((impl_NumText.f (wrap64 ((wrap64 ((wrap64 ((wrap64 (t173 * 256)) + t174)) * 256)) + t175))).bind fun t176 => ((impl_ParseNum.f k t176).bind fun bt177 => ((spec_DrawParseNum.f k l0).bind fun t179 => ((impl_ParseNum.f k t179).bind fun bt180 => ((spec_ParseNum.f k t179).bind fun bt182 => ((spec_DrawNumText.f k l0).bind fun t184 => (if bt177.2 = true then (if bt177.1 = (wrap64 ((wrap64 ((wrap64 ((wrap64 (t173 * 256)) + t174)) * 256)) + t175)) then (if (bt180.2 == bt182.2) = true then (if bt180.1 = bt182.1 then (if bt180.2 = true then ((impl_NumText.f bt180.1).bind fun t185 => (if t185.toList = t179.toList then ((impl_NumText.f t184).bind fun t186 => ((spec_NumText.f k t184).bind fun t187 => (some (t186.toList == t187.toList)))) else (none))) else ((impl_NumText.f t184).bind fun t188 => ((spec_NumText.f k t184).bind fun t189 => (some (t188.toList == t189.toList))))) else (none)) else (none)) else (none)) else (none))))))))))))) = some r := h
  clear h
  obtain ⟨t172,A2,H⟩ := bindA H
  by_cases c3 : t172 = true
  · subst c3
    rw [if_pos rfl] at H
    obtain rfl := Option.some.inj H
    go_enter Tryd.func6,Tryd.ntmps6
    go_wp2_with (first|((with_reducible refine gate_callee (f := 18) rfl ?_);refine goesL_ (some 13) rfl rfl Tryd.func18 (by kernel_rfl) rfl #[.slice A0 l0.length c0] rfl (by (try simp only [List.map_toArray,List.map_cons,List.map_nil]);first|done|rfl) ?_;(with_reducible refine (laws_big.calls _ _ l0 true _ ?side1 ?side2 A2.out).mono ?_);(case side1 => repeat (first|exact HR0.out|(with_reducible refine cA ?_ _)|(with_reducible refine cN ?_ _)|(with_reducible refine cD ?_)));(case side2 => exact HC0.out);rintro e w' ⟨rfl,⟨nd,rfl⟩⟩;refine ⟨_,rfl,?_⟩))
    go_ret
    exact ⟨by first|rfl|(simp [errW_none,errW_some] <;> rfl)|(simp [*,errW_none,errW_some] <;> rfl),by repeat (first|(with_reducible first|exact HB.out|apply bA|apply bN|apply bD)|exact HB.out)⟩
  · replace c3 := Bool.eq_false_iff.mpr c3
    subst c3
    rw [if_neg (show ¬ (false = true) by decide)] at H
    obtain ⟨t173,A4,H⟩ := bindA H
    obtain ⟨t174,A5,H⟩ := bindA H
    obtain ⟨t175,A6,H⟩ := bindA H
    obtain ⟨t176,A7,H⟩ := bindA H
    replace H := Option.bind_eq_some_iff.mp H
    obtain ⟨⟨t177,t178⟩,A80,H⟩ := H
    replace H : ((spec_DrawParseNum.f k l0).bind fun t179 => ((impl_ParseNum.f k t179).bind fun bt180 => ((spec_ParseNum.f k t179).bind fun bt182 => ((spec_DrawNumText.f k l0).bind fun t184 => (if t178 = true then (if t177 = (wrap64 ((wrap64 ((wrap64 ((wrap64 (t173 * 256)) + t174)) * 256)) + t175)) then (if (bt180.2 == bt182.2) = true then (if bt180.1 = bt182.1 then (if bt180.2 = true then ((impl_NumText.f bt180.1).bind fun t185 => (if t185.toList = t179.toList then ((impl_NumText.f t184).bind fun t186 => ((spec_NumText.f k t184).bind fun t187 => (some (t186.toList == t187.toList)))) else (none))) else ((impl_NumText.f t184).bind fun t188 => ((spec_NumText.f k t184).bind fun t189 => (some (t188.toList == t189.toList))))) else (none)) else (none)) else (none)) else (none)))))) = some r := H
    have A8 := mk0 A80
    clear A80
    obtain ⟨t179,A9,H⟩ := bindA H
    replace H := Option.bind_eq_some_iff.mp H
    obtain ⟨⟨t180,t181⟩,A100,H⟩ := H
    replace H : ((spec_ParseNum.f k t179).bind fun bt182 => ((spec_DrawNumText.f k l0).bind fun t184 => (if t178 = true then (if t177 = (wrap64 ((wrap64 ((wrap64 ((wrap64 (t173 * 256)) + t174)) * 256)) + t175)) then (if (t181 == bt182.2) = true then (if t180 = bt182.1 then (if t181 = true then ((impl_NumText.f t180).bind fun t185 => (if t185.toList = t179.toList then ((impl_NumText.f t184).bind fun t186 => ((spec_NumText.f k t184).bind fun t187 => (some (t186.toList == t187.toList)))) else (none))) else ((impl_NumText.f t184).bind fun t188 => ((spec_NumText.f k t184).bind fun t189 => (some (t188.toList == t189.toList))))) else (none)) else (none)) else (none)) else (none)))) = some r := H
    have A10 := mk0 A100
    clear A100
    replace H := Option.bind_eq_some_iff.mp H
    obtain ⟨⟨t182,t183⟩,A110,H⟩ := H
    replace H : ((spec_DrawNumText.f k l0).bind fun t184 => (if t178 = true then (if t177 = (wrap64 ((wrap64 ((wrap64 ((wrap64 (t173 * 256)) + t174)) * 256)) + t175)) then (if (t181 == t183) = true then (if t180 = t182 then (if t181 = true then ((impl_NumText.f t180).bind fun t185 => (if t185.toList = t179.toList then ((impl_NumText.f t184).bind fun t186 => ((spec_NumText.f k t184).bind fun t187 => (some (t186.toList == t187.toList)))) else (none))) else ((impl_NumText.f t184).bind fun t188 => ((spec_NumText.f k t184).bind fun t189 => (some (t188.toList == t189.toList))))) else (none)) else (none)) else (none)) else (none))) = some r := H
    have A11 := mk0 A110
    clear A110
    obtain ⟨t184,A12,H⟩ := bindA H
    by_cases c13 : t178 = true
    · subst c13
      rw [if_pos rfl] at H
      by_cases c14 : t177 = (wrap64 ((wrap64 ((wrap64 ((wrap64 (t173 * 256)) + t174)) * 256)) + t175))
      · rw [if_pos c14] at H
        have c14b0 : (t177 == (wrap64 ((wrap64 ((wrap64 ((wrap64 (t173 * 256)) + t174)) * 256)) + t175))) = true := beq_iff_eq.mpr c14
        have c14b1 : (t177 != (wrap64 ((wrap64 ((wrap64 ((wrap64 (t173 * 256)) + t174)) * 256)) + t175))) = false := bne_eq_false_iff_eq.mpr c14
        clear c14
        by_cases c15 : (t181 == t183) = true
        · rw [if_pos c15] at H
          have c15b0 : (t181 == t183) = true := c15
          (try (have c15b1 : decide (t181 = t183) = true := by simpa using c15))
          (try (have c15b2 : (t181 == t183) = true := by simpa using c15))
          clear c15
          by_cases c16 : t180 = t182
          · rw [if_pos c16] at H
            have c16b0 : (t180 == t182) = true := beq_iff_eq.mpr c16
            have c16b1 : (t180 != t182) = false := bne_eq_false_iff_eq.mpr c16
            clear c16
            by_cases c17 : t181 = true
            · subst c17
              rw [if_pos rfl] at H
              obtain ⟨t185,A18,H⟩ := bindA H
              by_cases c19 : t185.toList = t179.toList
              · rw [if_pos c19] at H
                have c19b0 : (t185.toList == t179.toList) = true := beq_iff_eq.mpr c19
                have c19b1 : (t185.toList != t179.toList) = false := bne_eq_false_iff_eq.mpr c19
                clear c19
                obtain ⟨t186,A20,H⟩ := bindA H
                obtain ⟨t187,A21,H⟩ := bindA H
                obtain rfl := Option.some.inj H
                go_enter Tryd.func6,Tryd.ntmps6
                go_wp2_with (first|((with_reducible refine gate_callee (f := 18) rfl ?_);refine goesL_ (some 13) rfl rfl Tryd.func18 (by kernel_rfl) rfl #[.slice A0 l0.length c0] rfl (by (try simp only [List.map_toArray,List.map_cons,List.map_nil]);first|done|rfl) ?_;(with_reducible refine (laws_big.calls _ _ l0 false _ ?side1 ?side2 A2.out).mono ?_);(case side1 => repeat (first|exact HR0.out|(with_reducible refine cA ?_ _)|(with_reducible refine cN ?_ _)|(with_reducible refine cD ?_)));(case side2 => exact HC0.out);rintro e w' ⟨rfl,⟨nd,rfl⟩⟩;refine ⟨_,rfl,?_⟩)|((with_reducible refine gate_callee (f := 19) rfl ?_);refine goesL_ (some 15) rfl rfl Tryd.func19 (by kernel_rfl) rfl #[.slice A0 l0.length c0,.int .i64 2] rfl (by (try simp only [List.map_toArray,List.map_cons,List.map_nil]);first|done|rfl) ?_;(with_reducible refine (laws_at.calls _ _ l0 2 t173 _ ?side1 ?side2 A4.out).mono ?_);(case side1 => repeat (first|exact HR0.out|(with_reducible refine cA ?_ _)|(with_reducible refine cN ?_ _)|(with_reducible refine cD ?_)));(case side2 => exact HC0.out);rintro e w' ⟨rfl,⟨nd,rfl⟩⟩;refine ⟨_,rfl,?_⟩)|((with_reducible refine gate_callee (f := 19) rfl ?_);refine goesL_ (some 18) rfl rfl Tryd.func19 (by kernel_rfl) rfl #[.slice A0 l0.length c0,.int .i64 3] rfl (by (try simp only [List.map_toArray,List.map_cons,List.map_nil]);first|done|rfl) ?_;(with_reducible refine (laws_at.calls _ _ l0 3 t174 _ ?side1 ?side2 A5.out).mono ?_);(case side1 => repeat (first|exact HR0.out|(with_reducible refine cA ?_ _)|(with_reducible refine cN ?_ _)|(with_reducible refine cD ?_)));(case side2 => exact HC0.out);rintro e w' ⟨rfl,⟨nd,rfl⟩⟩;refine ⟨_,rfl,?_⟩)|((with_reducible refine gate_callee (f := 19) rfl ?_);refine goesL_ (some 22) rfl rfl Tryd.func19 (by kernel_rfl) rfl #[.slice A0 l0.length c0,.int .i64 4] rfl (by (try simp only [List.map_toArray,List.map_cons,List.map_nil]);first|done|rfl) ?_;(with_reducible refine (laws_at.calls _ _ l0 4 t175 _ ?side1 ?side2 A6.out).mono ?_);(case side1 => repeat (first|exact HR0.out|(with_reducible refine cA ?_ _)|(with_reducible refine cN ?_ _)|(with_reducible refine cD ?_)));(case side2 => exact HC0.out);rintro e w' ⟨rfl,⟨nd,rfl⟩⟩;refine ⟨_,rfl,?_⟩)|((with_reducible refine gate_callee (f := 10) rfl ?_);refine goesL_ (some 26) rfl rfl Tryd.func10 (by kernel_rfl) rfl #[.int .i64 (wrap64 ((wrap64 ((wrap64 ((wrap64 (t173 * 256)) + t174)) * 256)) + t175))] rfl (by (try simp only [List.map_toArray,List.map_cons,List.map_nil]);first|done|rfl) ?_;(with_reducible refine (impl_NumText.calls (hT := ?hT_) (wrap64 ((wrap64 ((wrap64 ((wrap64 (t173 * 256)) + t174)) * 256)) + t175)) t176 _ A7.out).mono ?_);(case hT_ => exact tabB HT.out (by repeat (first|(with_reducible first|exact HB.out|apply bA|apply bN|apply bD)|exact HB.out)));rintro e w22 ⟨rfl,hb⟩;refine ⟨_,rfl,?_⟩;have n0_ := mk0 (below_step (by repeat (first|(with_reducible first|exact HB.out|apply bA|apply bN|apply bD)|exact HB.out)) hb);clear HB;have HB := n0_;clear n0_;(try clear hb);(try clear hb2);(try clear hk);(try clear hi))|((with_reducible refine gate_callee (f := 12) rfl ?_);refine goesL_ (some 27) rfl rfl Tryd.func12 (by kernel_rfl) rfl #[.string t176] rfl (by (try simp only [List.map_toArray,List.map_cons,List.map_nil]);first|done|rfl) ?_;(with_reducible refine (impl_ParseNum.calls (hT := ?hT_) k t176 t177 true _ A8.out).mono ?_);(case hT_ => exact tabB HT.out (by repeat (first|(with_reducible first|exact HB.out|apply bA|apply bN|apply bD)|exact HB.out)));rintro e w23 ⟨rfl,hb⟩;refine ⟨_,rfl,?_⟩;have n0_ := mk0 (below_step (by repeat (first|(with_reducible first|exact HB.out|apply bA|apply bN|apply bD)|exact HB.out)) hb);clear HB;have HB := n0_;clear n0_;(try clear hb);(try clear hb2);(try clear hk);(try clear hi))|((with_reducible refine gate_callee (f := 20) rfl ?_);refine goesL_ (some 31) rfl rfl Tryd.func20 (by kernel_rfl) rfl #[.slice A0 l0.length c0] rfl (by (try simp only [List.map_toArray,List.map_cons,List.map_nil]);first|done|rfl) ?_;(with_reducible refine (spec_DrawParseNum.calls k _ _ l0 t179 _ ?side1 ?side2 A9.out).mono ?_);(case side1 => repeat (first|exact (Kd.C_below HR0.out HB.out)|(with_reducible refine cA ?_ _)|(with_reducible refine cN ?_ _)|(with_reducible refine cD ?_)));(case side2 => exact HC0.out);rintro e w24 ⟨rfl,hb⟩;refine ⟨_,rfl,?_⟩;have n0_ := mk0 (below_step (by repeat (first|(with_reducible first|exact HB.out|apply bA|apply bN|apply bD)|exact HB.out)) hb);clear HB;have HB := n0_;clear n0_;(try clear hb);(try clear hb2);(try clear hk);(try clear hi))|((with_reducible refine gate_callee (f := 12) rfl ?_);refine goesL_ (some 34) rfl rfl Tryd.func12 (by kernel_rfl) rfl #[.string t179] rfl (by (try simp only [List.map_toArray,List.map_cons,List.map_nil]);first|done|rfl) ?_;(with_reducible refine (impl_ParseNum.calls (hT := ?hT_) k t179 t180 true _ A10.out).mono ?_);(case hT_ => exact tabB HT.out (by repeat (first|(with_reducible first|exact HB.out|apply bA|apply bN|apply bD)|exact HB.out)));rintro e w25 ⟨rfl,hb⟩;refine ⟨_,rfl,?_⟩;have n0_ := mk0 (below_step (by repeat (first|(with_reducible first|exact HB.out|apply bA|apply bN|apply bD)|exact HB.out)) hb);clear HB;have HB := n0_;clear n0_;(try clear hb);(try clear hb2);(try clear hk);(try clear hi))|((with_reducible refine gate_callee (f := 11) rfl ?_);refine goesL_ (some 39) rfl rfl Tryd.func11 (by kernel_rfl) rfl #[.string t179] rfl (by (try simp only [List.map_toArray,List.map_cons,List.map_nil]);first|done|rfl) ?_;(with_reducible refine (spec_ParseNum.calls k t179 t182 t183 _ A11.out).mono ?_);rintro e w' ⟨rfl,⟨nd,rfl⟩⟩;refine ⟨_,rfl,?_⟩)|((with_reducible refine gate_callee (f := 21) rfl ?_);refine goesL_ (some 43) rfl rfl Tryd.func21 (by kernel_rfl) rfl #[.slice A0 l0.length c0] rfl (by (try simp only [List.map_toArray,List.map_cons,List.map_nil]);first|done|rfl) ?_;(with_reducible refine (spec_DrawNumText.calls k _ _ l0 t184 _ ?side1 ?side2 A12.out).mono ?_);(case side1 => repeat (first|exact (Kd.C_below HR0.out (by repeat (first|(with_reducible first|exact HB.out|apply bA|apply bN|apply bD)|exact HB.out)))|(with_reducible refine cA ?_ _)|(with_reducible refine cN ?_ _)|(with_reducible refine cD ?_)));(case side2 => exact HC0.out);rintro e w26 ⟨rfl,hb⟩;refine ⟨_,rfl,?_⟩;have n0_ := mk0 (below_step (by repeat (first|(with_reducible first|exact HB.out|apply bA|apply bN|apply bD)|exact HB.out)) hb);clear HB;have HB := n0_;clear n0_;(try clear hb);(try clear hb2);(try clear hk);(try clear hi))|(go_at_call 10;(with_reducible refine (impl_NumText.calls (hT := ?hT_) t180 t185 _ A18.out).mono ?_);(case hT_ => exact tabB HT.out (by repeat (first|(with_reducible first|exact HB.out|apply bA|apply bN|apply bD)|exact HB.out)));rintro e w27 ⟨rfl,hb⟩;have n0_ := mk0 (below_step (by repeat (first|(with_reducible first|exact HB.out|apply bA|apply bN|apply bD)|exact HB.out)) hb);clear HB;have HB := n0_;clear n0_;(try clear hb);(try clear hb2);(try clear hk);(try clear hi))|(go_at_call 10;(with_reducible refine (impl_NumText.calls (hT := ?hT_) t184 t186 _ A20.out).mono ?_);(case hT_ => exact tabB HT.out (by repeat (first|(with_reducible first|exact HB.out|apply bA|apply bN|apply bD)|exact HB.out)));rintro e w28 ⟨rfl,hb⟩;have n0_ := mk0 (below_step (by repeat (first|(with_reducible first|exact HB.out|apply bA|apply bN|apply bD)|exact HB.out)) hb);clear HB;have HB := n0_;clear n0_;(try clear hb);(try clear hb2);(try clear hk);(try clear hi))|(go_at_call 9;(with_reducible refine (spec_NumText.calls k t184 t187 _ A21.out).mono ?_);rintro e w29 ⟨rfl,hb⟩;have n0_ := mk0 (below_step (by repeat (first|(with_reducible first|exact HB.out|apply bA|apply bN|apply bD)|exact HB.out)) hb);clear HB;have HB := n0_;clear n0_;(try clear hb);(try clear hb2);(try clear hk);(try clear hi)))
                go_ret
                exact ⟨by first|rfl|(simp [errW_none,errW_some] <;> rfl)|(simp [*,errW_none,errW_some] <;> rfl),by repeat (first|(with_reducible first|exact HB.out|apply bA|apply bN|apply bD)|exact HB.out)⟩
              · rw [if_neg c19] at H
                exact absurd H (by simp)
            · replace c17 := Bool.eq_false_iff.mpr c17
              subst c17
              rw [if_neg (show ¬ (false = true) by decide)] at H
              obtain ⟨t188,A30,H⟩ := bindA H
              obtain ⟨t189,A31,H⟩ := bindA H
              obtain rfl := Option.some.inj H
              go_enter Tryd.func6,Tryd.ntmps6
              go_wp2_with (first|((with_reducible refine gate_callee (f := 18) rfl ?_);refine goesL_ (some 13) rfl rfl Tryd.func18 (by kernel_rfl) rfl #[.slice A0 l0.length c0] rfl (by (try simp only [List.map_toArray,List.map_cons,List.map_nil]);first|done|rfl) ?_;(with_reducible refine (laws_big.calls _ _ l0 false _ ?side1 ?side2 A2.out).mono ?_);(case side1 => repeat (first|exact HR0.out|(with_reducible refine cA ?_ _)|(with_reducible refine cN ?_ _)|(with_reducible refine cD ?_)));(case side2 => exact HC0.out);rintro e w' ⟨rfl,⟨nd,rfl⟩⟩;refine ⟨_,rfl,?_⟩)|((with_reducible refine gate_callee (f := 19) rfl ?_);refine goesL_ (some 15) rfl rfl Tryd.func19 (by kernel_rfl) rfl #[.slice A0 l0.length c0,.int .i64 2] rfl (by (try simp only [List.map_toArray,List.map_cons,List.map_nil]);first|done|rfl) ?_;(with_reducible refine (laws_at.calls _ _ l0 2 t173 _ ?side1 ?side2 A4.out).mono ?_);(case side1 => repeat (first|exact HR0.out|(with_reducible refine cA ?_ _)|(with_reducible refine cN ?_ _)|(with_reducible refine cD ?_)));(case side2 => exact HC0.out);rintro e w' ⟨rfl,⟨nd,rfl⟩⟩;refine ⟨_,rfl,?_⟩)|((with_reducible refine gate_callee (f := 19) rfl ?_);refine goesL_ (some 18) rfl rfl Tryd.func19 (by kernel_rfl) rfl #[.slice A0 l0.length c0,.int .i64 3] rfl (by (try simp only [List.map_toArray,List.map_cons,List.map_nil]);first|done|rfl) ?_;(with_reducible refine (laws_at.calls _ _ l0 3 t174 _ ?side1 ?side2 A5.out).mono ?_);(case side1 => repeat (first|exact HR0.out|(with_reducible refine cA ?_ _)|(with_reducible refine cN ?_ _)|(with_reducible refine cD ?_)));(case side2 => exact HC0.out);rintro e w' ⟨rfl,⟨nd,rfl⟩⟩;refine ⟨_,rfl,?_⟩)|((with_reducible refine gate_callee (f := 19) rfl ?_);refine goesL_ (some 22) rfl rfl Tryd.func19 (by kernel_rfl) rfl #[.slice A0 l0.length c0,.int .i64 4] rfl (by (try simp only [List.map_toArray,List.map_cons,List.map_nil]);first|done|rfl) ?_;(with_reducible refine (laws_at.calls _ _ l0 4 t175 _ ?side1 ?side2 A6.out).mono ?_);(case side1 => repeat (first|exact HR0.out|(with_reducible refine cA ?_ _)|(with_reducible refine cN ?_ _)|(with_reducible refine cD ?_)));(case side2 => exact HC0.out);rintro e w' ⟨rfl,⟨nd,rfl⟩⟩;refine ⟨_,rfl,?_⟩)|((with_reducible refine gate_callee (f := 10) rfl ?_);refine goesL_ (some 26) rfl rfl Tryd.func10 (by kernel_rfl) rfl #[.int .i64 (wrap64 ((wrap64 ((wrap64 ((wrap64 (t173 * 256)) + t174)) * 256)) + t175))] rfl (by (try simp only [List.map_toArray,List.map_cons,List.map_nil]);first|done|rfl) ?_;(with_reducible refine (impl_NumText.calls (hT := ?hT_) (wrap64 ((wrap64 ((wrap64 ((wrap64 (t173 * 256)) + t174)) * 256)) + t175)) t176 _ A7.out).mono ?_);(case hT_ => exact tabB HT.out (by repeat (first|(with_reducible first|exact HB.out|apply bA|apply bN|apply bD)|exact HB.out)));rintro e w32 ⟨rfl,hb⟩;refine ⟨_,rfl,?_⟩;have n0_ := mk0 (below_step (by repeat (first|(with_reducible first|exact HB.out|apply bA|apply bN|apply bD)|exact HB.out)) hb);clear HB;have HB := n0_;clear n0_;(try clear hb);(try clear hb2);(try clear hk);(try clear hi))|((with_reducible refine gate_callee (f := 12) rfl ?_);refine goesL_ (some 27) rfl rfl Tryd.func12 (by kernel_rfl) rfl #[.string t176] rfl (by (try simp only [List.map_toArray,List.map_cons,List.map_nil]);first|done|rfl) ?_;(with_reducible refine (impl_ParseNum.calls (hT := ?hT_) k t176 t177 true _ A8.out).mono ?_);(case hT_ => exact tabB HT.out (by repeat (first|(with_reducible first|exact HB.out|apply bA|apply bN|apply bD)|exact HB.out)));rintro e w33 ⟨rfl,hb⟩;refine ⟨_,rfl,?_⟩;have n0_ := mk0 (below_step (by repeat (first|(with_reducible first|exact HB.out|apply bA|apply bN|apply bD)|exact HB.out)) hb);clear HB;have HB := n0_;clear n0_;(try clear hb);(try clear hb2);(try clear hk);(try clear hi))|((with_reducible refine gate_callee (f := 20) rfl ?_);refine goesL_ (some 31) rfl rfl Tryd.func20 (by kernel_rfl) rfl #[.slice A0 l0.length c0] rfl (by (try simp only [List.map_toArray,List.map_cons,List.map_nil]);first|done|rfl) ?_;(with_reducible refine (spec_DrawParseNum.calls k _ _ l0 t179 _ ?side1 ?side2 A9.out).mono ?_);(case side1 => repeat (first|exact (Kd.C_below HR0.out HB.out)|(with_reducible refine cA ?_ _)|(with_reducible refine cN ?_ _)|(with_reducible refine cD ?_)));(case side2 => exact HC0.out);rintro e w34 ⟨rfl,hb⟩;refine ⟨_,rfl,?_⟩;have n0_ := mk0 (below_step (by repeat (first|(with_reducible first|exact HB.out|apply bA|apply bN|apply bD)|exact HB.out)) hb);clear HB;have HB := n0_;clear n0_;(try clear hb);(try clear hb2);(try clear hk);(try clear hi))|((with_reducible refine gate_callee (f := 12) rfl ?_);refine goesL_ (some 34) rfl rfl Tryd.func12 (by kernel_rfl) rfl #[.string t179] rfl (by (try simp only [List.map_toArray,List.map_cons,List.map_nil]);first|done|rfl) ?_;(with_reducible refine (impl_ParseNum.calls (hT := ?hT_) k t179 t180 false _ A10.out).mono ?_);(case hT_ => exact tabB HT.out (by repeat (first|(with_reducible first|exact HB.out|apply bA|apply bN|apply bD)|exact HB.out)));rintro e w35 ⟨rfl,hb⟩;refine ⟨_,rfl,?_⟩;have n0_ := mk0 (below_step (by repeat (first|(with_reducible first|exact HB.out|apply bA|apply bN|apply bD)|exact HB.out)) hb);clear HB;have HB := n0_;clear n0_;(try clear hb);(try clear hb2);(try clear hk);(try clear hi))|((with_reducible refine gate_callee (f := 11) rfl ?_);refine goesL_ (some 39) rfl rfl Tryd.func11 (by kernel_rfl) rfl #[.string t179] rfl (by (try simp only [List.map_toArray,List.map_cons,List.map_nil]);first|done|rfl) ?_;(with_reducible refine (spec_ParseNum.calls k t179 t182 t183 _ A11.out).mono ?_);rintro e w' ⟨rfl,⟨nd,rfl⟩⟩;refine ⟨_,rfl,?_⟩)|((with_reducible refine gate_callee (f := 21) rfl ?_);refine goesL_ (some 43) rfl rfl Tryd.func21 (by kernel_rfl) rfl #[.slice A0 l0.length c0] rfl (by (try simp only [List.map_toArray,List.map_cons,List.map_nil]);first|done|rfl) ?_;(with_reducible refine (spec_DrawNumText.calls k _ _ l0 t184 _ ?side1 ?side2 A12.out).mono ?_);(case side1 => repeat (first|exact (Kd.C_below HR0.out (by repeat (first|(with_reducible first|exact HB.out|apply bA|apply bN|apply bD)|exact HB.out)))|(with_reducible refine cA ?_ _)|(with_reducible refine cN ?_ _)|(with_reducible refine cD ?_)));(case side2 => exact HC0.out);rintro e w36 ⟨rfl,hb⟩;refine ⟨_,rfl,?_⟩;have n0_ := mk0 (below_step (by repeat (first|(with_reducible first|exact HB.out|apply bA|apply bN|apply bD)|exact HB.out)) hb);clear HB;have HB := n0_;clear n0_;(try clear hb);(try clear hb2);(try clear hk);(try clear hi))|(go_at_call 10;(with_reducible refine (impl_NumText.calls (hT := ?hT_) t184 t188 _ A30.out).mono ?_);(case hT_ => exact tabB HT.out (by repeat (first|(with_reducible first|exact HB.out|apply bA|apply bN|apply bD)|exact HB.out)));rintro e w37 ⟨rfl,hb⟩;have n0_ := mk0 (below_step (by repeat (first|(with_reducible first|exact HB.out|apply bA|apply bN|apply bD)|exact HB.out)) hb);clear HB;have HB := n0_;clear n0_;(try clear hb);(try clear hb2);(try clear hk);(try clear hi))|(go_at_call 9;(with_reducible refine (spec_NumText.calls k t184 t189 _ A31.out).mono ?_);rintro e w38 ⟨rfl,hb⟩;have n0_ := mk0 (below_step (by repeat (first|(with_reducible first|exact HB.out|apply bA|apply bN|apply bD)|exact HB.out)) hb);clear HB;have HB := n0_;clear n0_;(try clear hb);(try clear hb2);(try clear hk);(try clear hi)))
              go_ret
              exact ⟨by first|rfl|(simp [errW_none,errW_some] <;> rfl)|(simp [*,errW_none,errW_some] <;> rfl),by repeat (first|(with_reducible first|exact HB.out|apply bA|apply bN|apply bD)|exact HB.out)⟩
          · rw [if_neg c16] at H
            exact absurd H (by simp)
        · rw [if_neg c15] at H
          exact absurd H (by simp)
      · rw [if_neg c14] at H
        exact absurd H (by simp)
    · replace c13 := Bool.eq_false_iff.mpr c13
      subst c13
      rw [if_neg (show ¬ (false = true) by decide)] at H
      exact absurd H (by simp)

/-- THE ONE PURE STATEMENT of laws_FnDigits: yours. -/
def laws_FnDigits.Pure : Prop := ∀ (l0 : List Int),l0.length ≤ maxLen → l0.length * 1 ≤ 140737488351232 → (∀ x ∈ l0,(Lit.int .u8 x).wf = true) → ∃ k,laws_FnDigits.f k l0 = some true
theorem laws_FnDigits.walk (P : laws_FnDigits.Pure) (a0 : Option Addr) (len0 cap0 : Nat) (z0 : List Int) (w : World) (hT : TabW w) (w0 : (a0 = none ∧ len0 = 0 ∧ cap0 = 0 ∧ z0 = []) ∨ ∃ x, a0 = some x ∧ len0 ≤ cap0 ∧ cap0 ≤ maxLen ∧ z0.length = cap0 ∧ (∀ i, i < z0.length → w.cell? (x.add i) = some (.int .u8 (z0.getD i 0))) ∧ ∀ n ∈ z0, (Lit.int .u8 n).wf = true) (y0 : len0 * 1 ≤ 140737488351232) :
    Calls Tryd.prog 6 #[.slice a0 len0 cap0] w fun e w' => e = .returned (.bool true) ∧ Below w.heap.size w w' := by
  obtain ⟨l0, rfl, hr0, hm0, hw0, hc0⟩ := ReadsInt.ofRowC w0
  obtain ⟨k, h⟩ := P l0 hm0 y0 hw0
  refine (laws_FnDigits.calls (hT := hT) k _ _ l0 true w (Kd.C_of_reads (d := (0 : Int)) (h1 := fun _ => rfl) hr0) hc0 h).mono ?_
  rintro e w' ⟨rfl, hd⟩
  exact ⟨rfl, hd⟩

end Go.Proofs.YtpencchkfbekdaaDoor.PFnDigits
