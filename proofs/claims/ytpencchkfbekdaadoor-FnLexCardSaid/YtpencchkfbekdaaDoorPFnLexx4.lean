-- The functions of a law as plain Lean functions, each with its contract: written by a program of this session.
import Derived.Test.YtpencchkfbekdaaDoorPFnLexx0
import Derived.Test.YtpencchkfbekdaaDoorPFnLexx3
namespace Go.Proofs.YtpencchkfbekdaaDoor.PFnLex
open Go.RowKit Go.Proofs.YtpencchkfbekdaaDoorW.PrintWords Go.Proofs.YtpencchkfbekdaaDoorW.PrintLast Go.Proofs.YtpencchkfbekdaaDoorW.PrintMore
attribute [local go_sem] max2_int min2_int max_two min_two max_three min_three max_four min_four   -- for this text's walks alone
set_option linter.unusedVariables false
set_option linter.unusedSimpArgs false

/-! ### spec_l2Next: function 45 -/
mutual
def spec_l2Next.j1 : Nat → ByteArray → Int → Int → Option (Int × ByteArray × Int × Int)
 | 0, _, _, _ => none
 | k + 1, x0, x1, x6 => if 0 ≤ x1 then (if x1 ≤ x6 then (if x6 ≤ (x0.size : Int) then ((spec_l2Kept.f k (x0.extract (x1 : Int).toNat (x6 : Int).toNat)).bind fun t141 => (if t141 = true then (some (3, x0.extract (x1 : Int).toNat (x6 : Int).toNat, 0, x6)) else ((spec_NameOk.f k (x0.extract (x1 : Int).toNat (x6 : Int).toNat)).bind fun t142 => (if t142 = true then (some (1, x0.extract (x1 : Int).toNat (x6 : Int).toNat, 0, x6)) else (some (0, (⟨#[]⟩ : ByteArray), 0, x6)))))) else (none)) else (none)) else (none)
def spec_l2Next.l0 : Nat → ByteArray → Int → Int → Option (Int × ByteArray × Int × Int)
 | 0, _, _, _ => none
 | k + 1, x0, x1, x6 => if x6 < (x0.size : Int) then (if 0 ≤ x6 then ((spec_l2Small.f (bt x0 x6)).bind fun t140 => (if t140 = true then (spec_l2Next.l0 k x0 x1 (wrap64 (x6 + 1))) else (spec_l2Next.j1 k x0 x1 x6))) else (none)) else (spec_l2Next.j1 k x0 x1 x6)
def spec_l2Next.j3 : Nat → ByteArray → Int → Int → Option (Int × ByteArray × Int × Int)
 | 0, _, _, _ => none
 | k + 1, x0, x1, x6 => if 0 ≤ x1 then (if x1 ≤ x6 then (if x6 ≤ (x0.size : Int) then ((spec_ParseNum.f k (x0.extract (x1 : Int).toNat (x6 : Int).toNat)).bind fun bt145 => (if bt145.2 = true then (spec_l2Next.j4 k x6 bt145.1 (decide (bt145.1 > 999999))) else (spec_l2Next.j4 k x6 bt145.1 true))) else (none)) else (none)) else (none)
def spec_l2Next.j4 : Nat → Int → Int → Bool → Option (Int × ByteArray × Int × Int)
 | 0, _, _, _ => none
 | k + 1, x6, x7, x81 => if x81 = true then (some (0, (⟨#[]⟩ : ByteArray), 0, x6)) else (some (2, (⟨#[]⟩ : ByteArray), x7, x6))
def spec_l2Next.l1 : Nat → ByteArray → Int → Int → Option (Int × ByteArray × Int × Int)
 | 0, _, _, _ => none
 | k + 1, x0, x1, x6 => if x6 < (x0.size : Int) then (if 0 ≤ x6 then ((spec_l2Digit.f (bt x0 x6)).bind fun t144 => (if t144 = true then (spec_l2Next.l1 k x0 x1 (wrap64 (x6 + 1))) else (spec_l2Next.j3 k x0 x1 x6))) else (none)) else (spec_l2Next.j3 k x0 x1 x6)
end
def spec_l2Next.f (k : Nat) (a0 : ByteArray) (a1 : Int) : Option (Int × ByteArray × Int × Int) := if 0 ≤ a1 then (if a1 < (a0.size : Int) then ((spec_l2Small.f (bt a0 a1)).bind fun t139 => (if t139 = true then (spec_l2Next.l0 k a0 a1 a1) else ((spec_l2Digit.f (bt a0 a1)).bind fun t143 => (if t143 = true then (spec_l2Next.l1 k a0 a1 a1) else (if a1 ≤ (wrap64 (a1 + 1)) then (if (wrap64 (a1 + 1)) ≤ (a0.size : Int) then ((spec_l2Has.f k (([(⟨#[59]⟩ : ByteArray), (⟨#[61]⟩ : ByteArray), (⟨#[91]⟩ : ByteArray), (⟨#[93]⟩ : ByteArray), (⟨#[40]⟩ : ByteArray), (⟨#[41]⟩ : ByteArray), (⟨#[123]⟩ : ByteArray), (⟨#[125]⟩ : ByteArray), (⟨#[43]⟩ : ByteArray), (⟨#[45]⟩ : ByteArray), (⟨#[42]⟩ : ByteArray), (⟨#[44]⟩ : ByteArray)] : List ByteArray)) (a0.extract (a1 : Int).toNat ((wrap64 (a1 + 1)) : Int).toNat)).bind fun t150 => (if t150 = true then (some (4, a0.extract (a1 : Int).toNat ((wrap64 (a1 + 1)) : Int).toNat, 0, wrap64 (a1 + 1))) else (some (0, (⟨#[]⟩ : ByteArray), 0, wrap64 (a1 + 1))))) else (none)) else (none)))))) else (none)) else (none)
theorem spec_l2Next.mono_l : ∀ k, (∀ y0 y1 y2, LeO (spec_l2Next.j1 k y0 y1 y2) (spec_l2Next.j1 (k + 1) y0 y1 y2)) ∧ (∀ y0 y1 y2, LeO (spec_l2Next.l0 k y0 y1 y2) (spec_l2Next.l0 (k + 1) y0 y1 y2)) ∧ (∀ y0 y1 y2, LeO (spec_l2Next.j3 k y0 y1 y2) (spec_l2Next.j3 (k + 1) y0 y1 y2)) ∧ (∀ y0 y1 y2, LeO (spec_l2Next.j4 k y0 y1 y2) (spec_l2Next.j4 (k + 1) y0 y1 y2)) ∧ (∀ y0 y1 y2, LeO (spec_l2Next.l1 k y0 y1 y2) (spec_l2Next.l1 (k + 1) y0 y1 y2))
 | 0 => ⟨fun _ _ _ r h => by simp [spec_l2Next.j1] at h, fun _ _ _ r h => by simp [spec_l2Next.l0] at h, fun _ _ _ r h => by simp [spec_l2Next.j3] at h, fun _ _ _ r h => by simp [spec_l2Next.j4] at h, fun _ _ _ r h => by simp [spec_l2Next.l1] at h⟩
 | k + 1 => by
  obtain ⟨ih0, ih1, ih2, ih3, ih4⟩ := spec_l2Next.mono_l k
  refine ⟨?_, ?_, ?_, ?_, ?_⟩
  ·intro y0 y1 y2
   unfold spec_l2Next.j1
   repeat' first
   | (with_reducible exact ih0 _ _ _)
   | (with_reducible exact ih1 _ _ _)
   | (with_reducible exact ih2 _ _ _)
   | (with_reducible exact ih3 _ _ _)
   | (with_reducible exact ih4 _ _ _)
   | (with_reducible exact spec_NameOk.mono _ _)
   | (with_reducible exact spec_ParseNum.mono _ _)
   | (with_reducible exact spec_l2Has.mono _ _ _)
   | (with_reducible exact spec_l2Kept.mono _ _)
   | (with_reducible exact LeO.refl _)
   | (with_reducible exact LeO.none _)
   | (with_reducible refine LeO.ite ?_ ?_)
   | (with_reducible refine LeO.bind ?_ (fun _ => ?_))
   | exact ih0 _ _ _
   | exact ih1 _ _ _
   | exact ih2 _ _ _
   | exact ih3 _ _ _
   | exact ih4 _ _ _
   | exact spec_NameOk.mono _ _
   | exact spec_ParseNum.mono _ _
   | exact spec_l2Has.mono _ _ _
   | exact spec_l2Kept.mono _ _
   | exact LeO.none _
   | refine LeO.ite ?_ ?_
   | refine LeO.bind ?_ (fun _ => ?_)
  ·intro y0 y1 y2
   unfold spec_l2Next.l0
   repeat' first
   | (with_reducible exact ih0 _ _ _)
   | (with_reducible exact ih1 _ _ _)
   | (with_reducible exact ih2 _ _ _)
   | (with_reducible exact ih3 _ _ _)
   | (with_reducible exact ih4 _ _ _)
   | (with_reducible exact spec_NameOk.mono _ _)
   | (with_reducible exact spec_ParseNum.mono _ _)
   | (with_reducible exact spec_l2Has.mono _ _ _)
   | (with_reducible exact spec_l2Kept.mono _ _)
   | (with_reducible exact LeO.refl _)
   | (with_reducible exact LeO.none _)
   | (with_reducible refine LeO.ite ?_ ?_)
   | (with_reducible refine LeO.bind ?_ (fun _ => ?_))
   | exact ih0 _ _ _
   | exact ih1 _ _ _
   | exact ih2 _ _ _
   | exact ih3 _ _ _
   | exact ih4 _ _ _
   | exact spec_NameOk.mono _ _
   | exact spec_ParseNum.mono _ _
   | exact spec_l2Has.mono _ _ _
   | exact spec_l2Kept.mono _ _
   | exact LeO.none _
   | refine LeO.ite ?_ ?_
   | refine LeO.bind ?_ (fun _ => ?_)
  ·intro y0 y1 y2
   unfold spec_l2Next.j3
   repeat' first
   | (with_reducible exact ih0 _ _ _)
   | (with_reducible exact ih1 _ _ _)
   | (with_reducible exact ih2 _ _ _)
   | (with_reducible exact ih3 _ _ _)
   | (with_reducible exact ih4 _ _ _)
   | (with_reducible exact spec_NameOk.mono _ _)
   | (with_reducible exact spec_ParseNum.mono _ _)
   | (with_reducible exact spec_l2Has.mono _ _ _)
   | (with_reducible exact spec_l2Kept.mono _ _)
   | (with_reducible exact LeO.refl _)
   | (with_reducible exact LeO.none _)
   | (with_reducible refine LeO.ite ?_ ?_)
   | (with_reducible refine LeO.bind ?_ (fun _ => ?_))
   | exact ih0 _ _ _
   | exact ih1 _ _ _
   | exact ih2 _ _ _
   | exact ih3 _ _ _
   | exact ih4 _ _ _
   | exact spec_NameOk.mono _ _
   | exact spec_ParseNum.mono _ _
   | exact spec_l2Has.mono _ _ _
   | exact spec_l2Kept.mono _ _
   | exact LeO.none _
   | refine LeO.ite ?_ ?_
   | refine LeO.bind ?_ (fun _ => ?_)
  ·intro y0 y1 y2
   unfold spec_l2Next.j4
   repeat' first
   | (with_reducible exact ih0 _ _ _)
   | (with_reducible exact ih1 _ _ _)
   | (with_reducible exact ih2 _ _ _)
   | (with_reducible exact ih3 _ _ _)
   | (with_reducible exact ih4 _ _ _)
   | (with_reducible exact spec_NameOk.mono _ _)
   | (with_reducible exact spec_ParseNum.mono _ _)
   | (with_reducible exact spec_l2Has.mono _ _ _)
   | (with_reducible exact spec_l2Kept.mono _ _)
   | (with_reducible exact LeO.refl _)
   | (with_reducible exact LeO.none _)
   | (with_reducible refine LeO.ite ?_ ?_)
   | (with_reducible refine LeO.bind ?_ (fun _ => ?_))
   | exact ih0 _ _ _
   | exact ih1 _ _ _
   | exact ih2 _ _ _
   | exact ih3 _ _ _
   | exact ih4 _ _ _
   | exact spec_NameOk.mono _ _
   | exact spec_ParseNum.mono _ _
   | exact spec_l2Has.mono _ _ _
   | exact spec_l2Kept.mono _ _
   | exact LeO.none _
   | refine LeO.ite ?_ ?_
   | refine LeO.bind ?_ (fun _ => ?_)
  ·intro y0 y1 y2
   unfold spec_l2Next.l1
   repeat' first
   | (with_reducible exact ih0 _ _ _)
   | (with_reducible exact ih1 _ _ _)
   | (with_reducible exact ih2 _ _ _)
   | (with_reducible exact ih3 _ _ _)
   | (with_reducible exact ih4 _ _ _)
   | (with_reducible exact spec_NameOk.mono _ _)
   | (with_reducible exact spec_ParseNum.mono _ _)
   | (with_reducible exact spec_l2Has.mono _ _ _)
   | (with_reducible exact spec_l2Kept.mono _ _)
   | (with_reducible exact LeO.refl _)
   | (with_reducible exact LeO.none _)
   | (with_reducible refine LeO.ite ?_ ?_)
   | (with_reducible refine LeO.bind ?_ (fun _ => ?_))
   | exact ih0 _ _ _
   | exact ih1 _ _ _
   | exact ih2 _ _ _
   | exact ih3 _ _ _
   | exact ih4 _ _ _
   | exact spec_NameOk.mono _ _
   | exact spec_ParseNum.mono _ _
   | exact spec_l2Has.mono _ _ _
   | exact spec_l2Kept.mono _ _
   | exact LeO.none _
   | refine LeO.ite ?_ ?_
   | refine LeO.bind ?_ (fun _ => ?_)
theorem spec_l2Next.mono : ∀ a0 a1 k, LeO (spec_l2Next.f k a0 a1) (spec_l2Next.f (k + 1) a0 a1) := by
 intro a0 a1 k
 obtain ⟨ih0, ih1, ih2, ih3, ih4⟩ := spec_l2Next.mono_l k
 unfold spec_l2Next.f
 repeat' first
   | (with_reducible exact ih0 _ _ _)
   | (with_reducible exact ih1 _ _ _)
   | (with_reducible exact ih2 _ _ _)
   | (with_reducible exact ih3 _ _ _)
   | (with_reducible exact ih4 _ _ _)
   | (with_reducible exact spec_NameOk.mono _ _)
   | (with_reducible exact spec_ParseNum.mono _ _)
   | (with_reducible exact spec_l2Has.mono _ _ _)
   | (with_reducible exact spec_l2Kept.mono _ _)
   | (with_reducible exact LeO.refl _)
   | (with_reducible exact LeO.none _)
   | (with_reducible refine LeO.ite ?_ ?_)
   | (with_reducible refine LeO.bind ?_ (fun _ => ?_))
   | exact ih0 _ _ _
   | exact ih1 _ _ _
   | exact ih2 _ _ _
   | exact ih3 _ _ _
   | exact ih4 _ _ _
   | exact spec_NameOk.mono _ _
   | exact spec_ParseNum.mono _ _
   | exact spec_l2Has.mono _ _ _
   | exact spec_l2Kept.mono _ _
   | exact LeO.none _
   | refine LeO.ite ?_ ?_
   | refine LeO.bind ?_ (fun _ => ?_)
set_option maxHeartbeats 8000000 in
set_option maxRecDepth 100000 in
theorem spec_l2Next.calls (k : Nat) (a0 : ByteArray) (a1 : Int) (r1 : Int) (r2 : ByteArray) (r3 : Int) (r4 : Int) (w : World) (h : spec_l2Next.f k a0 a1 = some (r1, r2, r3, r4)) :
  Calls Tryd.prog 45 #[.string a0, .int .i64 a1] w fun e w' => e = .returned (.tuple #[.agg #[.int .i64 r1, .string r2, .int .i64 r3], .int .i64 r4]) ∧ Below w.heap.size w w' := by
 have hu47 := Tryd.underlying47
 have HB := mk0 (Below.refl w.heap.size w)
 have H : (if 0 ≤ a1 then (if a1 < (a0.size : Int) then ((spec_l2Small.f (bt a0 a1)).bind fun t139 => (if t139 = true then (spec_l2Next.l0 k a0 a1 a1) else ((spec_l2Digit.f (bt a0 a1)).bind fun t143 => (if t143 = true then (spec_l2Next.l1 k a0 a1 a1) else (if a1 ≤ (wrap64 (a1 + 1)) then (if (wrap64 (a1 + 1)) ≤ (a0.size : Int) then ((spec_l2Has.f k (([(⟨#[59]⟩ : ByteArray),(⟨#[61]⟩ : ByteArray),(⟨#[91]⟩ : ByteArray),(⟨#[93]⟩ : ByteArray),(⟨#[40]⟩ : ByteArray),(⟨#[41]⟩ : ByteArray),(⟨#[123]⟩ : ByteArray),(⟨#[125]⟩ : ByteArray),(⟨#[43]⟩ : ByteArray),(⟨#[45]⟩ : ByteArray),(⟨#[42]⟩ : ByteArray),(⟨#[44]⟩ : ByteArray)] : List ByteArray)) (a0.extract (a1 : Int).toNat ((wrap64 (a1 + 1)) : Int).toNat)).bind fun t150 => (if t150 = true then (some (4,a0.extract (a1 : Int).toNat ((wrap64 (a1 + 1)) : Int).toNat,0,wrap64 (a1 + 1))) else (some (0,(⟨#[]⟩ : ByteArray),0,wrap64 (a1 + 1))))) else (none)) else (none)))))) else (none)) else (none)) = some (r1,r2,r3,r4) := h
 clear h
 by_cases c3 : 0 ≤ a1
 ·rw [if_pos c3] at H
  have c3b0 : decide (0 ≤ a1) = true := decide_eq_true c3
  clear c3
  by_cases c4 : a1 < (a0.size : Int)
  ·rw [if_pos c4] at H
   have c4b0 : decide (a1 < (a0.size : Int)) = true := decide_eq_true c4
   clear c4
   obtain ⟨t139,A6,H⟩ := bindA H
   by_cases c7 : t139 = true
   ·subst c7
    rw [if_pos rfl] at H
    have HC8 := mk0 H
    clear H
    go_enter Tryd.func45,Tryd.ntmps45
    go_upto_block 1 with (first|((with_reducible refine gate_dst (N := 4) rfl ?_);refine box_event ?hg (N := 4) ?hd (cs := #[.int .i64 0,.string (⟨#[]⟩ : ByteArray),.int .i64 0]) (t := 47) ?hr ?_;(case hd => rfl);(case hg => rfl);(case hr => first|(go_simp;done)|(go_simp;rfl));intro gb138 hg w9 hbox hb;have q_ := qB (by repeat (first|(with_reducible first|exact HB.out|apply bA|apply bN|apply bD)|exact HB.out)) hb;have n0_ := mk0 (below_step q_ hb);have n1_ := mk0 (hbox);have n2_ := mk0 (below_size2 q_ hg);have n3_ := n2_;clear HB;have HB := n0_;have BK138 := n1_;have GW138 := n2_;have GE138 := n3_;clear q_ n0_ n1_ n2_ n3_;clear hb hbox hg;have p5 : 0 ≤ (a1 : Int) := of_decide_eq_true (by first|(with_reducible assumption)|assumption);have q5 : a1 < (a0.size : Int) := of_decide_eq_true (by first|(with_reducible assumption)|assumption);have hx5 := bt_at a0 a1;replace p5 := eq_true p5;replace q5 := eq_true q5)|((with_reducible refine gate_callee (f := 52) rfl ?_);refine goesL_ (some 14) rfl rfl Tryd.func52 (by kernel_rfl) rfl #[.int .u8 (bt a0 a1)] rfl (by (try simp only [List.map_toArray,List.map_cons,List.map_nil]);first|done|rfl) ?_;(with_reducible refine (spec_l2Small.calls (bt a0 a1) true _ A6.out).mono ?_);rintro e w' ⟨rfl,⟨nd,rfl⟩⟩;refine ⟨_,rfl,?_⟩))
    (try simp only [Act.put,List.setIfInBounds_toArray,List.set_cons_zero,List.set_cons_succ])
    go_cut [6] (fun v6 wc => ∃ (kq : Nat) (x6_7 : Int),v6 = .int .i64 x6_7 ∧ Aside0 (spec_l2Next.j1 kq a0 a1 x6_7 = some (r1,r2,r3,r4)) ∧ Aside0 (kq ≤ k) ∧ Aside0 (wc.heap[gb138]? = some (.cells #[.int .i64 0,.string (⟨#[]⟩ : ByteArray),.int .i64 0] 47 (0,0))) ∧ Aside0 (Below w.heap.size w wc))
    case first =>
     have H := HC8.out
     clear HC8
     have H' := mk0 H
     clear H
     go_wp2
     go_loopg [6] k (fun kq v6 w' => ∃ (x6_1 : Int),v6 = .int .i64 x6_1 ∧ Aside0 (spec_l2Next.l0 kq a0 a1 x6_1 = some (r1,r2,r3,r4)) ∧ Aside0 (kq ≤ k) ∧ Aside0 (w'.heap[gb138]? = some (.cells #[.int .i64 0,.string (⟨#[]⟩ : ByteArray),.int .i64 0] 47 (0,0))) ∧ Aside0 (Below w.heap.size w w'))
     case atStart => exact ⟨(a1),(by first|rfl|(simp;done)|(simp [*];done)),H',⟨Nat.le_refl _⟩,⟨by refine kX ?_;exact BK138.out⟩,⟨by repeat (first|(with_reducible first|exact HB.out|apply bA|apply bN|apply bD|refine bS ?_ GE138.out)|exact HB.out)⟩⟩
     case round =>
      clear H'
      try clear p2
      try clear c3
      try clear c3b0
      try clear c4
      try clear c4b0
      try clear c5
      try clear p5
      try clear q5
      try clear hx5
      try clear p6
      try clear c7
      try clear p5
      try clear q5
      obtain ⟨x6_1,rfl,HA,HK1,BK138,HB⟩ := hrel
      cases gk with
           |zero => exact absurd HA.out (by simp [spec_l2Next.l0])
           |succ k1 =>
       have H := HA.out
       clear HA
       simp only [spec_l2Next.l0] at H
       by_cases c10 : x6_1 < (a0.size : Int)
       ·rw [if_pos c10] at H
        have c10b0 : decide (x6_1 < (a0.size : Int)) = true := decide_eq_true c10
        clear c10
        (first|rw [c10b0]|(simp only [i64_w,i32_w];rw [c10b0])|skip)
        by_cases c11 : 0 ≤ x6_1
        ·rw [if_pos c11] at H
         have c11b0 : decide (0 ≤ x6_1) = true := decide_eq_true c11
         clear c11
         obtain ⟨t140,A13,H⟩ := bindA H
         by_cases c14 : t140 = true
         ·subst c14
          rw [if_pos rfl] at H
          have H' := mk0 H
          clear H
          have p12 : 0 ≤ (x6_1 : Int) := of_decide_eq_true (by first|(with_reducible assumption)|assumption)
          have q12 : x6_1 < (a0.size : Int) := of_decide_eq_true (by first|(with_reducible assumption)|assumption)
          have hx12 := bt_at a0 x6_1
          replace p12 := eq_true p12
          replace q12 := eq_true q12
          go_wp2_with (first|(go_at_call 52;(with_reducible refine (spec_l2Small.calls (bt a0 x6_1) true _ A13.out).mono ?_);rintro e w' ⟨rfl,⟨nd,rfl⟩⟩))
          go_roundg k1
          case measure => have := HK1.out;omega
          case rel => exact ⟨(wrap64 (x6_1 + 1)),(by first|rfl|(simp;done)|(simp [*];done)),H',⟨by have := HK1.out;omega⟩,⟨by refine kX ?_;exact BK138.out⟩,⟨by repeat (first|(with_reducible first|exact HB.out|apply bA|apply bN|apply bD|refine bS ?_ GE138.out)|exact HB.out)⟩⟩
         ·replace c14 := Bool.eq_false_iff.mpr c14
          subst c14
          rw [if_neg (show ¬ (false = true) by decide)] at H
          have H' := mk0 H
          clear H
          have p12 : 0 ≤ (x6_1 : Int) := of_decide_eq_true (by first|(with_reducible assumption)|assumption)
          have q12 : x6_1 < (a0.size : Int) := of_decide_eq_true (by first|(with_reducible assumption)|assumption)
          have hx12 := bt_at a0 x6_1
          replace p12 := eq_true p12
          replace q12 := eq_true q12
          go_wp2_with (first|(go_at_call 52;(with_reducible refine (spec_l2Small.calls (bt a0 x6_1) false _ A13.out).mono ?_);rintro e w' ⟨rfl,⟨nd,rfl⟩⟩))
          go_meet
          case rel => exact ⟨_,(x6_1),(by first|rfl|(simp;done)|(simp [*];done)),H',⟨by have := HK1.out;first|omega|exact Nat.le_refl _⟩,⟨by refine kX ?_;exact BK138.out⟩,⟨by repeat (first|(with_reducible first|exact HB.out|apply bA|apply bN|apply bD|refine bS ?_ GE138.out)|exact HB.out)⟩⟩
        ·rw [if_neg c11] at H
         exact absurd H (by simp)
       ·rw [if_neg c10] at H
        have c10b0 : decide (x6_1 < (a0.size : Int)) = false := decide_eq_false c10
        clear c10
        (first|rw [c10b0]|(simp only [i64_w,i32_w];rw [c10b0])|skip)
        have H' := mk0 H
        clear H
        go_wp2
        go_meet
        case rel => exact ⟨_,(x6_1),(by first|rfl|(simp;done)|(simp [*];done)),H',⟨by have := HK1.out;first|omega|exact Nat.le_refl _⟩,⟨by refine kX ?_;exact BK138.out⟩,⟨by repeat (first|(with_reducible first|exact HB.out|apply bA|apply bN|apply bD|refine bS ?_ GE138.out)|exact HB.out)⟩⟩
    case rest =>
     clear HC8
     try clear c1
     try clear p1
     try clear q1
     try clear hx1
     try clear p2
     try clear c3
     try clear c3b0
     try clear c4
     try clear c4b0
     try clear c5
     try clear p5
     try clear q5
     try clear hx5
     try clear p6
     try clear c7
     try clear c10
     try clear c10b0
     try clear c11
     try clear c11b0
     try clear p12
     try clear q12
     try clear hx12
     try clear c14
     try clear p12
     try clear p2
     try clear p5
     try clear p6
     try clear q12
     try clear q5
     obtain ⟨kq,x6_7,rfl,HA,HJ7,BK138,HB⟩ := hcut
     cases kq with
         |zero => exact absurd HA.out (by simp [spec_l2Next.j1])
         |succ kj7 =>
      have H := HA.out
      clear HA
      simp only [spec_l2Next.j1] at H
      by_cases c15 : 0 ≤ a1
      ·rw [if_pos c15] at H
       have c15b0 := eq_true c15
       have c15b1 : decide (0 ≤ a1) = true := decide_eq_true c15
       clear c15
       by_cases c16 : a1 ≤ x6_7
       ·rw [if_pos c16] at H
        have c16b0 := eq_true c16
        have c16b1 : decide (a1 ≤ x6_7) = true := decide_eq_true c16
        clear c16
        by_cases c17 : x6_7 ≤ (a0.size : Int)
        ·rw [if_pos c17] at H
         have c17b0 := eq_true c17
         have c17b1 : decide (x6_7 ≤ (a0.size : Int)) = true := decide_eq_true c17
         clear c17
         obtain ⟨t141,A18,H⟩ := bindA H
         by_cases c19 : t141 = true
         ·subst c19
          rw [if_pos rfl] at H
          have c20b0 := eq_true (of_decide_eq_true (by first|(with_reducible assumption)|assumption) : 0 ≤ a1)
          have c21b0 := eq_true (of_decide_eq_true (by first|(with_reducible assumption)|assumption) : a1 ≤ x6_7)
          have c22b0 := eq_true (of_decide_eq_true (by first|(with_reducible assumption)|assumption) : x6_7 ≤ (a0.size : Int))
          simp only [Option.some.injEq,Prod.mk.injEq] at H
          obtain ⟨rfl,rfl,rfl,rfl⟩ := H
          go_wp2_with (first|((with_reducible refine gate_callee (f := 53) rfl ?_);refine goesL_ (some 31) rfl rfl Tryd.func53 (by kernel_rfl) rfl #[.string (a0.extract (a1 : Int).toNat (x6_7 : Int).toNat)] rfl (by (try simp only [List.map_toArray,List.map_cons,List.map_nil]);first|done|rfl) ?_;(with_reducible refine (spec_l2Kept.calls kj7 (a0.extract (a1 : Int).toNat (x6_7 : Int).toNat) true _ A18.out).mono ?_);rintro e w23 ⟨rfl,hb⟩;refine ⟨_,rfl,?_⟩;have n0_ := mk0 (blk_below (by exact kX BK138.out) hb);have n1_ := mk0 (below_step (by repeat (first|(with_reducible first|exact HB.out|apply bA|apply bN|apply bD|refine bS ?_ GE138.out)|exact HB.out)) hb);clear BK138;clear HB;have BK138 := n0_;have HB := n1_;clear n0_ n1_;(try clear hb);(try clear hb2);(try clear hk);(try clear hi);have z24 := bc3 BK138.out))
          refine bodyPost_ret (results_ct rfl _ _ gb138 47 #[.int .i64 3,.string (a0.extract (a1 : Int).toNat (x6_7 : Int).toNat),.int .i64 0] (0,0) _ rfl (by refine kX ?_;refine blk_put (cs := #[.int .i64 3,.string (a0.extract (a1 : Int).toNat (x6_7 : Int).toNat),.int .i64 0]) ?_ 2 _ rfl;refine kX ?_;refine blk_put (cs := #[.int .i64 3,.string (⟨#[]⟩ : ByteArray),.int .i64 0]) ?_ 1 _ rfl;refine kX ?_;refine blk_put (cs := #[.int .i64 0,.string (⟨#[]⟩ : ByteArray),.int .i64 0]) ?_ 0 _ rfl;exact kX BK138.out) Tryd.underlying47 rfl (by kernel_rfl)) rfl ?_
          exact ⟨by first|rfl|(simp [errW_none,errW_some] <;> rfl)|(simp [*,errW_none,errW_some] <;> rfl),by repeat (first|(with_reducible first|exact HB.out|apply bA|apply bN|apply bD|refine bS ?_ GE138.out)|exact HB.out)⟩
         ·replace c19 := Bool.eq_false_iff.mpr c19
          subst c19
          rw [if_neg (show ¬ (false = true) by decide)] at H
          have c25b0 := eq_true (of_decide_eq_true (by first|(with_reducible assumption)|assumption) : 0 ≤ a1)
          have c26b0 := eq_true (of_decide_eq_true (by first|(with_reducible assumption)|assumption) : a1 ≤ x6_7)
          have c27b0 := eq_true (of_decide_eq_true (by first|(with_reducible assumption)|assumption) : x6_7 ≤ (a0.size : Int))
          obtain ⟨t142,A28,H⟩ := bindA H
          by_cases c29 : t142 = true
          ·subst c29
           rw [if_pos rfl] at H
           have c30b0 := eq_true (of_decide_eq_true (by first|(with_reducible assumption)|assumption) : 0 ≤ a1)
           have c31b0 := eq_true (of_decide_eq_true (by first|(with_reducible assumption)|assumption) : a1 ≤ x6_7)
           have c32b0 := eq_true (of_decide_eq_true (by first|(with_reducible assumption)|assumption) : x6_7 ≤ (a0.size : Int))
           simp only [Option.some.injEq,Prod.mk.injEq] at H
           obtain ⟨rfl,rfl,rfl,rfl⟩ := H
           go_wp2_with (first|((with_reducible refine gate_callee (f := 53) rfl ?_);refine goesL_ (some 31) rfl rfl Tryd.func53 (by kernel_rfl) rfl #[.string (a0.extract (a1 : Int).toNat (x6_7 : Int).toNat)] rfl (by (try simp only [List.map_toArray,List.map_cons,List.map_nil]);first|done|rfl) ?_;(with_reducible refine (spec_l2Kept.calls kj7 (a0.extract (a1 : Int).toNat (x6_7 : Int).toNat) false _ A18.out).mono ?_);rintro e w33 ⟨rfl,hb⟩;refine ⟨_,rfl,?_⟩;have n0_ := mk0 (blk_below (by exact kX BK138.out) hb);have n1_ := mk0 (below_step (by repeat (first|(with_reducible first|exact HB.out|apply bA|apply bN|apply bD|refine bS ?_ GE138.out)|exact HB.out)) hb);clear BK138;clear HB;have BK138 := n0_;have HB := n1_;clear n0_ n1_;(try clear hb);(try clear hb2);(try clear hk);(try clear hi))|((with_reducible refine gate_callee (f := 31) rfl ?_);refine goesL_ (some 42) rfl rfl Tryd.func31 (by kernel_rfl) rfl #[.string (a0.extract (a1 : Int).toNat (x6_7 : Int).toNat)] rfl (by (try simp only [List.map_toArray,List.map_cons,List.map_nil]);first|done|rfl) ?_;(with_reducible refine (spec_NameOk.calls kj7 (a0.extract (a1 : Int).toNat (x6_7 : Int).toNat) true _ A28.out).mono ?_);rintro e w34 ⟨rfl,hb⟩;refine ⟨_,rfl,?_⟩;have n0_ := mk0 (blk_below (by exact kX BK138.out) hb);have n1_ := mk0 (below_step (by repeat (first|(with_reducible first|exact HB.out|apply bA|apply bN|apply bD|refine bS ?_ GE138.out)|exact HB.out)) hb);clear BK138;clear HB;have BK138 := n0_;have HB := n1_;clear n0_ n1_;(try clear hb);(try clear hb2);(try clear hk);(try clear hi);have z35 := bc3 BK138.out))
           refine bodyPost_ret (results_ct rfl _ _ gb138 47 #[.int .i64 1,.string (a0.extract (a1 : Int).toNat (x6_7 : Int).toNat),.int .i64 0] (0,0) _ rfl (by refine kX ?_;refine blk_put (cs := #[.int .i64 1,.string (a0.extract (a1 : Int).toNat (x6_7 : Int).toNat),.int .i64 0]) ?_ 2 _ rfl;refine kX ?_;refine blk_put (cs := #[.int .i64 1,.string (⟨#[]⟩ : ByteArray),.int .i64 0]) ?_ 1 _ rfl;refine kX ?_;refine blk_put (cs := #[.int .i64 0,.string (⟨#[]⟩ : ByteArray),.int .i64 0]) ?_ 0 _ rfl;exact kX BK138.out) Tryd.underlying47 rfl (by kernel_rfl)) rfl ?_
           exact ⟨by first|rfl|(simp [errW_none,errW_some] <;> rfl)|(simp [*,errW_none,errW_some] <;> rfl),by repeat (first|(with_reducible first|exact HB.out|apply bA|apply bN|apply bD|refine bS ?_ GE138.out)|exact HB.out)⟩
          ·replace c29 := Bool.eq_false_iff.mpr c29
           subst c29
           rw [if_neg (show ¬ (false = true) by decide)] at H
           simp only [Option.some.injEq,Prod.mk.injEq] at H
           obtain ⟨rfl,rfl,rfl,rfl⟩ := H
           go_wp2_with (first|((with_reducible refine gate_callee (f := 53) rfl ?_);refine goesL_ (some 31) rfl rfl Tryd.func53 (by kernel_rfl) rfl #[.string (a0.extract (a1 : Int).toNat (x6_7 : Int).toNat)] rfl (by (try simp only [List.map_toArray,List.map_cons,List.map_nil]);first|done|rfl) ?_;(with_reducible refine (spec_l2Kept.calls kj7 (a0.extract (a1 : Int).toNat (x6_7 : Int).toNat) false _ A18.out).mono ?_);rintro e w36 ⟨rfl,hb⟩;refine ⟨_,rfl,?_⟩;have n0_ := mk0 (blk_below (by exact kX BK138.out) hb);have n1_ := mk0 (below_step (by repeat (first|(with_reducible first|exact HB.out|apply bA|apply bN|apply bD|refine bS ?_ GE138.out)|exact HB.out)) hb);clear BK138;clear HB;have BK138 := n0_;have HB := n1_;clear n0_ n1_;(try clear hb);(try clear hb2);(try clear hk);(try clear hi))|((with_reducible refine gate_callee (f := 31) rfl ?_);refine goesL_ (some 42) rfl rfl Tryd.func31 (by kernel_rfl) rfl #[.string (a0.extract (a1 : Int).toNat (x6_7 : Int).toNat)] rfl (by (try simp only [List.map_toArray,List.map_cons,List.map_nil]);first|done|rfl) ?_;(with_reducible refine (spec_NameOk.calls kj7 (a0.extract (a1 : Int).toNat (x6_7 : Int).toNat) false _ A28.out).mono ?_);rintro e w37 ⟨rfl,hb⟩;refine ⟨_,rfl,?_⟩;have n0_ := mk0 (blk_below (by exact kX BK138.out) hb);have n1_ := mk0 (below_step (by repeat (first|(with_reducible first|exact HB.out|apply bA|apply bN|apply bD|refine bS ?_ GE138.out)|exact HB.out)) hb);clear BK138;clear HB;have BK138 := n0_;have HB := n1_;clear n0_ n1_;(try clear hb);(try clear hb2);(try clear hk);(try clear hi);have z38 := bc3 BK138.out))
           refine bodyPost_ret (results_ct rfl _ _ gb138 47 #[.int .i64 0,.string (⟨#[]⟩ : ByteArray),.int .i64 0] (0,0) _ rfl (by refine kX ?_;refine blk_put (cs := #[.int .i64 0,.string (⟨#[]⟩ : ByteArray),.int .i64 0]) ?_ 2 _ rfl;refine kX ?_;refine blk_put (cs := #[.int .i64 0,.string (⟨#[]⟩ : ByteArray),.int .i64 0]) ?_ 1 _ rfl;refine kX ?_;refine blk_put (cs := #[.int .i64 0,.string (⟨#[]⟩ : ByteArray),.int .i64 0]) ?_ 0 _ rfl;exact kX BK138.out) Tryd.underlying47 rfl (by kernel_rfl)) rfl ?_
           exact ⟨by first|rfl|(simp [errW_none,errW_some] <;> rfl)|(simp [*,errW_none,errW_some] <;> rfl),by repeat (first|(with_reducible first|exact HB.out|apply bA|apply bN|apply bD|refine bS ?_ GE138.out)|exact HB.out)⟩
        ·rw [if_neg c17] at H
         exact absurd H (by simp)
       ·rw [if_neg c16] at H
        exact absurd H (by simp)
      ·rw [if_neg c15] at H
       exact absurd H (by simp)
   ·replace c7 := Bool.eq_false_iff.mpr c7
    subst c7
    rw [if_neg (show ¬ (false = true) by decide)] at H
    obtain ⟨t143,A40,H⟩ := bindA H
    by_cases c41 : t143 = true
    ·subst c41
     rw [if_pos rfl] at H
     have HC42 := mk0 H
     clear H
     go_enter Tryd.func45,Tryd.ntmps45
     go_upto_block 3 with (first|((with_reducible refine gate_dst (N := 4) rfl ?_);refine box_event ?hg (N := 4) ?hd (cs := #[.int .i64 0,.string (⟨#[]⟩ : ByteArray),.int .i64 0]) (t := 47) ?hr ?_;(case hd => rfl);(case hg => rfl);(case hr => first|(go_simp;done)|(go_simp;rfl));intro gb138 hg w43 hbox hb;have q_ := qB (by repeat (first|(with_reducible first|exact HB.out|apply bA|apply bN|apply bD)|exact HB.out)) hb;have n0_ := mk0 (below_step q_ hb);have n1_ := mk0 (hbox);have n2_ := mk0 (below_size2 q_ hg);have n3_ := n2_;clear HB;have HB := n0_;have BK138 := n1_;have GW138 := n2_;have GE138 := n3_;clear q_ n0_ n1_ n2_ n3_;clear hb hbox hg;have p5 : 0 ≤ (a1 : Int) := of_decide_eq_true (by first|(with_reducible assumption)|assumption);have q5 : a1 < (a0.size : Int) := of_decide_eq_true (by first|(with_reducible assumption)|assumption);have hx5 := bt_at a0 a1;replace p5 := eq_true p5;replace q5 := eq_true q5)|((with_reducible refine gate_callee (f := 52) rfl ?_);refine goesL_ (some 14) rfl rfl Tryd.func52 (by kernel_rfl) rfl #[.int .u8 (bt a0 a1)] rfl (by (try simp only [List.map_toArray,List.map_cons,List.map_nil]);first|done|rfl) ?_;(with_reducible refine (spec_l2Small.calls (bt a0 a1) false _ A6.out).mono ?_);rintro e w' ⟨rfl,⟨nd,rfl⟩⟩;refine ⟨_,rfl,?_⟩;have p39 : 0 ≤ (a1 : Int) := of_decide_eq_true (by first|(with_reducible assumption)|assumption);have q39 : a1 < (a0.size : Int) := of_decide_eq_true (by first|(with_reducible assumption)|assumption);have hx39 := bt_at a0 a1;replace p39 := eq_true p39;replace q39 := eq_true q39)|((with_reducible refine gate_callee (f := 60) rfl ?_);refine goesL_ (some 55) rfl rfl Tryd.func60 (by kernel_rfl) rfl #[.int .u8 (bt a0 a1)] rfl (by (try simp only [List.map_toArray,List.map_cons,List.map_nil]);first|done|rfl) ?_;(with_reducible refine (spec_l2Digit.calls (bt a0 a1) true _ A40.out).mono ?_);rintro e w' ⟨rfl,⟨nd,rfl⟩⟩;refine ⟨_,rfl,?_⟩))
     (try simp only [Act.put,List.setIfInBounds_toArray,List.set_cons_zero,List.set_cons_succ])
     go_cut [6] (fun v6 wc => ∃ (kq : Nat) (x6_41 : Int),v6 = .int .i64 x6_41 ∧ Aside0 (spec_l2Next.j3 kq a0 a1 x6_41 = some (r1,r2,r3,r4)) ∧ Aside0 (kq ≤ k) ∧ Aside0 (wc.heap[gb138]? = some (.cells #[.int .i64 0,.string (⟨#[]⟩ : ByteArray),.int .i64 0] 47 (0,0))) ∧ Aside0 (Below w.heap.size w wc))
     case first =>
      have H := HC42.out
      clear HC42
      have H' := mk0 H
      clear H
      go_wp2
      go_loopg [6] k (fun kq v6 w' => ∃ (x6_1 : Int),v6 = .int .i64 x6_1 ∧ Aside0 (spec_l2Next.l1 kq a0 a1 x6_1 = some (r1,r2,r3,r4)) ∧ Aside0 (kq ≤ k) ∧ Aside0 (w'.heap[gb138]? = some (.cells #[.int .i64 0,.string (⟨#[]⟩ : ByteArray),.int .i64 0] 47 (0,0))) ∧ Aside0 (Below w.heap.size w w'))
      case atStart => exact ⟨(a1),(by first|rfl|(simp;done)|(simp [*];done)),H',⟨Nat.le_refl _⟩,⟨by refine kX ?_;exact BK138.out⟩,⟨by repeat (first|(with_reducible first|exact HB.out|apply bA|apply bN|apply bD|refine bS ?_ GE138.out)|exact HB.out)⟩⟩
      case round =>
       clear H'
       try clear c1
       try clear p1
       try clear q1
       try clear hx1
       try clear c2
       try clear p2
       try clear c3
       try clear c3b0
       try clear p3
       try clear q3
       try clear hx3
       try clear c4
       try clear c4b0
       try clear c5
       try clear p5
       try clear q5
       try clear hx5
       try clear c6
       try clear p6
       try clear c7
       try clear c10
       try clear c10b0
       try clear c11
       try clear c11b0
       try clear p12
       try clear q12
       try clear hx12
       try clear c14
       try clear c15
       try clear c15b0
       try clear c15b1
       try clear c16
       try clear c16b0
       try clear c16b1
       try clear c17
       try clear c17b0
       try clear c17b1
       try clear c19
       try clear c20
       try clear c20b0
       try clear c21
       try clear c21b0
       try clear c22
       try clear c22b0
       try clear c25
       try clear c25b0
       try clear c26
       try clear c26b0
       try clear c27
       try clear c27b0
       try clear c29
       try clear c30
       try clear c30b0
       try clear c31
       try clear c31b0
       try clear c32
       try clear c32b0
       try clear p39
       try clear q39
       try clear hx39
       try clear c41
       try clear z24
       try clear z35
       try clear z38
       try clear z24
       try clear z35
       try clear z38
       try clear p1
       try clear p12
       try clear p2
       try clear p39
       try clear p5
       try clear p6
       try clear q1
       try clear q12
       try clear q39
       try clear q5
       obtain ⟨x6_1,rfl,HA,HK1,BK138,HB⟩ := hrel
       cases gk with
             |zero => exact absurd HA.out (by simp [spec_l2Next.l1])
             |succ k1 =>
        have H := HA.out
        clear HA
        simp only [spec_l2Next.l1] at H
        by_cases c44 : x6_1 < (a0.size : Int)
        ·rw [if_pos c44] at H
         have c44b0 : decide (x6_1 < (a0.size : Int)) = true := decide_eq_true c44
         clear c44
         (first|rw [c44b0]|(simp only [i64_w,i32_w];rw [c44b0])|skip)
         by_cases c45 : 0 ≤ x6_1
         ·rw [if_pos c45] at H
          have c45b0 : decide (0 ≤ x6_1) = true := decide_eq_true c45
          clear c45
          obtain ⟨t144,A47,H⟩ := bindA H
          by_cases c48 : t144 = true
          ·subst c48
           rw [if_pos rfl] at H
           have H' := mk0 H
           clear H
           have p46 : 0 ≤ (x6_1 : Int) := of_decide_eq_true (by first|(with_reducible assumption)|assumption)
           have q46 : x6_1 < (a0.size : Int) := of_decide_eq_true (by first|(with_reducible assumption)|assumption)
           have hx46 := bt_at a0 x6_1
           replace p46 := eq_true p46
           replace q46 := eq_true q46
           go_wp2_with (first|(go_at_call 60;(with_reducible refine (spec_l2Digit.calls (bt a0 x6_1) true _ A47.out).mono ?_);rintro e w' ⟨rfl,⟨nd,rfl⟩⟩))
           go_roundg k1
           case measure => have := HK1.out;omega
           case rel => exact ⟨(wrap64 (x6_1 + 1)),(by first|rfl|(simp;done)|(simp [*];done)),H',⟨by have := HK1.out;omega⟩,⟨by refine kX ?_;exact BK138.out⟩,⟨by repeat (first|(with_reducible first|exact HB.out|apply bA|apply bN|apply bD|refine bS ?_ GE138.out)|exact HB.out)⟩⟩
          ·replace c48 := Bool.eq_false_iff.mpr c48
           subst c48
           rw [if_neg (show ¬ (false = true) by decide)] at H
           have H' := mk0 H
           clear H
           have p46 : 0 ≤ (x6_1 : Int) := of_decide_eq_true (by first|(with_reducible assumption)|assumption)
           have q46 : x6_1 < (a0.size : Int) := of_decide_eq_true (by first|(with_reducible assumption)|assumption)
           have hx46 := bt_at a0 x6_1
           replace p46 := eq_true p46
           replace q46 := eq_true q46
           go_wp2_with (first|(go_at_call 60;(with_reducible refine (spec_l2Digit.calls (bt a0 x6_1) false _ A47.out).mono ?_);rintro e w' ⟨rfl,⟨nd,rfl⟩⟩))
           go_meet
           case rel => exact ⟨_,(x6_1),(by first|rfl|(simp;done)|(simp [*];done)),H',⟨by have := HK1.out;first|omega|exact Nat.le_refl _⟩,⟨by refine kX ?_;exact BK138.out⟩,⟨by repeat (first|(with_reducible first|exact HB.out|apply bA|apply bN|apply bD|refine bS ?_ GE138.out)|exact HB.out)⟩⟩
         ·rw [if_neg c45] at H
          exact absurd H (by simp)
        ·rw [if_neg c44] at H
         have c44b0 : decide (x6_1 < (a0.size : Int)) = false := decide_eq_false c44
         clear c44
         (first|rw [c44b0]|(simp only [i64_w,i32_w];rw [c44b0])|skip)
         have H' := mk0 H
         clear H
         go_wp2
         go_meet
         case rel => exact ⟨_,(x6_1),(by first|rfl|(simp;done)|(simp [*];done)),H',⟨by have := HK1.out;first|omega|exact Nat.le_refl _⟩,⟨by refine kX ?_;exact BK138.out⟩,⟨by repeat (first|(with_reducible first|exact HB.out|apply bA|apply bN|apply bD|refine bS ?_ GE138.out)|exact HB.out)⟩⟩
     case rest =>
      clear HC42
      try clear c1
      try clear p1
      try clear q1
      try clear hx1
      try clear c2
      try clear p2
      try clear c3
      try clear c3b0
      try clear p3
      try clear q3
      try clear hx3
      try clear c4
      try clear c4b0
      try clear p4
      try clear q4
      try clear hx4
      try clear c5
      try clear p5
      try clear q5
      try clear hx5
      try clear c6
      try clear p6
      try clear c7
      try clear c10
      try clear c10b0
      try clear c11
      try clear c11b0
      try clear p12
      try clear q12
      try clear hx12
      try clear c14
      try clear c15
      try clear c15b0
      try clear c15b1
      try clear c16
      try clear c16b0
      try clear c16b1
      try clear c17
      try clear c17b0
      try clear c17b1
      try clear c19
      try clear c20
      try clear c20b0
      try clear c21
      try clear c21b0
      try clear c22
      try clear c22b0
      try clear c25
      try clear c25b0
      try clear c26
      try clear c26b0
      try clear c27
      try clear c27b0
      try clear c29
      try clear c30
      try clear c30b0
      try clear c31
      try clear c31b0
      try clear c32
      try clear c32b0
      try clear p39
      try clear q39
      try clear hx39
      try clear c41
      try clear c44
      try clear c44b0
      try clear c45
      try clear c45b0
      try clear p46
      try clear q46
      try clear hx46
      try clear c48
      try clear z24
      try clear z35
      try clear z38
      try clear z24
      try clear z35
      try clear z38
      try clear p1
      try clear p12
      try clear p2
      try clear p3
      try clear p39
      try clear p46
      try clear p5
      try clear p6
      try clear q1
      try clear q12
      try clear q3
      try clear q39
      try clear q46
      try clear q5
      obtain ⟨kq,x6_41,rfl,HA,HJ41,BK138,HB⟩ := hcut
      cases kq with
           |zero => exact absurd HA.out (by simp [spec_l2Next.j3])
           |succ kj41 =>
       have H := HA.out
       clear HA
       simp only [spec_l2Next.j3] at H
       by_cases c49 : 0 ≤ a1
       ·rw [if_pos c49] at H
        have c49b0 := eq_true c49
        have c49b1 : decide (0 ≤ a1) = true := decide_eq_true c49
        clear c49
        by_cases c50 : a1 ≤ x6_41
        ·rw [if_pos c50] at H
         have c50b0 := eq_true c50
         have c50b1 : decide (a1 ≤ x6_41) = true := decide_eq_true c50
         clear c50
         by_cases c51 : x6_41 ≤ (a0.size : Int)
         ·rw [if_pos c51] at H
          have c51b0 := eq_true c51
          have c51b1 : decide (x6_41 ≤ (a0.size : Int)) = true := decide_eq_true c51
          clear c51
          replace H := Option.bind_eq_some_iff.mp H
          obtain ⟨⟨t145,t146⟩,A520,H⟩ := H
          replace H : (if t146 = true then (spec_l2Next.j4 kj41 x6_41 t145 (decide (t145 > 999999))) else (spec_l2Next.j4 kj41 x6_41 t145 true)) = some (r1,r2,r3,r4) := H
          have A52 := mk0 A520
          clear A520
          have HC53 := mk0 H
          clear H
          go_upto_region 14 with (first|((with_reducible refine gate_callee (f := 11) rfl ?_);refine goesL_ (some 73) rfl rfl Tryd.func11 (by kernel_rfl) rfl #[.string (a0.extract (a1 : Int).toNat (x6_41 : Int).toNat)] rfl (by (try simp only [List.map_toArray,List.map_cons,List.map_nil]);first|done|rfl) ?_;(with_reducible refine (spec_ParseNum.calls kj41 (a0.extract (a1 : Int).toNat (x6_41 : Int).toNat) t145 t146 _ A52.out).mono ?_);rintro e w' ⟨rfl,⟨nd,rfl⟩⟩;refine ⟨_,rfl,?_⟩))
          (try simp only [Act.put,List.setIfInBounds_toArray,List.set_cons_zero,List.set_cons_succ])
          go_cut [81] (fun v81 wc => ∃ (kq : Nat) (x81_52 : Bool),v81 = .bool x81_52 ∧ Aside0 (spec_l2Next.j4 kq x6_41 t145 x81_52 = some (r1,r2,r3,r4)) ∧ Aside0 (kq ≤ kj41) ∧ Aside0 (wc.heap[gb138]? = some (.cells #[.int .i64 0,.string (⟨#[]⟩ : ByteArray),.int .i64 0] 47 (0,0))) ∧ Aside0 (Below w.heap.size w wc))
          case first =>
           have H := HC53.out
           clear HC53
           by_cases c54 : t146 = true
           ·subst c54
            rw [if_pos rfl] at H
            have H' := mk0 H
            clear H
            go_wp2
            go_meet
            case rel => exact ⟨_,(decide (t145 > 999999)),(by first|rfl|(simp;done)|(simp [*];done)),H',⟨by have := HJ41.out;first|omega|exact Nat.le_refl _⟩,⟨by refine kX ?_;exact BK138.out⟩,⟨by repeat (first|(with_reducible first|exact HB.out|apply bA|apply bN|apply bD|refine bS ?_ GE138.out)|exact HB.out)⟩⟩
           ·replace c54 := Bool.eq_false_iff.mpr c54
            subst c54
            rw [if_neg (show ¬ (false = true) by decide)] at H
            have H' := mk0 H
            clear H
            go_wp2
            go_meet
            case rel => exact ⟨_,(true),(by first|rfl|(simp;done)|(simp [*];done)),H',⟨by have := HJ41.out;first|omega|exact Nat.le_refl _⟩,⟨by refine kX ?_;exact BK138.out⟩,⟨by repeat (first|(with_reducible first|exact HB.out|apply bA|apply bN|apply bD|refine bS ?_ GE138.out)|exact HB.out)⟩⟩
          case rest =>
           clear HC53
           try clear c1
           try clear p1
           try clear q1
           try clear hx1
           try clear c2
           try clear p2
           try clear c3
           try clear c3b0
           try clear p3
           try clear q3
           try clear hx3
           try clear c4
           try clear c4b0
           try clear p4
           try clear q4
           try clear hx4
           try clear c5
           try clear p5
           try clear q5
           try clear hx5
           try clear c6
           try clear p6
           try clear c7
           try clear c10
           try clear c10b0
           try clear c11
           try clear c11b0
           try clear p12
           try clear q12
           try clear hx12
           try clear c14
           try clear c15
           try clear c15b0
           try clear c15b1
           try clear c16
           try clear c16b0
           try clear c16b1
           try clear c17
           try clear c17b0
           try clear c17b1
           try clear c19
           try clear c20
           try clear c20b0
           try clear c21
           try clear c21b0
           try clear c22
           try clear c22b0
           try clear c25
           try clear c25b0
           try clear c26
           try clear c26b0
           try clear c27
           try clear c27b0
           try clear c29
           try clear c30
           try clear c30b0
           try clear c31
           try clear c31b0
           try clear c32
           try clear c32b0
           try clear p39
           try clear q39
           try clear hx39
           try clear c41
           try clear c44
           try clear c44b0
           try clear c45
           try clear c45b0
           try clear p46
           try clear q46
           try clear hx46
           try clear c48
           try clear c49
           try clear c49b0
           try clear c49b1
           try clear c50
           try clear c50b0
           try clear c50b1
           try clear c51
           try clear c51b0
           try clear c51b1
           try clear c52
           try clear c53
           try clear c54
           try clear z24
           try clear z35
           try clear z38
           try clear z24
           try clear z35
           try clear z38
           try clear p1
           try clear p12
           try clear p2
           try clear p3
           try clear p39
           try clear p4
           try clear p46
           try clear p5
           try clear p6
           try clear q1
           try clear q12
           try clear q3
           try clear q39
           try clear q4
           try clear q46
           try clear q5
           obtain ⟨kq,x81_52,rfl,HA,HJ52,BK138,HB⟩ := hcut
           cases kq with
                     |zero => exact absurd HA.out (by simp [spec_l2Next.j4])
                     |succ kj52 =>
            have H := HA.out
            clear HA
            simp only [spec_l2Next.j4] at H
            by_cases c55 : x81_52 = true
            ·subst c55
             rw [if_pos rfl] at H
             simp only [Option.some.injEq,Prod.mk.injEq] at H
             obtain ⟨rfl,rfl,rfl,rfl⟩ := H
             have z56 := bc3 BK138.out
             go_wp2
             refine bodyPost_ret (results_ct rfl _ _ gb138 47 #[.int .i64 0,.string (⟨#[]⟩ : ByteArray),.int .i64 0] (0,0) _ rfl (by refine kX ?_;refine blk_put (cs := #[.int .i64 0,.string (⟨#[]⟩ : ByteArray),.int .i64 0]) ?_ 2 _ rfl;refine kX ?_;refine blk_put (cs := #[.int .i64 0,.string (⟨#[]⟩ : ByteArray),.int .i64 0]) ?_ 1 _ rfl;refine kX ?_;refine blk_put (cs := #[.int .i64 0,.string (⟨#[]⟩ : ByteArray),.int .i64 0]) ?_ 0 _ rfl;exact kX BK138.out) Tryd.underlying47 rfl (by kernel_rfl)) rfl ?_
             exact ⟨by first|rfl|(simp [errW_none,errW_some] <;> rfl)|(simp [*,errW_none,errW_some] <;> rfl),by repeat (first|(with_reducible first|exact HB.out|apply bA|apply bN|apply bD|refine bS ?_ GE138.out)|exact HB.out)⟩
            ·replace c55 := Bool.eq_false_iff.mpr c55
             subst c55
             rw [if_neg (show ¬ (false = true) by decide)] at H
             simp only [Option.some.injEq,Prod.mk.injEq] at H
             obtain ⟨rfl,rfl,rfl,rfl⟩ := H
             have z57 := bc3 BK138.out
             go_wp2
             refine bodyPost_ret (results_ct rfl _ _ gb138 47 #[.int .i64 2,.string (⟨#[]⟩ : ByteArray),.int .i64 t145] (0,0) _ rfl (by refine kX ?_;refine blk_put (cs := #[.int .i64 2,.string (⟨#[]⟩ : ByteArray),.int .i64 0]) ?_ 2 _ rfl;refine kX ?_;refine blk_put (cs := #[.int .i64 2,.string (⟨#[]⟩ : ByteArray),.int .i64 0]) ?_ 1 _ rfl;refine kX ?_;refine blk_put (cs := #[.int .i64 0,.string (⟨#[]⟩ : ByteArray),.int .i64 0]) ?_ 0 _ rfl;exact kX BK138.out) Tryd.underlying47 rfl (by kernel_rfl)) rfl ?_
             exact ⟨by first|rfl|(simp [errW_none,errW_some] <;> rfl)|(simp [*,errW_none,errW_some] <;> rfl),by repeat (first|(with_reducible first|exact HB.out|apply bA|apply bN|apply bD|refine bS ?_ GE138.out)|exact HB.out)⟩
         ·rw [if_neg c51] at H
          exact absurd H (by simp)
        ·rw [if_neg c50] at H
         exact absurd H (by simp)
       ·rw [if_neg c49] at H
        exact absurd H (by simp)
    ·replace c41 := Bool.eq_false_iff.mpr c41
     subst c41
     rw [if_neg (show ¬ (false = true) by decide)] at H
     obtain ⟨y147,hy147⟩ : ∃ y_ : List ByteArray,y_ = (([(⟨#[59]⟩ : ByteArray),(⟨#[61]⟩ : ByteArray),(⟨#[91]⟩ : ByteArray),(⟨#[93]⟩ : ByteArray),(⟨#[40]⟩ : ByteArray),(⟨#[41]⟩ : ByteArray),(⟨#[123]⟩ : ByteArray),(⟨#[125]⟩ : ByteArray),(⟨#[43]⟩ : ByteArray),(⟨#[45]⟩ : ByteArray),(⟨#[42]⟩ : ByteArray),(⟨#[44]⟩ : ByteArray)] : List ByteArray)) := ⟨_,rfl⟩
     replace H : (if a1 ≤ (wrap64 (a1 + 1)) then (if (wrap64 (a1 + 1)) ≤ (a0.size : Int) then ((spec_l2Has.f k y147 (a0.extract (a1 : Int).toNat ((wrap64 (a1 + 1)) : Int).toNat)).bind fun t150 => (if t150 = true then (some (4,a0.extract (a1 : Int).toNat ((wrap64 (a1 + 1)) : Int).toNat,0,wrap64 (a1 + 1))) else (some (0,(⟨#[]⟩ : ByteArray),0,wrap64 (a1 + 1))))) else (none)) else (none)) = some (r1,r2,r3,r4) := by first|(rw [hy147];with_reducible exact H)|(have H2_ := (Option.bind_some _ _).symm.trans H;rw [hy147];with_reducible exact H2_)|(have H2_ := (Option.bind_some _ _).symm.trans H;with_reducible exact H2_)|with_reducible exact H|(rw [hy147];exact H)|exact H
     have Ny147 := mk0 hy147
     clear hy147
     have c58b0 := eq_true (of_decide_eq_true (by first|(with_reducible assumption)|assumption) : 0 ≤ a1)
     by_cases c59 : a1 ≤ (wrap64 (a1 + 1))
     ·rw [if_pos c59] at H
      have c59b0 := eq_true c59
      have c59b1 : decide (a1 ≤ (wrap64 (a1 + 1))) = true := decide_eq_true c59
      by_cases c60 : (wrap64 (a1 + 1)) ≤ (a0.size : Int)
      ·rw [if_pos c60] at H
       have c60b0 := eq_true c60
       have c60b1 : decide ((wrap64 (a1 + 1)) ≤ (a0.size : Int)) = true := decide_eq_true c60
       obtain ⟨t150,A61,H⟩ := bindA H
       by_cases c62 : t150 = true
       ·subst c62
        rw [if_pos rfl] at H
        have c63b0 := eq_true (of_decide_eq_true (by first|(with_reducible assumption)|assumption) : 0 ≤ a1)
        have c64b0 := eq_true (of_decide_eq_true (by first|(with_reducible assumption)|assumption) : a1 ≤ (wrap64 (a1 + 1)))
        have c65b0 := eq_true (of_decide_eq_true (by first|(with_reducible assumption)|assumption) : (wrap64 (a1 + 1)) ≤ (a0.size : Int))
        simp only [Option.some.injEq,Prod.mk.injEq] at H
        obtain ⟨rfl,rfl,rfl,rfl⟩ := H
        go_enter Tryd.func45,Tryd.ntmps45
        go_wp2_with (first|((with_reducible refine gate_dst (N := 4) rfl ?_);refine box_event ?hg (N := 4) ?hd (cs := #[.int .i64 0,.string (⟨#[]⟩ : ByteArray),.int .i64 0]) (t := 47) ?hr ?_;(case hd => rfl);(case hg => rfl);(case hr => first|(go_simp;done)|(go_simp;rfl));intro gb138 hg w66 hbox hb;have q_ := qB (by repeat (first|(with_reducible first|exact HB.out|apply bA|apply bN|apply bD)|exact HB.out)) hb;have n0_ := mk0 (below_step q_ hb);have n1_ := mk0 (hbox);have n2_ := mk0 (below_size2 q_ hg);have n3_ := n2_;clear HB;have HB := n0_;have BK138 := n1_;have GW138 := n2_;have GE138 := n3_;clear q_ n0_ n1_ n2_ n3_;clear hb hbox hg;have p5 : 0 ≤ (a1 : Int) := of_decide_eq_true (by first|(with_reducible assumption)|assumption);have q5 : a1 < (a0.size : Int) := of_decide_eq_true (by first|(with_reducible assumption)|assumption);have hx5 := bt_at a0 a1;replace p5 := eq_true p5;replace q5 := eq_true q5)|((with_reducible refine gate_callee (f := 52) rfl ?_);refine goesL_ (some 14) rfl rfl Tryd.func52 (by kernel_rfl) rfl #[.int .u8 (bt a0 a1)] rfl (by (try simp only [List.map_toArray,List.map_cons,List.map_nil]);first|done|rfl) ?_;(with_reducible refine (spec_l2Small.calls (bt a0 a1) false _ A6.out).mono ?_);rintro e w' ⟨rfl,⟨nd,rfl⟩⟩;refine ⟨_,rfl,?_⟩;(try (rw [drewN_self w66];generalize hq_ : World.drewN w66 _ = w66;have n0_ : Aside0 (w66.heap[gb138]? = some (.cells #[.int .i64 0,.string (⟨#[]⟩ : ByteArray),.int .i64 0] 47 (0,0))) := ⟨by rw [← hq_];exact (by exact kX BK138.out)⟩;have n1_ : Aside0 (Below w.heap.size w w66) := ⟨by rw [← hq_];exact (by repeat (first|(with_reducible first|exact HB.out|apply bA|apply bN|apply bD|refine bS ?_ GE138.out)|exact HB.out))⟩;clear BK138 HB hq_;have BK138 := n0_;have HB := n1_;clear n0_ n1_));have p39 : 0 ≤ (a1 : Int) := of_decide_eq_true (by first|(with_reducible assumption)|assumption);have q39 : a1 < (a0.size : Int) := of_decide_eq_true (by first|(with_reducible assumption)|assumption);have hx39 := bt_at a0 a1;replace p39 := eq_true p39;replace q39 := eq_true q39)|((with_reducible refine gate_callee (f := 60) rfl ?_);refine goesL_ (some 55) rfl rfl Tryd.func60 (by kernel_rfl) rfl #[.int .u8 (bt a0 a1)] rfl (by (try simp only [List.map_toArray,List.map_cons,List.map_nil]);first|done|rfl) ?_;(with_reducible refine (spec_l2Digit.calls (bt a0 a1) false _ A40.out).mono ?_);rintro e w' ⟨rfl,⟨nd,rfl⟩⟩;refine ⟨_,rfl,?_⟩;(try (rw [drewN_self w66];generalize hq_ : World.drewN w66 _ = w66;have n0_ : Aside0 (w66.heap[gb138]? = some (.cells #[.int .i64 0,.string (⟨#[]⟩ : ByteArray),.int .i64 0] 47 (0,0))) := ⟨by rw [← hq_];exact (by exact kX BK138.out)⟩;have n1_ : Aside0 (Below w.heap.size w w66) := ⟨by rw [← hq_];exact (by repeat (first|(with_reducible first|exact HB.out|apply bA|apply bN|apply bD|refine bS ?_ GE138.out)|exact HB.out))⟩;clear BK138 HB hq_;have BK138 := n0_;have HB := n1_;clear n0_ n1_)))|((with_reducible refine gate_dst (N := 87) rfl ?_);refine Kd.R_lit Kd.string _ 9 ?hg (N := 87) ?hd (xs := ([(⟨#[59]⟩ : ByteArray),(⟨#[61]⟩ : ByteArray),(⟨#[91]⟩ : ByteArray),(⟨#[93]⟩ : ByteArray),(⟨#[40]⟩ : ByteArray),(⟨#[41]⟩ : ByteArray),(⟨#[123]⟩ : ByteArray),(⟨#[125]⟩ : ByteArray),(⟨#[43]⟩ : ByteArray),(⟨#[45]⟩ : ByteArray),(⟨#[42]⟩ : ByteArray),(⟨#[44]⟩ : ByteArray)] : List ByteArray)) (inner := [.string (⟨#[59]⟩ : ByteArray),.string (⟨#[61]⟩ : ByteArray),.string (⟨#[91]⟩ : ByteArray),.string (⟨#[93]⟩ : ByteArray),.string (⟨#[40]⟩ : ByteArray),.string (⟨#[41]⟩ : ByteArray),.string (⟨#[123]⟩ : ByteArray),.string (⟨#[125]⟩ : ByteArray),.string (⟨#[43]⟩ : ByteArray),.string (⟨#[45]⟩ : ByteArray),.string (⟨#[42]⟩ : ByteArray),.string (⟨#[44]⟩ : ByteArray)]) (ok := fun _ => True) (okp := fun _ => True) ?hr ?hp (fun _ hk => hk) trivial (Below.refl _ _) (Nat.le_refl _) (by simp) ?_;(case hd => rfl);(case hg => rfl);(case hr => first|(go_simp;done)|(go_simp;rfl));(case hp => exact (Reps.one (show Kd.M Kd.string _ _ _ (⟨#[59]⟩ : ByteArray) [.string (⟨#[59]⟩ : ByteArray)] from rfl) (Reps.one (show Kd.M Kd.string _ _ _ (⟨#[61]⟩ : ByteArray) [.string (⟨#[61]⟩ : ByteArray)] from rfl) (Reps.one (show Kd.M Kd.string _ _ _ (⟨#[91]⟩ : ByteArray) [.string (⟨#[91]⟩ : ByteArray)] from rfl) (Reps.one (show Kd.M Kd.string _ _ _ (⟨#[93]⟩ : ByteArray) [.string (⟨#[93]⟩ : ByteArray)] from rfl) (Reps.one (show Kd.M Kd.string _ _ _ (⟨#[40]⟩ : ByteArray) [.string (⟨#[40]⟩ : ByteArray)] from rfl) (Reps.one (show Kd.M Kd.string _ _ _ (⟨#[41]⟩ : ByteArray) [.string (⟨#[41]⟩ : ByteArray)] from rfl) (Reps.one (show Kd.M Kd.string _ _ _ (⟨#[123]⟩ : ByteArray) [.string (⟨#[123]⟩ : ByteArray)] from rfl) (Reps.one (show Kd.M Kd.string _ _ _ (⟨#[125]⟩ : ByteArray) [.string (⟨#[125]⟩ : ByteArray)] from rfl) (Reps.one (show Kd.M Kd.string _ _ _ (⟨#[43]⟩ : ByteArray) [.string (⟨#[43]⟩ : ByteArray)] from rfl) (Reps.one (show Kd.M Kd.string _ _ _ (⟨#[45]⟩ : ByteArray) [.string (⟨#[45]⟩ : ByteArray)] from rfl) (Reps.one (show Kd.M Kd.string _ _ _ (⟨#[42]⟩ : ByteArray) [.string (⟨#[42]⟩ : ByteArray)] from rfl) (Reps.one (show Kd.M Kd.string _ _ _ (⟨#[44]⟩ : ByteArray) [.string (⟨#[44]⟩ : ByteArray)] from rfl) (Reps.none _ _))))))))))))));intro v148 w67 ho68 hb hg_ hnew_;clear hg_ hnew_;(first|rw [← Ny147.out] at ho68|(simp only [Int.reduceToNat] at ho68;rw [← Ny147.out] at ho68));have q_ := qB (by repeat (first|(with_reducible first|exact HB.out|apply bA|apply bN|apply bD|refine bS ?_ GE138.out)|exact HB.out)) hb;have n0_ := mk0 (Kd.R_lower ho68 (below_size q_));have n1_ := mk0 (blk_below (by exact kX BK138.out) hb);have n2_ := mk0 (below_step q_ hb);clear BK138;clear HB;have HO149 := n0_;have BK138 := n1_;have HB := n2_;clear q_ n0_ n1_ n2_;clear hb ho68;obtain ⟨Ao69,co69,eo69⟩ := Kd.R_slice HO149.out;subst eo69)|((with_reducible refine gate_callee (f := 61) rfl ?_);refine goesL_ (some 93) rfl rfl Tryd.func61 (by kernel_rfl) rfl #[.slice Ao69 y147.length co69,.string (a0.extract (a1 : Int).toNat ((wrap64 (a1 + 1)) : Int).toNat)] rfl (by (try simp only [List.map_toArray,List.map_cons,List.map_nil]);first|done|rfl) ?_;(with_reducible refine (spec_l2Has.calls k _ _ y147 (a0.extract (a1 : Int).toNat ((wrap64 (a1 + 1)) : Int).toNat) true _ ?side1 ?side2 A61.out).mono ?_);(case side1 => repeat (first|exact (Kd.R_reads' HO149.out).2.2|(with_reducible refine cA ?_ _)|(with_reducible refine cN ?_ _)|(with_reducible refine cD ?_)));(case side2 => exact (Kd.R_reads' HO149.out).2.1);rintro e w' ⟨rfl,⟨nd,rfl⟩⟩;refine ⟨_,rfl,?_⟩;(try (rw [drewN_self w67];generalize hq_ : World.drewN w67 _ = w67;have n0_ : Aside0 (Kd.R Kd.string 9 w67 w.heap.size (fun _ => True) (.slice Ao69 y147.length co69) y147) := ⟨by rw [← hq_];exact (by exact rX HO149.out)⟩;have n1_ : Aside0 (w67.heap[gb138]? = some (.cells #[.int .i64 0,.string (⟨#[]⟩ : ByteArray),.int .i64 0] 47 (0,0))) := ⟨by rw [← hq_];exact (by exact kX BK138.out)⟩;have n2_ : Aside0 (Below w.heap.size w w67) := ⟨by rw [← hq_];exact (by repeat (first|(with_reducible first|exact HB.out|apply bA|apply bN|apply bD|refine bS ?_ GE138.out)|exact HB.out))⟩;clear HO149 BK138 HB hq_;have HO149 := n0_;have BK138 := n1_;have HB := n2_;clear n0_ n1_ n2_));have z70 := bc3 BK138.out))
        refine bodyPost_ret (results_ct rfl _ _ gb138 47 #[.int .i64 4,.string (a0.extract (a1 : Int).toNat ((wrap64 (a1 + 1)) : Int).toNat),.int .i64 0] (0,0) _ rfl (by refine kX ?_;refine blk_put (cs := #[.int .i64 4,.string (a0.extract (a1 : Int).toNat ((wrap64 (a1 + 1)) : Int).toNat),.int .i64 0]) ?_ 2 _ rfl;refine kX ?_;refine blk_put (cs := #[.int .i64 4,.string (⟨#[]⟩ : ByteArray),.int .i64 0]) ?_ 1 _ rfl;refine kX ?_;refine blk_put (cs := #[.int .i64 0,.string (⟨#[]⟩ : ByteArray),.int .i64 0]) ?_ 0 _ rfl;exact kX BK138.out) Tryd.underlying47 rfl (by kernel_rfl)) rfl ?_
        exact ⟨by first|rfl|(simp [errW_none,errW_some] <;> rfl)|(simp [*,errW_none,errW_some] <;> rfl),by repeat (first|(with_reducible first|exact HB.out|apply bA|apply bN|apply bD|refine bS ?_ GE138.out)|exact HB.out)⟩
       ·replace c62 := Bool.eq_false_iff.mpr c62
        subst c62
        rw [if_neg (show ¬ (false = true) by decide)] at H
        simp only [Option.some.injEq,Prod.mk.injEq] at H
        obtain ⟨rfl,rfl,rfl,rfl⟩ := H
        go_enter Tryd.func45,Tryd.ntmps45
        go_wp2_with (first|((with_reducible refine gate_dst (N := 4) rfl ?_);refine box_event ?hg (N := 4) ?hd (cs := #[.int .i64 0,.string (⟨#[]⟩ : ByteArray),.int .i64 0]) (t := 47) ?hr ?_;(case hd => rfl);(case hg => rfl);(case hr => first|(go_simp;done)|(go_simp;rfl));intro gb138 hg w71 hbox hb;have q_ := qB (by repeat (first|(with_reducible first|exact HB.out|apply bA|apply bN|apply bD)|exact HB.out)) hb;have n0_ := mk0 (below_step q_ hb);have n1_ := mk0 (hbox);have n2_ := mk0 (below_size2 q_ hg);have n3_ := n2_;clear HB;have HB := n0_;have BK138 := n1_;have GW138 := n2_;have GE138 := n3_;clear q_ n0_ n1_ n2_ n3_;clear hb hbox hg;have p5 : 0 ≤ (a1 : Int) := of_decide_eq_true (by first|(with_reducible assumption)|assumption);have q5 : a1 < (a0.size : Int) := of_decide_eq_true (by first|(with_reducible assumption)|assumption);have hx5 := bt_at a0 a1;replace p5 := eq_true p5;replace q5 := eq_true q5)|((with_reducible refine gate_callee (f := 52) rfl ?_);refine goesL_ (some 14) rfl rfl Tryd.func52 (by kernel_rfl) rfl #[.int .u8 (bt a0 a1)] rfl (by (try simp only [List.map_toArray,List.map_cons,List.map_nil]);first|done|rfl) ?_;(with_reducible refine (spec_l2Small.calls (bt a0 a1) false _ A6.out).mono ?_);rintro e w' ⟨rfl,⟨nd,rfl⟩⟩;refine ⟨_,rfl,?_⟩;(try (rw [drewN_self w71];generalize hq_ : World.drewN w71 _ = w71;have n0_ : Aside0 (w71.heap[gb138]? = some (.cells #[.int .i64 0,.string (⟨#[]⟩ : ByteArray),.int .i64 0] 47 (0,0))) := ⟨by rw [← hq_];exact (by exact kX BK138.out)⟩;have n1_ : Aside0 (Below w.heap.size w w71) := ⟨by rw [← hq_];exact (by repeat (first|(with_reducible first|exact HB.out|apply bA|apply bN|apply bD|refine bS ?_ GE138.out)|exact HB.out))⟩;clear BK138 HB hq_;have BK138 := n0_;have HB := n1_;clear n0_ n1_));have p39 : 0 ≤ (a1 : Int) := of_decide_eq_true (by first|(with_reducible assumption)|assumption);have q39 : a1 < (a0.size : Int) := of_decide_eq_true (by first|(with_reducible assumption)|assumption);have hx39 := bt_at a0 a1;replace p39 := eq_true p39;replace q39 := eq_true q39)|((with_reducible refine gate_callee (f := 60) rfl ?_);refine goesL_ (some 55) rfl rfl Tryd.func60 (by kernel_rfl) rfl #[.int .u8 (bt a0 a1)] rfl (by (try simp only [List.map_toArray,List.map_cons,List.map_nil]);first|done|rfl) ?_;(with_reducible refine (spec_l2Digit.calls (bt a0 a1) false _ A40.out).mono ?_);rintro e w' ⟨rfl,⟨nd,rfl⟩⟩;refine ⟨_,rfl,?_⟩;(try (rw [drewN_self w71];generalize hq_ : World.drewN w71 _ = w71;have n0_ : Aside0 (w71.heap[gb138]? = some (.cells #[.int .i64 0,.string (⟨#[]⟩ : ByteArray),.int .i64 0] 47 (0,0))) := ⟨by rw [← hq_];exact (by exact kX BK138.out)⟩;have n1_ : Aside0 (Below w.heap.size w w71) := ⟨by rw [← hq_];exact (by repeat (first|(with_reducible first|exact HB.out|apply bA|apply bN|apply bD|refine bS ?_ GE138.out)|exact HB.out))⟩;clear BK138 HB hq_;have BK138 := n0_;have HB := n1_;clear n0_ n1_)))|((with_reducible refine gate_dst (N := 87) rfl ?_);refine Kd.R_lit Kd.string _ 9 ?hg (N := 87) ?hd (xs := ([(⟨#[59]⟩ : ByteArray),(⟨#[61]⟩ : ByteArray),(⟨#[91]⟩ : ByteArray),(⟨#[93]⟩ : ByteArray),(⟨#[40]⟩ : ByteArray),(⟨#[41]⟩ : ByteArray),(⟨#[123]⟩ : ByteArray),(⟨#[125]⟩ : ByteArray),(⟨#[43]⟩ : ByteArray),(⟨#[45]⟩ : ByteArray),(⟨#[42]⟩ : ByteArray),(⟨#[44]⟩ : ByteArray)] : List ByteArray)) (inner := [.string (⟨#[59]⟩ : ByteArray),.string (⟨#[61]⟩ : ByteArray),.string (⟨#[91]⟩ : ByteArray),.string (⟨#[93]⟩ : ByteArray),.string (⟨#[40]⟩ : ByteArray),.string (⟨#[41]⟩ : ByteArray),.string (⟨#[123]⟩ : ByteArray),.string (⟨#[125]⟩ : ByteArray),.string (⟨#[43]⟩ : ByteArray),.string (⟨#[45]⟩ : ByteArray),.string (⟨#[42]⟩ : ByteArray),.string (⟨#[44]⟩ : ByteArray)]) (ok := fun _ => True) (okp := fun _ => True) ?hr ?hp (fun _ hk => hk) trivial (Below.refl _ _) (Nat.le_refl _) (by simp) ?_;(case hd => rfl);(case hg => rfl);(case hr => first|(go_simp;done)|(go_simp;rfl));(case hp => exact (Reps.one (show Kd.M Kd.string _ _ _ (⟨#[59]⟩ : ByteArray) [.string (⟨#[59]⟩ : ByteArray)] from rfl) (Reps.one (show Kd.M Kd.string _ _ _ (⟨#[61]⟩ : ByteArray) [.string (⟨#[61]⟩ : ByteArray)] from rfl) (Reps.one (show Kd.M Kd.string _ _ _ (⟨#[91]⟩ : ByteArray) [.string (⟨#[91]⟩ : ByteArray)] from rfl) (Reps.one (show Kd.M Kd.string _ _ _ (⟨#[93]⟩ : ByteArray) [.string (⟨#[93]⟩ : ByteArray)] from rfl) (Reps.one (show Kd.M Kd.string _ _ _ (⟨#[40]⟩ : ByteArray) [.string (⟨#[40]⟩ : ByteArray)] from rfl) (Reps.one (show Kd.M Kd.string _ _ _ (⟨#[41]⟩ : ByteArray) [.string (⟨#[41]⟩ : ByteArray)] from rfl) (Reps.one (show Kd.M Kd.string _ _ _ (⟨#[123]⟩ : ByteArray) [.string (⟨#[123]⟩ : ByteArray)] from rfl) (Reps.one (show Kd.M Kd.string _ _ _ (⟨#[125]⟩ : ByteArray) [.string (⟨#[125]⟩ : ByteArray)] from rfl) (Reps.one (show Kd.M Kd.string _ _ _ (⟨#[43]⟩ : ByteArray) [.string (⟨#[43]⟩ : ByteArray)] from rfl) (Reps.one (show Kd.M Kd.string _ _ _ (⟨#[45]⟩ : ByteArray) [.string (⟨#[45]⟩ : ByteArray)] from rfl) (Reps.one (show Kd.M Kd.string _ _ _ (⟨#[42]⟩ : ByteArray) [.string (⟨#[42]⟩ : ByteArray)] from rfl) (Reps.one (show Kd.M Kd.string _ _ _ (⟨#[44]⟩ : ByteArray) [.string (⟨#[44]⟩ : ByteArray)] from rfl) (Reps.none _ _))))))))))))));intro v148 w72 ho73 hb hg_ hnew_;clear hg_ hnew_;(first|rw [← Ny147.out] at ho73|(simp only [Int.reduceToNat] at ho73;rw [← Ny147.out] at ho73));have q_ := qB (by repeat (first|(with_reducible first|exact HB.out|apply bA|apply bN|apply bD|refine bS ?_ GE138.out)|exact HB.out)) hb;have n0_ := mk0 (Kd.R_lower ho73 (below_size q_));have n1_ := mk0 (blk_below (by exact kX BK138.out) hb);have n2_ := mk0 (below_step q_ hb);clear BK138;clear HB;have HO149 := n0_;have BK138 := n1_;have HB := n2_;clear q_ n0_ n1_ n2_;clear hb ho73;obtain ⟨Ao74,co74,eo74⟩ := Kd.R_slice HO149.out;subst eo74)|((with_reducible refine gate_callee (f := 61) rfl ?_);refine goesL_ (some 93) rfl rfl Tryd.func61 (by kernel_rfl) rfl #[.slice Ao74 y147.length co74,.string (a0.extract (a1 : Int).toNat ((wrap64 (a1 + 1)) : Int).toNat)] rfl (by (try simp only [List.map_toArray,List.map_cons,List.map_nil]);first|done|rfl) ?_;(with_reducible refine (spec_l2Has.calls k _ _ y147 (a0.extract (a1 : Int).toNat ((wrap64 (a1 + 1)) : Int).toNat) false _ ?side1 ?side2 A61.out).mono ?_);(case side1 => repeat (first|exact (Kd.R_reads' HO149.out).2.2|(with_reducible refine cA ?_ _)|(with_reducible refine cN ?_ _)|(with_reducible refine cD ?_)));(case side2 => exact (Kd.R_reads' HO149.out).2.1);rintro e w' ⟨rfl,⟨nd,rfl⟩⟩;refine ⟨_,rfl,?_⟩;(try (rw [drewN_self w72];generalize hq_ : World.drewN w72 _ = w72;have n0_ : Aside0 (Kd.R Kd.string 9 w72 w.heap.size (fun _ => True) (.slice Ao74 y147.length co74) y147) := ⟨by rw [← hq_];exact (by exact rX HO149.out)⟩;have n1_ : Aside0 (w72.heap[gb138]? = some (.cells #[.int .i64 0,.string (⟨#[]⟩ : ByteArray),.int .i64 0] 47 (0,0))) := ⟨by rw [← hq_];exact (by exact kX BK138.out)⟩;have n2_ : Aside0 (Below w.heap.size w w72) := ⟨by rw [← hq_];exact (by repeat (first|(with_reducible first|exact HB.out|apply bA|apply bN|apply bD|refine bS ?_ GE138.out)|exact HB.out))⟩;clear HO149 BK138 HB hq_;have HO149 := n0_;have BK138 := n1_;have HB := n2_;clear n0_ n1_ n2_));have z75 := bc3 BK138.out))
        refine bodyPost_ret (results_ct rfl _ _ gb138 47 #[.int .i64 0,.string (⟨#[]⟩ : ByteArray),.int .i64 0] (0,0) _ rfl (by refine kX ?_;refine blk_put (cs := #[.int .i64 0,.string (⟨#[]⟩ : ByteArray),.int .i64 0]) ?_ 2 _ rfl;refine kX ?_;refine blk_put (cs := #[.int .i64 0,.string (⟨#[]⟩ : ByteArray),.int .i64 0]) ?_ 1 _ rfl;refine kX ?_;refine blk_put (cs := #[.int .i64 0,.string (⟨#[]⟩ : ByteArray),.int .i64 0]) ?_ 0 _ rfl;exact kX BK138.out) Tryd.underlying47 rfl (by kernel_rfl)) rfl ?_
        exact ⟨by first|rfl|(simp [errW_none,errW_some] <;> rfl)|(simp [*,errW_none,errW_some] <;> rfl),by repeat (first|(with_reducible first|exact HB.out|apply bA|apply bN|apply bD|refine bS ?_ GE138.out)|exact HB.out)⟩
      ·rw [if_neg c60] at H
       exact absurd H (by simp)
     ·rw [if_neg c59] at H
      exact absurd H (by simp)
  ·rw [if_neg c4] at H
   exact absurd H (by simp)
 ·rw [if_neg c3] at H
  exact absurd H (by simp)
end Go.Proofs.YtpencchkfbekdaaDoor.PFnLex
