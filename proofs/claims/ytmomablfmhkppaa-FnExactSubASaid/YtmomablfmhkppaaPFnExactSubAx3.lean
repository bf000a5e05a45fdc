-- The functions of a law as plain Lean functions, each with its contract: written by a program of this session.
import Derived.Test.YtmomablfmhkppaaPFnExactSubAx0
import Derived.Test.YtmomablfmhkppaaPFnExactSubAx2
namespace Go.Proofs.Ytmomablfmhkppaa.PFnExactSubA
open Go.RowKit Go.Proofs.YtmomablfmhkppaaW.PrintWords Go.Proofs.YtmomablfmhkppaaW.PrintLast Go.Proofs.YtmomablfmhkppaaW.PrintMore
attribute [local go_sem] max2_int min2_int max_two min_two max_three min_three max_four min_four   -- for this text's walks alone
set_option linter.unusedVariables false
set_option linter.unusedSimpArgs false

/-! ### spec_l2Kept: function 85 -/
def spec_l2Kept.f (k : Nat) (a0 : ByteArray) : Option (Bool) := (spec_l2Has.f k (([(⟨#[97, 114, 114, 97, 121]⟩ : ByteArray), (⟨#[102, 111, 114]⟩ : ByteArray), (⟨#[116, 111]⟩ : ByteArray), (⟨#[112, 114, 105, 110, 116]⟩ : ByteArray), (⟨#[109, 105, 110]⟩ : ByteArray), (⟨#[109, 97, 120]⟩ : ByteArray)] : List ByteArray)) a0).bind fun t149 => (some t149)
theorem spec_l2Kept.mono : ∀ a0 k, LeO (spec_l2Kept.f k a0) (spec_l2Kept.f (k + 1) a0) := by
 intro a0 k
 unfold spec_l2Kept.f
 repeat' first
   | (with_reducible exact spec_l2Has.mono _ _ _)
   | (with_reducible exact LeO.refl _)
   | (with_reducible exact LeO.none _)
   | (with_reducible refine LeO.ite ?_ ?_)
   | (with_reducible refine LeO.bind ?_ (fun _ => ?_))
   | exact spec_l2Has.mono _ _ _
   | exact LeO.none _
   | refine LeO.ite ?_ ?_
   | refine LeO.bind ?_ (fun _ => ?_)
set_option maxHeartbeats 8000000 in
set_option maxRecDepth 100000 in
theorem spec_l2Kept.calls (k : Nat) (a0 : ByteArray) (r : Bool) (w : World) (h : spec_l2Kept.f k a0 = some r) :
  Calls Try.prog 85 #[.string a0] w fun e w' => e = .returned (.bool r) ∧ Below w.heap.size w w' := by
 have HB := mk0 (Below.refl w.heap.size w)
 have H : ((spec_l2Has.f k (([(⟨#[97,114,114,97,121]⟩ : ByteArray),(⟨#[102,111,114]⟩ : ByteArray),(⟨#[116,111]⟩ : ByteArray),(⟨#[112,114,105,110,116]⟩ : ByteArray),(⟨#[109,105,110]⟩ : ByteArray),(⟨#[109,97,120]⟩ : ByteArray)] : List ByteArray)) a0).bind fun t149 => (some t149)) = some r := h
 clear h
 obtain ⟨y146,hy146⟩ : ∃ y_ : List ByteArray,y_ = (([(⟨#[97,114,114,97,121]⟩ : ByteArray),(⟨#[102,111,114]⟩ : ByteArray),(⟨#[116,111]⟩ : ByteArray),(⟨#[112,114,105,110,116]⟩ : ByteArray),(⟨#[109,105,110]⟩ : ByteArray),(⟨#[109,97,120]⟩ : ByteArray)] : List ByteArray)) := ⟨_,rfl⟩
 replace H : ((spec_l2Has.f k y146 a0).bind fun t149 => (some t149)) = some r := by first|(rw [hy146];with_reducible exact H)|(have H2_ := (Option.bind_some _ _).symm.trans H;rw [hy146];with_reducible exact H2_)|(have H2_ := (Option.bind_some _ _).symm.trans H;with_reducible exact H2_)|with_reducible exact H|(rw [hy146];exact H)|exact H
 have Ny146 := mk0 hy146
 clear hy146
 obtain ⟨t149,A2,H⟩ := bindA H
 obtain rfl := Option.some.inj H
 go_enter Try.func85,Try.ntmps85
 go_wp2_with (first|((with_reducible refine gate_dst (N := 3) rfl ?_);refine Kd.R_lit Kd.string _ 9 ?hg (N := 3) ?hd (xs := ([(⟨#[97,114,114,97,121]⟩ : ByteArray),(⟨#[102,111,114]⟩ : ByteArray),(⟨#[116,111]⟩ : ByteArray),(⟨#[112,114,105,110,116]⟩ : ByteArray),(⟨#[109,105,110]⟩ : ByteArray),(⟨#[109,97,120]⟩ : ByteArray)] : List ByteArray)) (inner := [.string (⟨#[97,114,114,97,121]⟩ : ByteArray),.string (⟨#[102,111,114]⟩ : ByteArray),.string (⟨#[116,111]⟩ : ByteArray),.string (⟨#[112,114,105,110,116]⟩ : ByteArray),.string (⟨#[109,105,110]⟩ : ByteArray),.string (⟨#[109,97,120]⟩ : ByteArray)]) (ok := fun _ => True) (okp := fun _ => True) ?hr ?hp (fun _ hk => hk) trivial (Below.refl _ _) (Nat.le_refl _) (by simp) ?_;(case hd => rfl);(case hg => rfl);(case hr => first|(go_simp;done)|(go_simp;rfl));(case hp => exact (Reps.one (show Kd.M Kd.string _ _ _ (⟨#[97,114,114,97,121]⟩ : ByteArray) [.string (⟨#[97,114,114,97,121]⟩ : ByteArray)] from rfl) (Reps.one (show Kd.M Kd.string _ _ _ (⟨#[102,111,114]⟩ : ByteArray) [.string (⟨#[102,111,114]⟩ : ByteArray)] from rfl) (Reps.one (show Kd.M Kd.string _ _ _ (⟨#[116,111]⟩ : ByteArray) [.string (⟨#[116,111]⟩ : ByteArray)] from rfl) (Reps.one (show Kd.M Kd.string _ _ _ (⟨#[112,114,105,110,116]⟩ : ByteArray) [.string (⟨#[112,114,105,110,116]⟩ : ByteArray)] from rfl) (Reps.one (show Kd.M Kd.string _ _ _ (⟨#[109,105,110]⟩ : ByteArray) [.string (⟨#[109,105,110]⟩ : ByteArray)] from rfl) (Reps.one (show Kd.M Kd.string _ _ _ (⟨#[109,97,120]⟩ : ByteArray) [.string (⟨#[109,97,120]⟩ : ByteArray)] from rfl) (Reps.none _ _))))))));intro v147 w3 ho4 hb hg_ hnew_;clear hg_ hnew_;(first|rw [← Ny146.out] at ho4|(simp only [Int.reduceToNat] at ho4;rw [← Ny146.out] at ho4));have q_ := qB (by repeat (first|(with_reducible first|exact HB.out|apply bA|apply bN|apply bD)|exact HB.out)) hb;have n0_ := mk0 (Kd.R_lower ho4 (below_size q_));have n1_ := mk0 (below_step q_ hb);clear HB;have HO148 := n0_;have HB := n1_;clear q_ n0_ n1_;clear hb ho4;obtain ⟨Ao5,co5,eo5⟩ := Kd.R_slice HO148.out;subst eo5)|((with_reducible refine gate_callee (f := 99) rfl ?_);refine goesL_ (some 5) rfl rfl Try.func99 (by kernel_rfl) rfl #[.slice Ao5 y146.length co5,.string a0] rfl (by (try simp only [List.map_toArray,List.map_cons,List.map_nil]);first|done|rfl) ?_;(with_reducible refine (spec_l2Has.calls k _ _ y146 a0 t149 _ ?side1 ?side2 A2.out).mono ?_);(case side1 => repeat (first|exact (Kd.R_reads' HO148.out).2.2|(with_reducible refine cA ?_ _)|(with_reducible refine cN ?_ _)|(with_reducible refine cD ?_)));(case side2 => exact (Kd.R_reads' HO148.out).2.1);rintro e w' ⟨rfl,⟨nd,rfl⟩⟩;refine ⟨_,rfl,?_⟩))
 go_ret
 exact ⟨by first|rfl|(simp [errW_none,errW_some] <;> rfl)|(simp [*,errW_none,errW_some] <;> rfl),by repeat (first|(with_reducible first|exact HB.out|apply bA|apply bN|apply bD)|exact HB.out)⟩

/-! ### spec_NameOk: function 52 -/
def spec_NameOk.l0 : Nat → ByteArray → Int → Option (Bool)
 |0,_,_ => none
 |k + 1,x0,x3 => if x3 < (x0.size : Int) then (if 0 ≤ x3 then ((spec_l2Small.f (bt x0 x3)).bind fun t150 => (if t150 = true then (spec_NameOk.l0 k x0 (wrap64 (x3 + 1))) else (some false))) else (none)) else ((spec_l1In.f (x0.size : Int) 1 6).bind fun t151 => (if t151 = true then ((spec_l2Kept.f k x0).bind fun t152 => (some (!t152))) else (some false)))
def spec_NameOk.f (k : Nat) (a0 : ByteArray) : Option (Bool) := spec_NameOk.l0 k a0 0
theorem spec_NameOk.mono_l : ∀ k, (∀ y0 y1, LeO (spec_NameOk.l0 k y0 y1) (spec_NameOk.l0 (k + 1) y0 y1))
 | 0 => fun _ _ r h => by simp [spec_NameOk.l0] at h
 | k + 1 => by
  have ih0 := spec_NameOk.mono_l k
  ·intro y0 y1
   unfold spec_NameOk.l0
   repeat' first
   | (with_reducible exact ih0 _ _)
   | (with_reducible exact spec_l2Kept.mono _ _)
   | (with_reducible exact LeO.refl _)
   | (with_reducible exact LeO.none _)
   | (with_reducible refine LeO.ite ?_ ?_)
   | (with_reducible refine LeO.bind ?_ (fun _ => ?_))
   | exact ih0 _ _
   | exact spec_l2Kept.mono _ _
   | exact LeO.none _
   | refine LeO.ite ?_ ?_
   | refine LeO.bind ?_ (fun _ => ?_)
theorem spec_NameOk.mono : ∀ a0 k, LeO (spec_NameOk.f k a0) (spec_NameOk.f (k + 1) a0) := by
 intro a0 k
 have ih0 := spec_NameOk.mono_l k
 unfold spec_NameOk.f
 repeat' first
   | (with_reducible exact ih0 _ _)
   | (with_reducible exact spec_l2Kept.mono _ _)
   | (with_reducible exact LeO.refl _)
   | (with_reducible exact LeO.none _)
   | (with_reducible refine LeO.ite ?_ ?_)
   | (with_reducible refine LeO.bind ?_ (fun _ => ?_))
   | exact ih0 _ _
   | exact spec_l2Kept.mono _ _
   | exact LeO.none _
   | refine LeO.ite ?_ ?_
   | refine LeO.bind ?_ (fun _ => ?_)
set_option maxHeartbeats 8000000 in
set_option maxRecDepth 100000 in
theorem spec_NameOk.calls (k : Nat) (a0 : ByteArray) (r : Bool) (w : World) (h : spec_NameOk.f k a0 = some r) :
  Calls Try.prog 52 #[.string a0] w fun e w' => e = .returned (.bool r) ∧ Below w.heap.size w w' := by
 have HB := mk0 (Below.refl w.heap.size w)
 have H : (spec_NameOk.l0 k a0 0) = some r := h
 clear h
 have H' := mk0 H
 clear H
 go_enter Try.func52,Try.ntmps52
 go_wp2
 go_loopg [3] k (fun kq v3 w' => ∃ (x3_1 : Int),v3 = .int .i64 x3_1 ∧ Aside0 (spec_NameOk.l0 kq a0 x3_1 = some r) ∧ Aside0 (kq ≤ k) ∧ Aside0 (Below w.heap.size w w'))
 case atStart => exact ⟨(0),(by first|rfl|(simp;done)|(simp [*];done)),H',⟨Nat.le_refl _⟩,⟨by repeat (first|(with_reducible first|exact HB.out|apply bA|apply bN|apply bD)|exact HB.out)⟩⟩
 case round =>
  clear H'
  obtain ⟨x3_1,rfl,HA,HK1,HB⟩ := hrel
  cases gk with
   |zero => exact absurd HA.out (by simp [spec_NameOk.l0])
   |succ k1 =>
   have H := HA.out
   clear HA
   simp only [spec_NameOk.l0] at H
   by_cases c2 : x3_1 < (a0.size : Int)
   ·rw [if_pos c2] at H
    have c2b0 : decide (x3_1 < (a0.size : Int)) = true := decide_eq_true c2
    clear c2
    by_cases c3 : 0 ≤ x3_1
    ·rw [if_pos c3] at H
     have c3b0 : decide (0 ≤ x3_1) = true := decide_eq_true c3
     clear c3
     obtain ⟨t150,A5,H⟩ := bindA H
     by_cases c6 : t150 = true
     ·subst c6
      rw [if_pos rfl] at H
      have H' := mk0 H
      clear H
      have p4 : 0 ≤ (x3_1 : Int) := of_decide_eq_true (by first|(with_reducible assumption)|assumption)
      have q4 : x3_1 < (a0.size : Int) := of_decide_eq_true (by first|(with_reducible assumption)|assumption)
      have hx4 := bt_at a0 x3_1
      replace p4 := eq_true p4
      replace q4 := eq_true q4
      go_wp2_with (first|((with_reducible refine gate_callee (f := 84) rfl ?_);refine goesL_ (some 13) rfl rfl Try.func84 (by kernel_rfl) rfl #[.int .u8 (bt a0 x3_1)] rfl (by (try simp only [List.map_toArray,List.map_cons,List.map_nil]);first|done|rfl) ?_;(with_reducible refine (spec_l2Small.calls (bt a0 x3_1) true _ A5.out).mono ?_);rintro e w' ⟨rfl,⟨nd,rfl⟩⟩;refine ⟨_,rfl,?_⟩))
      go_roundg k1
      case measure => have := HK1.out;omega
      case rel => exact ⟨(wrap64 (x3_1 + 1)),(by first|rfl|(simp;done)|(simp [*];done)),H',⟨by have := HK1.out;omega⟩,⟨by repeat (first|(with_reducible first|exact HB.out|apply bA|apply bN|apply bD)|exact HB.out)⟩⟩
     ·replace c6 := Bool.eq_false_iff.mpr c6
      subst c6
      rw [if_neg (show ¬ (false = true) by decide)] at H
      obtain rfl := Option.some.inj H
      have p4 : 0 ≤ (x3_1 : Int) := of_decide_eq_true (by first|(with_reducible assumption)|assumption)
      have q4 : x3_1 < (a0.size : Int) := of_decide_eq_true (by first|(with_reducible assumption)|assumption)
      have hx4 := bt_at a0 x3_1
      replace p4 := eq_true p4
      replace q4 := eq_true q4
      go_wp2_with (first|((with_reducible refine gate_callee (f := 84) rfl ?_);refine goesL_ (some 13) rfl rfl Try.func84 (by kernel_rfl) rfl #[.int .u8 (bt a0 x3_1)] rfl (by (try simp only [List.map_toArray,List.map_cons,List.map_nil]);first|done|rfl) ?_;(with_reducible refine (spec_l2Small.calls (bt a0 x3_1) false _ A5.out).mono ?_);rintro e w' ⟨rfl,⟨nd,rfl⟩⟩;refine ⟨_,rfl,?_⟩))
      go_ret
      exact ⟨by first|rfl|(simp [errW_none,errW_some] <;> rfl)|(simp [*,errW_none,errW_some] <;> rfl),by repeat (first|(with_reducible first|exact HB.out|apply bA|apply bN|apply bD)|exact HB.out)⟩
    ·rw [if_neg c3] at H
     exact absurd H (by simp)
   ·rw [if_neg c2] at H
    have c2b0 : decide (x3_1 < (a0.size : Int)) = false := decide_eq_false c2
    clear c2
    obtain ⟨t151,A7,H⟩ := bindA H
    by_cases c8 : t151 = true
    ·subst c8
     rw [if_pos rfl] at H
     obtain ⟨t152,A9,H⟩ := bindA H
     obtain rfl := Option.some.inj H
     go_wp2_with (first|((with_reducible refine gate_callee (f := 67) rfl ?_);refine goesL_ (some 17) rfl rfl Try.func67 (by kernel_rfl) rfl #[.int .i64 (a0.size : Int),.int .i64 1,.int .i64 6] rfl (by (try simp only [List.map_toArray,List.map_cons,List.map_nil]);first|done|rfl) ?_;(with_reducible refine (spec_l1In.calls (a0.size : Int) 1 6 true _ A7.out).mono ?_);rintro e w' ⟨rfl,⟨nd,rfl⟩⟩;refine ⟨_,rfl,?_⟩)|(go_at_call 85;(with_reducible refine (spec_l2Kept.calls k1 a0 t152 _ A9.out).mono ?_);rintro e w10 ⟨rfl,hb⟩;have n0_ := mk0 (below_step (by repeat (first|(with_reducible first|exact HB.out|apply bA|apply bN|apply bD)|exact HB.out)) hb);clear HB;have HB := n0_;clear n0_;(try clear hb);(try clear hb2);(try clear hk);(try clear hi)))
     go_ret
     exact ⟨by first|rfl|(simp [errW_none,errW_some] <;> rfl)|(simp [*,errW_none,errW_some] <;> rfl),by repeat (first|(with_reducible first|exact HB.out|apply bA|apply bN|apply bD)|exact HB.out)⟩
    ·replace c8 := Bool.eq_false_iff.mpr c8
     subst c8
     rw [if_neg (show ¬ (false = true) by decide)] at H
     obtain rfl := Option.some.inj H
     go_wp2_with (first|((with_reducible refine gate_callee (f := 67) rfl ?_);refine goesL_ (some 17) rfl rfl Try.func67 (by kernel_rfl) rfl #[.int .i64 (a0.size : Int),.int .i64 1,.int .i64 6] rfl (by (try simp only [List.map_toArray,List.map_cons,List.map_nil]);first|done|rfl) ?_;(with_reducible refine (spec_l1In.calls (a0.size : Int) 1 6 false _ A7.out).mono ?_);rintro e w' ⟨rfl,⟨nd,rfl⟩⟩;refine ⟨_,rfl,?_⟩))
     go_ret
     exact ⟨by first|rfl|(simp [errW_none,errW_some] <;> rfl)|(simp [*,errW_none,errW_some] <;> rfl),by repeat (first|(with_reducible first|exact HB.out|apply bA|apply bN|apply bD)|exact HB.out)⟩

/-! ### spec_l8Num: function 53 -/
def spec_l8Num.f (a0 : Int) : Option (Bool) := (spec_l1In.f a0 (-100000) 100000).bind fun t153 => (some t153)
set_option maxHeartbeats 8000000 in
set_option maxRecDepth 100000 in
theorem spec_l8Num.calls (a0 : Int) (r : Bool) (w : World) (h : spec_l8Num.f a0 = some r) :
  Calls Try.prog 53 #[.int .i64 a0] w fun e w' => e = .returned (.bool r) ∧ Drawn0 w w' := by
 have H : ((spec_l1In.f a0 (-100000) 100000).bind fun t153 => (some t153)) = some r := h
 clear h
 obtain ⟨t153,A2,H⟩ := bindA H
 obtain rfl := Option.some.inj H
 go_enter Try.func53,Try.ntmps53
 go_wp2_with (first|((with_reducible refine gate_callee (f := 67) rfl ?_);refine goesL_ (some 4) rfl rfl Try.func67 (by kernel_rfl) rfl #[.int .i64 a0,.int .i64 (-100000),.int .i64 100000] rfl (by (try simp only [List.map_toArray,List.map_cons,List.map_nil]);first|done|rfl) ?_;(with_reducible refine (spec_l1In.calls a0 (-100000) 100000 t153 _ A2.out).mono ?_);rintro e w' ⟨rfl,⟨nd,rfl⟩⟩;refine ⟨_,rfl,?_⟩))
 go_ret
 exact ⟨by first|rfl|(simp;done)|(simp [*];done),by repeat (first|exact Drawn0.refl _|apply Drawn0.step)⟩

def spec_AffOk.l0 : Nat → Int → Int → List (S70) → Option (Bool)
 |0,_,_,_ => none
 |k + 1,x3,x141000,x141001 => if x3 < (x141001.length : Int) then (if 0 ≤ x3 then ((spec_NameOk.f k ((rd_T70 x141001 x3).f0)).bind fun t143 => (if t143 = true then (if ((rd_T70 x141001 x3).f1) = 0 then (some false) else ((spec_l8Num.f ((rd_T70 x141001 x3).f1)).bind fun t146 => (if t146 = true then (if x3 > 0 then (if 0 ≤ (wrap64 (x3 - 1)) then (if (wrap64 (x3 - 1)) < (x141001.length : Int) then (if ((Op.bytesLess (((rd_T70 x141001 (wrap64 (x3 - 1))).f0).toList) (((rd_T70 x141001 x3).f0).toList)) = true) then (spec_AffOk.l0 k (wrap64 (x3 + 1)) x141000 x141001) else (some false)) else (none)) else (none)) else (spec_AffOk.l0 k (wrap64 (x3 + 1)) x141000 x141001)) else (some false)))) else (some false))) else (none)) else ((spec_l8Num.f x141000).bind fun t141 => (some t141))
def spec_AffOk.f (k : Nat) (a0_0 : Int) (l0_1 : List (S70)) : Option (Bool) := spec_AffOk.l0 k 0 a0_0 l0_1
theorem spec_AffOk.mono_l : ∀ k, (∀ y0 y1 y2, LeO (spec_AffOk.l0 k y0 y1 y2) (spec_AffOk.l0 (k + 1) y0 y1 y2))
 | 0 => fun _ _ _ r h => by simp [spec_AffOk.l0] at h
 | k + 1 => by
  have ih0 := spec_AffOk.mono_l k
  ·intro y0 y1 y2
   unfold spec_AffOk.l0
   repeat' first
   | (with_reducible exact ih0 _ _ _)
   | (with_reducible exact spec_NameOk.mono _ _)
   | (with_reducible exact LeO.refl _)
   | (with_reducible exact LeO.none _)
   | (with_reducible refine LeO.ite ?_ ?_)
   | (with_reducible refine LeO.bind ?_ (fun _ => ?_))
   | exact ih0 _ _ _
   | exact spec_NameOk.mono _ _
   | exact LeO.none _
   | refine LeO.ite ?_ ?_
   | refine LeO.bind ?_ (fun _ => ?_)
theorem spec_AffOk.mono : ∀ a0 a1 k, LeO (spec_AffOk.f k a0 a1) (spec_AffOk.f (k + 1) a0 a1) := by
 intro a0 a1 k
 have ih0 := spec_AffOk.mono_l k
 unfold spec_AffOk.f
 repeat' first
   | (with_reducible exact ih0 _ _ _)
   | (with_reducible exact spec_NameOk.mono _ _)
   | (with_reducible exact LeO.refl _)
   | (with_reducible exact LeO.none _)
   | (with_reducible refine LeO.ite ?_ ?_)
   | (with_reducible refine LeO.bind ?_ (fun _ => ?_))
   | exact ih0 _ _ _
   | exact spec_NameOk.mono _ _
   | exact LeO.none _
   | refine LeO.ite ?_ ?_
   | refine LeO.bind ?_ (fun _ => ?_)
theorem spec_AffOk.leq_not : ∀ a b : List UInt8, (Op.bytesLess a b || a == b) = !Op.bytesLess b a
 | [], [] => by simp [Op.bytesLess]
 | [], b :: ys => by simp [Op.bytesLess]
 | a :: xs, [] => by simp [Op.bytesLess]
 | a :: xs, b :: ys => by
  have ih := spec_AffOk.leq_not xs ys
  simp only [Op.bytesLess]
  rcases Nat.lt_trichotomy a.toNat b.toNat with h | h | h
  ·have h1 : a < b := h
   have h2 : ¬ b < a := fun k => by have : b.toNat < a.toNat := k; omega
   have h3 : ¬ b = a := fun e => by subst e; omega
   have h4 : ¬ a = b := fun e => h3 e.symm
   simp [h1, h2, h3, h4]
  ·have h3 : a = b := UInt8.toNat_inj.1 h
   subst h3
   have h2 : ¬ a < a := fun k => by have : a.toNat < a.toNat := k; omega
   simp [h2]
   simpa using ih
  ·have h1 : b < a := h
   have h2 : ¬ a < b := fun k => by have : a.toNat < b.toNat := k; omega
   have h3 : ¬ b = a := fun e => by subst e; omega
   have h4 : ¬ a = b := fun e => h3 e.symm
   simp [h1, h2, h3, h4]
theorem spec_AffOk.binOp_leq (t : TypeId) (a b : ByteArray) : binOp .leq t (.string a) (.string b) = pure (.bool (!Op.bytesLess b.toList a.toList)) := by
 rw [← spec_AffOk.leq_not]
 simp [binOp, Op.stringOp]
theorem spec_AffOk.binOp_geq (t : TypeId) (a b : ByteArray) : binOp .geq t (.string a) (.string b) = pure (.bool (!Op.bytesLess a.toList b.toList)) := by
 simp [binOp, Op.stringOp]
/-- A world that has come of w, all that lay in w unturned. -/
structure spec_AffOk.OnW (w : World) where
 v : World
 b : Below w.heap.size w v
instance spec_AffOk.anyOn (w : World) : Inhabited (spec_AffOk.OnW w) := ⟨⟨w, Below.refl _ _⟩⟩
theorem spec_AffOk.region {P : Program} {id : Nat} {Q : Exit → Act → World → Prop} {a : Act} {w : World} {l : List Oper} (hm : P.follows .mixedOrders = true) (hB : Region.lexB .any l.toArray = true)
  (h : wpQuiet P l.toArray (fun w' => ∃ p : spec_AffOk.OnW w, w' = p.v) (fun a' => ∀ w', (∃ p : spec_AffOk.OnW w, w' = p.v) → Q .normal a' w') l a) : (Code.region id l.toArray true).wp P Q a w :=
 wp_region_quiet (C := fun w' => ∃ p : spec_AffOk.OnW w, w' = p.v) hm hB ⟨⟨{ w with drawn := w.drawn + 1 }, below_drew1 (Below.refl _ _)⟩, rfl⟩ (by simpa using h)
theorem spec_AffOk.met {P : Program} {f : FuncId} {args : Array Value} {w : World} {p : spec_AffOk.OnW w} {v : Value}
  (h : Calls P f args p.v fun e w' => e = .returned v ∧ Below p.v.heap.size p.v w') : Calls P f args p.v fun e w'' => e = .returned v ∧ ∃ q : spec_AffOk.OnW w, w'' = q.v :=
 h.mono fun _ w' h => ⟨h.1, ⟨w', below_step p.b h.2⟩, rfl⟩
theorem spec_AffOk.cell {w : World} {a : Addr} {v : Value} (h : w.cell? a = some v) (p : spec_AffOk.OnW w) : p.v.cell? a = some v := (p.b.cell (World.block_lt_of_cell? w a h)).trans h
set_option maxHeartbeats 8000000 in
set_option maxRecDepth 100000 in
theorem spec_AffOk.calls (k : Nat) (a0_0 : Int) (A0_1 : Option Addr) (c0_1 : Nat) (l0_1 : List (S70)) (r : Bool) (w : World) (hr0_1 : Kd.C k70 w A0_1 l0_1.length l0_1) (hc0_1 : l0_1.length ≤ c0_1) (h : spec_AffOk.f k a0_0 l0_1 = some r) :
  Calls Try.prog 27 #[.agg #[.int .i64 a0_0, .slice A0_1 l0_1.length c0_1]] w fun e w' => e = .returned (.bool r) ∧ Below w.heap.size w w' := by
 have hu28 := Try.underlying28
 have HR0_1 := mk0 hr0_1
 have HC0_1 := mk0 hc0_1
 clear hr0_1 hc0_1
 have HB := mk0 (Below.refl w.heap.size w)
 have H : (spec_AffOk.l0 k 0 a0_0 l0_1) = some r := h
 clear h
 have H' := mk0 H
 clear H
 go_enter Try.func27,Try.ntmps27
 go_wp2_with (first|((with_reducible refine gate_dst (N := 1) rfl ?_);refine box_event ?hg (N := 1) ?hd (cs := #[.int .i64 a0_0,.slice A0_1 l0_1.length c0_1]) (t := 28) ?hr ?_;(case hd => rfl);(case hg => rfl);(case hr => first|(go_simp;done)|(go_simp;rfl));intro gb140 hg w2 hbox hb;have q_ := qB (by repeat (first|(with_reducible first|exact HB.out|apply bA|apply bN|apply bD)|exact HB.out)) hb;have n0_ := mk0 (below_step q_ hb);have n1_ := mk0 (hbox);have n2_ := mk0 (below_size2 q_ hg);have n3_ := n2_;clear HB;have HB := n0_;have BK140 := n1_;have GW140 := n2_;have GE140 := n3_;clear q_ n0_ n1_ n2_ n3_;clear hb hbox hg))
 go_loopg [3] k (fun kq v3 w' => ∃ (x3_1 : Int),v3 = .int .i64 x3_1 ∧ Aside0 (spec_AffOk.l0 kq x3_1 a0_0 l0_1 = some r) ∧ Aside0 (kq ≤ k) ∧ Aside0 (w'.heap[gb140]? = some (.cells #[.int .i64 a0_0,(.slice A0_1 l0_1.length c0_1)] 28 (0,0))) ∧ Aside0 (Below w.heap.size w w'))
 case atStart => exact ⟨(0),(by first|rfl|(simp;done)|(simp [*];done)),H',⟨Nat.le_refl _⟩,⟨by refine kX ?_;exact BK140.out⟩,⟨by repeat (first|(with_reducible first|exact HB.out|apply bA|apply bN|apply bD|refine bS ?_ GE140.out)|exact HB.out)⟩⟩
 case round =>
  clear H'
  try clear p2
  obtain ⟨x3_1,rfl,HA,HK1,BK140,HB⟩ := hrel
  cases gk with
   |zero => exact absurd HA.out (by simp [spec_AffOk.l0])
   |succ k1 =>
   have H := HA.out
   clear HA
   simp only [spec_AffOk.l0] at H
   by_cases c3 : x3_1 < (l0_1.length : Int)
   ·rw [if_pos c3] at H
    have c3b0 : decide (x3_1 < (l0_1.length : Int)) = true := decide_eq_true c3
    clear c3
    by_cases c4 : 0 ≤ x3_1
    ·rw [if_pos c4] at H
     have c4b0 : decide (0 ≤ x3_1) = true := decide_eq_true c4
     clear c4
     have p142 : 0 ≤ (x3_1 : Int) := of_decide_eq_true c4b0
     have q142 : x3_1 < (l0_1.length : Int) := of_decide_eq_true c3b0
     obtain ⟨ad142,e142,hx142_0,hx142_1⟩ := at_T70 HR0_1.out x3_1 p142 q142
     cases e142
     have hw0 : wr.cell? ⟨gb140,0,none⟩ = some (.int .i64 a0_0) := (blk_cell BK140.out 0).trans rfl
     have hw1 : wr.cell? ⟨gb140,1,none⟩ = some (.slice (some ad142) l0_1.length c0_1) := (blk_cell BK140.out 1).trans rfl
     have hy0 := spec_AffOk.cell (show wr.cell? ⟨gb140,0,none⟩ = some (.int .i64 a0_0) from (blk_cell BK140.out 0).trans rfl)
     have hy1 := spec_AffOk.cell (show wr.cell? ⟨gb140,1,none⟩ = some (.slice (some ad142) l0_1.length c0_1) from (blk_cell BK140.out 1).trans rfl)
     replace hx142_0 := spec_AffOk.cell ((HB.out.cell (World.block_lt_of_cell? w _ hx142_0)).trans hx142_0)
     replace hx142_1 := spec_AffOk.cell ((HB.out.cell (World.block_lt_of_cell? w _ hx142_1)).trans hx142_1)
     replace p142 := eq_true p142
     replace q142 := eq_true q142
     go_wp2
     clear hw0 hw1
     replace H := Option.bind_eq_some_iff.mp H
     obtain ⟨t143,A5,H⟩ := H
     have A5 := mk0 A5
     have CC5 := mk0 (fun W => spec_NameOk.calls k1 _ t143 W A5.out)
     have CC8 : Aside0 True := ⟨trivial⟩
     cases t143 with
         |false =>
      rw [if_neg (show ¬ (false = true) by decide)] at H
      obtain rfl := Option.some.inj H
      clear H
      (refine spec_AffOk.region (by kernel_rfl) (by kernel_rfl) ?_;(repeat (go_big_quiet_step (first|(go_at_call 52;refine spec_AffOk.met (CC5.out _))|(go_at_call 53;refine spec_AffOk.met (CC8.out _)))));refine wpQuiet_nil ?_;intro _ hw';obtain ⟨pq,hw''⟩ := hw';subst hw'')
      go_wp2
      go_ret
      exact ⟨rfl,below_step HB.out pq.b⟩
         |true =>
      rw [if_pos rfl] at H
      by_cases c9 : (rd_T70 l0_1 x3_1).f1 = 0
      ·rw [if_pos c9] at H
       have c9b0 : ((rd_T70 l0_1 x3_1).f1 == 0) = true := beq_iff_eq.mpr c9
       clear c9
       obtain rfl := Option.some.inj H
       clear H
       (refine spec_AffOk.region (by kernel_rfl) (by kernel_rfl) ?_;(repeat (go_big_quiet_step (first|(go_at_call 52;refine spec_AffOk.met (CC5.out _))|(go_at_call 53;refine spec_AffOk.met (CC8.out _)))));refine wpQuiet_nil ?_;intro _ hw';obtain ⟨pq,hw''⟩ := hw';subst hw'')
       go_wp2
       go_ret
       exact ⟨rfl,below_step HB.out pq.b⟩
      ·rw [if_neg c9] at H
       have c9b0 : ((rd_T70 l0_1 x3_1).f1 == 0) = false := beq_eq_false_iff_ne.mpr c9
       clear c9 CC8
       replace H := Option.bind_eq_some_iff.mp H
       obtain ⟨t158,A8,H⟩ := H
       have A8 := mk0 A8
       have CC8 := mk0 (fun W => (spec_l8Num.calls _ t158 W A8.out).mono (fun e w_ h_ => (⟨h_.1,h_.2.below⟩ : e = Ending.returned (Value.bool t158) ∧ Below W.heap.size W w_)))
       cases t158 with
             |false =>
        rw [if_neg (show ¬ (false = true) by decide)] at H
        obtain rfl := Option.some.inj H
        clear H
        (refine spec_AffOk.region (by kernel_rfl) (by kernel_rfl) ?_;(repeat (go_big_quiet_step (first|(go_at_call 52;refine spec_AffOk.met (CC5.out _))|(go_at_call 53;refine spec_AffOk.met (CC8.out _)))));refine wpQuiet_nil ?_;intro _ hw';obtain ⟨pq,hw''⟩ := hw';subst hw'')
        go_wp2
        go_ret
        exact ⟨rfl,below_step HB.out pq.b⟩
             |true =>
        rw [if_pos rfl] at H
        by_cases c10 : x3_1 > 0
        ·rw [if_pos c10] at H
         have c10b0 : decide (0 < x3_1) = true := decide_eq_true c10
         have hlm : l0_1.length ≤ 9223372036854775807 := HR0_1.out.2.1
         have hlt : x3_1 < (l0_1.length : Int) := of_decide_eq_true c3b0
         have ew : wrap64 (x3_1 - 1) = x3_1 - 1 := by unfold wrap64;omega
         rw [ew,if_pos (by omega),if_pos (by omega)] at H
         obtain ⟨ji,hji⟩ : ∃ ji : Int,x3_1 - 1 = ji := ⟨_,rfl⟩
         have hw2 : IntKind.i64.wrap (x3_1 - 1) = ji := by rw [IntKind.wrap_i64];omega
         rw [hji] at H
         have p2 : 0 ≤ ji := by omega
         have q2 : ji < (l0_1.length : Int) := by omega
         obtain ⟨ad2,e2,hv0,_⟩ := at_T70 HR0_1.out ji p2 q2
         cases e2
         replace hv0 := spec_AffOk.cell ((HB.out.cell (World.block_lt_of_cell? w _ hv0)).trans hv0)
         clear hlm hlt c10 ew hji
         replace p2 := eq_true p2
         replace q2 := eq_true q2
         have hle := fun t => spec_AffOk.binOp_geq t (rd_T70 l0_1 ji).f0 (rd_T70 l0_1 x3_1).f0
         cases c11 : Op.bytesLess (rd_T70 l0_1 ji).f0.toList (rd_T70 l0_1 x3_1).f0.toList with
                 |false =>
          rw [c11] at hle
          simp only [Bool.not_false] at hle
          rw [c11,if_neg (show ¬ (false = true) by decide)] at H
          obtain rfl := Option.some.inj H
          clear H
          (refine spec_AffOk.region (by kernel_rfl) (by kernel_rfl) ?_;(repeat (go_big_quiet_step (first|(go_at_call 52;refine spec_AffOk.met (CC5.out _))|(go_at_call 53;refine spec_AffOk.met (CC8.out _)))));refine wpQuiet_nil ?_;intro _ hw';obtain ⟨pq,hw''⟩ := hw';subst hw'')
          go_wp2
          go_ret
          exact ⟨rfl,below_step HB.out pq.b⟩
                 |true =>
          rw [c11] at hle
          simp only [Bool.not_true] at hle
          rw [c11,if_pos rfl] at H
          have H' := mk0 H
          clear H
          (refine spec_AffOk.region (by kernel_rfl) (by kernel_rfl) ?_;(repeat (go_big_quiet_step (first|(go_at_call 52;refine spec_AffOk.met (CC5.out _))|(go_at_call 53;refine spec_AffOk.met (CC8.out _)))));refine wpQuiet_nil ?_;intro _ hw';obtain ⟨pq,hw''⟩ := hw';subst hw'')
          go_wp2
          go_roundg k1
          case measure => have := HK1.out;omega
          case rel => exact ⟨(wrap64 (x3_1 + 1)),rfl,H',⟨by have := HK1.out;omega⟩,⟨blk_below (g := gb140) (o := .cells #[.int .i64 a0_0,.slice (some ad142) l0_1.length c0_1] 28 (0,0)) BK140.out pq.b⟩,⟨below_step HB.out pq.b⟩⟩
        ·rw [if_neg c10] at H
         have c10b0 : decide (0 < x3_1) = false := decide_eq_false c10
         clear c10
         have H' := mk0 H
         clear H
         (refine spec_AffOk.region (by kernel_rfl) (by kernel_rfl) ?_;(repeat (go_big_quiet_step (first|(go_at_call 52;refine spec_AffOk.met (CC5.out _))|(go_at_call 53;refine spec_AffOk.met (CC8.out _)))));refine wpQuiet_nil ?_;intro _ hw';obtain ⟨pq,hw''⟩ := hw';subst hw'')
         go_wp2
         go_roundg k1
         case measure => have := HK1.out;omega
         case rel => exact ⟨(wrap64 (x3_1 + 1)),rfl,H',⟨by have := HK1.out;omega⟩,⟨blk_below (g := gb140) (o := .cells #[.int .i64 a0_0,.slice (some ad142) l0_1.length c0_1] 28 (0,0)) BK140.out pq.b⟩,⟨below_step HB.out pq.b⟩⟩
    ·rw [if_neg c4] at H
     exact absurd H (by simp)
   ·rw [if_neg c3] at H
    have c3b0 : decide (x3_1 < (l0_1.length : Int)) = false := decide_eq_false c3
    clear c3
    replace H := Option.bind_eq_some_iff.mp H
    obtain ⟨t154,A8,H⟩ := H
    obtain rfl := Option.some.inj H
    clear H
    have hy0 : wr.cell? ⟨gb140,0,none⟩ = some (.int .i64 a0_0) := (blk_cell BK140.out 0).trans rfl
    have hy1 : wr.cell? ⟨gb140,1,none⟩ = some (.slice A0_1 l0_1.length c0_1) := (blk_cell BK140.out 1).trans rfl
    have A8 := mk0 A8
    have CC8 := mk0 (fun W => (spec_l8Num.calls _ t154 W A8.out))
    go_wp2_with (go_at_call 53;refine (CC8.out _).mono ?_;rintro e w' ⟨rfl,⟨nd,rfl⟩⟩)
    go_ret
    exact ⟨rfl,by repeat (first|exact HB.out|apply bN|apply bD)⟩

/-! ### spec_CoefOf: function 29 -/
def spec_CoefOf.l0 : Nat → ByteArray → Int → Int → List (S70) → Option (Int)
 |0,_,_,_,_ => none
 |k + 1,x1,x5,x155000,x155001 => if x5 < (x155001.length : Int) then (if 0 ≤ x5 then (if ((rd_T70 x155001 x5).f0).toList = x1.toList then (some ((rd_T70 x155001 x5).f1)) else (spec_CoefOf.l0 k x1 (wrap64 (x5 + 1)) x155000 x155001)) else (none)) else (some 0)
def spec_CoefOf.f (k : Nat) (a0_0 : Int) (l0_1 : List (S70)) (a1 : ByteArray) : Option (Int) := spec_CoefOf.l0 k a1 0 a0_0 l0_1
theorem spec_CoefOf.mono_l : ∀ k, (∀ y0 y1 y2 y3, LeO (spec_CoefOf.l0 k y0 y1 y2 y3) (spec_CoefOf.l0 (k + 1) y0 y1 y2 y3))
 | 0 => fun _ _ _ _ r h => by simp [spec_CoefOf.l0] at h
 | k + 1 => by
  have ih0 := spec_CoefOf.mono_l k
  ·intro y0 y1 y2 y3
   unfold spec_CoefOf.l0
   repeat' first
   | (with_reducible exact ih0 _ _ _ _)
   | (with_reducible exact LeO.refl _)
   | (with_reducible exact LeO.none _)
   | (with_reducible refine LeO.ite ?_ ?_)
   | (with_reducible refine LeO.bind ?_ (fun _ => ?_))
   | exact ih0 _ _ _ _
   | exact LeO.none _
   | refine LeO.ite ?_ ?_
   | refine LeO.bind ?_ (fun _ => ?_)
theorem spec_CoefOf.mono : ∀ a0 a1 a2 k, LeO (spec_CoefOf.f k a0 a1 a2) (spec_CoefOf.f (k + 1) a0 a1 a2) := by
 intro a0 a1 a2 k
 have ih0 := spec_CoefOf.mono_l k
 unfold spec_CoefOf.f
 repeat' first
   | (with_reducible exact ih0 _ _ _ _)
   | (with_reducible exact LeO.refl _)
   | (with_reducible exact LeO.none _)
   | (with_reducible refine LeO.ite ?_ ?_)
   | (with_reducible refine LeO.bind ?_ (fun _ => ?_))
   | exact ih0 _ _ _ _
   | exact LeO.none _
   | refine LeO.ite ?_ ?_
   | refine LeO.bind ?_ (fun _ => ?_)
set_option maxHeartbeats 8000000 in
set_option maxRecDepth 100000 in
theorem spec_CoefOf.calls (k : Nat) (a0_0 : Int) (A0_1 : Option Addr) (c0_1 : Nat) (l0_1 : List (S70)) (a1 : ByteArray) (r : Int) (w : World) (hr0_1 : Kd.C k70 w A0_1 l0_1.length l0_1) (hc0_1 : l0_1.length ≤ c0_1) (h : spec_CoefOf.f k a0_0 l0_1 a1 = some r) :
  Calls Try.prog 29 #[.agg #[.int .i64 a0_0, .slice A0_1 l0_1.length c0_1], .string a1] w fun e w' => e = .returned (.int .i64 r) ∧ Below w.heap.size w w' := by
 have hu28 := Try.underlying28
 have HR0_1 := mk0 hr0_1
 have HC0_1 := mk0 hc0_1
 clear hr0_1 hc0_1
 have HB := mk0 (Below.refl w.heap.size w)
 have H : (spec_CoefOf.l0 k a1 0 a0_0 l0_1) = some r := h
 clear h
 have H' := mk0 H
 clear H
 go_enter Try.func29,Try.ntmps29
 go_wp2_with (first|((with_reducible refine gate_dst (N := 2) rfl ?_);refine box_event ?hg (N := 2) ?hd (cs := #[.int .i64 a0_0,.slice A0_1 l0_1.length c0_1]) (t := 28) ?hr ?_;(case hd => rfl);(case hg => rfl);(case hr => first|(go_simp;done)|(go_simp;rfl));intro gb154 hg w3 hbox hb;have q_ := qB (by repeat (first|(with_reducible first|exact HB.out|apply bA|apply bN|apply bD)|exact HB.out)) hb;have n0_ := mk0 (below_step q_ hb);have n1_ := mk0 (hbox);have n2_ := mk0 (below_size2 q_ hg);have n3_ := n2_;clear HB;have HB := n0_;have BK154 := n1_;have GW154 := n2_;have GE154 := n3_;clear q_ n0_ n1_ n2_ n3_;clear hb hbox hg))
 go_loopg [5] k (fun kq v5 w' => ∃ (x5_1 : Int),v5 = .int .i64 x5_1 ∧ Aside0 (spec_CoefOf.l0 kq a1 x5_1 a0_0 l0_1 = some r) ∧ Aside0 (kq ≤ k) ∧ Aside0 (w'.heap[gb154]? = some (.cells #[.int .i64 a0_0,(.slice A0_1 l0_1.length c0_1)] 28 (0,0))) ∧ Aside0 (Below w.heap.size w w'))
 case atStart => exact ⟨(0),(by first|rfl|(simp;done)|(simp [*];done)),H',⟨Nat.le_refl _⟩,⟨by refine kX ?_;exact BK154.out⟩,⟨by repeat (first|(with_reducible first|exact HB.out|apply bA|apply bN|apply bD|refine bS ?_ GE154.out)|exact HB.out)⟩⟩
 case round =>
  clear H'
  try clear c2
  try clear p2
  obtain ⟨x5_1,rfl,HA,HK1,BK154,HB⟩ := hrel
  cases gk with
   |zero => exact absurd HA.out (by simp [spec_CoefOf.l0])
   |succ k1 =>
   have H := HA.out
   clear HA
   simp only [spec_CoefOf.l0] at H
   by_cases c4 : x5_1 < (l0_1.length : Int)
   ·rw [if_pos c4] at H
    have c4b0 : decide (x5_1 < (l0_1.length : Int)) = true := decide_eq_true c4
    clear c4
    by_cases c5 : 0 ≤ x5_1
    ·rw [if_pos c5] at H
     have c5b0 : decide (0 ≤ x5_1) = true := decide_eq_true c5
     clear c5
     by_cases c6 : ((rd_T70 l0_1 x5_1).f0).toList = a1.toList
     ·rw [if_pos c6] at H
      have c6b0 : (((rd_T70 l0_1 x5_1).f0).toList == a1.toList) = true := beq_iff_eq.mpr c6
      have c6b1 : (((rd_T70 l0_1 x5_1).f0).toList != a1.toList) = false := bne_eq_false_iff_eq.mpr c6
      clear c6
      obtain rfl := Option.some.inj H
      have z7 := bc2 BK154.out
      have p155 : 0 ≤ (x5_1 : Int) := of_decide_eq_true (by first|(with_reducible assumption)|assumption)
      have q155 : x5_1 < (l0_1.length : Int) := of_decide_eq_true (by first|(with_reducible assumption)|assumption)
      obtain ⟨ad155,e155,hx155_0,hx155_1⟩ := at_T70 HR0_1.out x5_1 p155 q155
      cases e155
      replace hx155_0 := hbc HB.out hx155_0
      replace hx155_1 := hbc HB.out hx155_1
      replace p155 := eq_true p155
      replace q155 := eq_true q155
      have p156 : 0 ≤ (x5_1 : Int) := of_decide_eq_true (by first|(with_reducible assumption)|assumption)
      have q156 : x5_1 < (l0_1.length : Int) := of_decide_eq_true (by first|(with_reducible assumption)|assumption)
      obtain ⟨ad156,e156,hx156_0,hx156_1⟩ := at_T70 HR0_1.out x5_1 p156 q156
      obtain rfl : ad155 = ad156 := (by injection e156)
      replace hx156_0 := hbc HB.out hx156_0
      replace hx156_1 := hbc HB.out hx156_1
      replace p156 := eq_true p156
      replace q156 := eq_true q156
      go_wp2
      go_ret
      exact ⟨by first|rfl|(simp [errW_none,errW_some] <;> rfl)|(simp [*,errW_none,errW_some] <;> rfl),by repeat (first|(with_reducible first|exact HB.out|apply bA|apply bN|apply bD|refine bS ?_ GE154.out)|exact HB.out)⟩
     ·rw [if_neg c6] at H
      have c6b0 : (((rd_T70 l0_1 x5_1).f0).toList == a1.toList) = false := beq_eq_false_iff_ne.mpr c6
      have c6b1 : (((rd_T70 l0_1 x5_1).f0).toList != a1.toList) = true := bne_iff_ne.mpr c6
      have H' := mk0 H
      clear H
      have z8 := bc2 BK154.out
      have p155 : 0 ≤ (x5_1 : Int) := of_decide_eq_true (by first|(with_reducible assumption)|assumption)
      have q155 : x5_1 < (l0_1.length : Int) := of_decide_eq_true (by first|(with_reducible assumption)|assumption)
      obtain ⟨ad155,e155,hx155_0,hx155_1⟩ := at_T70 HR0_1.out x5_1 p155 q155
      cases e155
      replace hx155_0 := hbc HB.out hx155_0
      replace hx155_1 := hbc HB.out hx155_1
      replace p155 := eq_true p155
      replace q155 := eq_true q155
      go_wp2
      go_roundg k1
      case measure => have := HK1.out;omega
      case rel => exact ⟨(wrap64 (x5_1 + 1)),(by first|rfl|(simp;done)|(simp [*];done)),H',⟨by have := HK1.out;omega⟩,⟨by refine kX ?_;exact BK154.out⟩,⟨by repeat (first|(with_reducible first|exact HB.out|apply bA|apply bN|apply bD|refine bS ?_ GE154.out)|exact HB.out)⟩⟩
    ·rw [if_neg c5] at H
     exact absurd H (by simp)
   ·rw [if_neg c4] at H
    have c4b0 : decide (x5_1 < (l0_1.length : Int)) = false := decide_eq_false c4
    clear c4
    obtain rfl := Option.some.inj H
    have z9 := bc2 BK154.out
    go_wp2
    go_ret
    exact ⟨by first|rfl|(simp [errW_none,errW_some] <;> rfl)|(simp [*,errW_none,errW_some] <;> rfl),by repeat (first|(with_reducible first|exact HB.out|apply bA|apply bN|apply bD|refine bS ?_ GE154.out)|exact HB.out)⟩

/-! ### spec_l4Put: function 94 -/
mutual
def spec_l4Put.l0 : Nat → List ByteArray → ByteArray → List ByteArray → Bool → Int → Option (List ByteArray)
 |0,_,_,_,_,_ => none
 |k + 1,x0,x1,x5,x6,x7 => if x7 < (x0.length : Int) then (if x6 = true then (spec_l4Put.j1 k x0 x1 x5 x6 x7 false) else (if 0 ≤ x7 then (spec_l4Put.j1 k x0 x1 x5 x6 x7 (!(Op.bytesLess ((rdOf ByteArray.empty x0 x7).toList) x1.toList))) else (none))) else (if x6 = true then (some x5) else (if x5.length < 8796093022208 then (some (x5 ++ [x1])) else (none)))
def spec_l4Put.j1 : Nat → List ByteArray → ByteArray → List ByteArray → Bool → Int → Bool → Option (List ByteArray)
 |0,_,_,_,_,_,_ => none
 |k + 1,x0,x1,x5,x6,x7,x24 => if x24 = true then (if x5.length < 8796093022208 then ((some (x5 ++ [x1] : List ByteArray)).bind fun y164 => (if 0 ≤ x7 then (if x7 < (x0.length : Int) then (if (rdOf ByteArray.empty x0 x7).toList = x1.toList then (spec_l4Put.l0 k x0 x1 y164 true (wrap64 (x7 + 1))) else (if y164.length < 8796093022208 then (spec_l4Put.l0 k x0 x1 (y164 ++ [rdOf ByteArray.empty x0 x7]) true (wrap64 (x7 + 1))) else (none))) else (none)) else (none))) else (none)) else (if 0 ≤ x7 then (if x7 < (x0.length : Int) then (if (rdOf ByteArray.empty x0 x7).toList = x1.toList then (spec_l4Put.l0 k x0 x1 x5 x6 (wrap64 (x7 + 1))) else (if x5.length < 8796093022208 then (spec_l4Put.l0 k x0 x1 (x5 ++ [rdOf ByteArray.empty x0 x7]) x6 (wrap64 (x7 + 1))) else (none))) else (none)) else (none))
end
def spec_l4Put.f (k : Nat) (l0 : List ByteArray) (a1 : ByteArray) : Option (List ByteArray) := spec_l4Put.l0 k l0 a1 (([] : List ByteArray)) false 0
theorem spec_l4Put.mono_l : ∀ k, (∀ y0 y1 y2 y3 y4, LeO (spec_l4Put.l0 k y0 y1 y2 y3 y4) (spec_l4Put.l0 (k + 1) y0 y1 y2 y3 y4)) ∧ (∀ y0 y1 y2 y3 y4 y5, LeO (spec_l4Put.j1 k y0 y1 y2 y3 y4 y5) (spec_l4Put.j1 (k + 1) y0 y1 y2 y3 y4 y5))
 | 0 => ⟨fun _ _ _ _ _ r h => by simp [spec_l4Put.l0] at h, fun _ _ _ _ _ _ r h => by simp [spec_l4Put.j1] at h⟩
 | k + 1 => by
  obtain ⟨ih0, ih1⟩ := spec_l4Put.mono_l k
  refine ⟨?_, ?_⟩
  ·intro y0 y1 y2 y3 y4
   unfold spec_l4Put.l0
   repeat' first
   | (with_reducible exact ih0 _ _ _ _ _)
   | (with_reducible exact ih1 _ _ _ _ _ _)
   | (with_reducible exact LeO.refl _)
   | (with_reducible exact LeO.none _)
   | (with_reducible refine LeO.ite ?_ ?_)
   | (with_reducible refine LeO.bind ?_ (fun _ => ?_))
   | exact ih0 _ _ _ _ _
   | exact ih1 _ _ _ _ _ _
   | exact LeO.none _
   | refine LeO.ite ?_ ?_
   | refine LeO.bind ?_ (fun _ => ?_)
  ·intro y0 y1 y2 y3 y4 y5
   unfold spec_l4Put.j1
   repeat' first
   | (with_reducible exact ih0 _ _ _ _ _)
   | (with_reducible exact ih1 _ _ _ _ _ _)
   | (with_reducible exact LeO.refl _)
   | (with_reducible exact LeO.none _)
   | (with_reducible refine LeO.ite ?_ ?_)
   | (with_reducible refine LeO.bind ?_ (fun _ => ?_))
   | exact ih0 _ _ _ _ _
   | exact ih1 _ _ _ _ _ _
   | exact LeO.none _
   | refine LeO.ite ?_ ?_
   | refine LeO.bind ?_ (fun _ => ?_)
theorem spec_l4Put.mono : ∀ a0 a1 k, LeO (spec_l4Put.f k a0 a1) (spec_l4Put.f (k + 1) a0 a1) := by
 intro a0 a1 k
 obtain ⟨ih0, ih1⟩ := spec_l4Put.mono_l k
 unfold spec_l4Put.f
 repeat' first
   | (with_reducible exact ih0 _ _ _ _ _)
   | (with_reducible exact ih1 _ _ _ _ _ _)
   | (with_reducible exact LeO.refl _)
   | (with_reducible exact LeO.none _)
   | (with_reducible refine LeO.ite ?_ ?_)
   | (with_reducible refine LeO.bind ?_ (fun _ => ?_))
   | exact ih0 _ _ _ _ _
   | exact ih1 _ _ _ _ _ _
   | exact LeO.none _
   | refine LeO.ite ?_ ?_
   | refine LeO.bind ?_ (fun _ => ?_)
set_option maxHeartbeats 8000000 in
set_option maxRecDepth 100000 in
theorem spec_l4Put.calls (k : Nat) (A0 : Option Addr) (c0 : Nat) (l0 : List ByteArray) (a1 : ByteArray) (r : List ByteArray) (w : World) (hr0 : Kd.C Kd.string w A0 l0.length l0) (hc0 : l0.length ≤ c0) (h : spec_l4Put.f k l0 a1 = some r) :
  Calls Try.prog 94 #[.slice A0 l0.length c0, .string a1] w fun e w' => ∃ v0_ : Value, e = .returned (v0_) ∧ Kd.R Kd.string 9 w' w.heap.size (fun _ => True) v0_ r ∧ Below w.heap.size w w' := by
 have HR0 := mk0 hr0
 have HC0 := mk0 hc0
 clear hr0 hc0
 have HB := mk0 (Below.refl w.heap.size w)
 have H : (spec_l4Put.l0 k l0 a1 (([] : List ByteArray)) false 0) = some r := h
 clear h
 obtain ⟨y157,hy157⟩ : ∃ y_ : List ByteArray,y_ = (([] : List ByteArray)) := ⟨_,rfl⟩
 replace H : (spec_l4Put.l0 k l0 a1 y157 false 0) = some r := by first|(rw [hy157];with_reducible exact H)|(have H2_ := (Option.bind_some _ _).symm.trans H;rw [hy157];with_reducible exact H2_)|(have H2_ := (Option.bind_some _ _).symm.trans H;with_reducible exact H2_)|with_reducible exact H|(rw [hy157];exact H)|exact H
 have Ny157 := mk0 hy157
 clear hy157
 have H' := mk0 H
 clear H
 go_enter Try.func94,Try.ntmps94
 go_wp2_with (first|((with_reducible refine gate_dst (N := 8) rfl ?_);refine Kd.R_lit Kd.string _ 9 ?hg (N := 8) ?hd (xs := ([] : List ByteArray)) (inner := []) (ok := fun _ => True) (okp := fun _ => True) ?hr ?hp (fun _ hk => hk) trivial (Below.refl _ _) (Nat.le_refl _) (by simp) ?_;(case hd => rfl);(case hg => rfl);(case hr => first|(go_simp;done)|(go_simp;rfl));(case hp => exact (Reps.none _ _));intro v158 w3 ho4 hb hg_ hnew_;clear hg_ hnew_;(first|rw [← Ny157.out] at ho4|(simp only [Int.reduceToNat] at ho4;rw [← Ny157.out] at ho4));have q_ := qB (by repeat (first|(with_reducible first|exact HB.out|apply bA|apply bN|apply bD)|exact HB.out)) hb;have n0_ := mk0 (Kd.R_lower ho4 (below_size q_));have n1_ := mk0 (below_step q_ hb);clear HB;have HO159 := n0_;have HB := n1_;clear q_ n0_ n1_;clear hb ho4))
 go_loopg [5,6,7] k (fun kq v5 v6 v7 w' => ∃ (x5_1 : List ByteArray) (x6_1 : Bool) (x7_1 : Int),v6 = .bool x6_1 ∧ v7 = .int .i64 x7_1 ∧ Aside0 (spec_l4Put.l0 kq l0 a1 x5_1 x6_1 x7_1 = some r) ∧ Aside0 (kq ≤ k) ∧ Aside0 (Kd.R Kd.string 9 w' w.heap.size (fun _ => True) v5 x5_1) ∧ Aside0 (Below w.heap.size w w'))
 case atStart => exact ⟨(y157),(false),(0),(by first|rfl|(simp;done)|(simp [*];done)),(by first|rfl|(simp;done)|(simp [*];done)),H',⟨Nat.le_refl _⟩,⟨by refine rX ?_;exact HO159.out⟩,⟨by repeat (first|(with_reducible first|exact HB.out|apply bA|apply bN|apply bD)|exact HB.out)⟩⟩
 case round =>
  clear H'
  try clear p2
  obtain ⟨x5_1,x6_1,x7_1,rfl,rfl,HA,HK1,HO_5,HB⟩ := hrel
  cases gk with
   |zero => exact absurd HA.out (by simp [spec_l4Put.l0])
   |succ k1 =>
   have H := HA.out
   clear HA
   simp only [spec_l4Put.l0] at H
   by_cases c5 : x7_1 < (l0.length : Int)
   ·rw [if_pos c5] at H
    have c5b0 : decide (x7_1 < (l0.length : Int)) = true := decide_eq_true c5
    clear c5
    have HC6 := mk0 H
    clear H
    go_upto_region 6 with (fail)
    go_cut [24] (fun v24 wc => ∃ (kq : Nat) (x24_5 : Bool),v24 = .bool x24_5 ∧ Aside0 (spec_l4Put.j1 kq l0 a1 x5_1 x6_1 x7_1 x24_5 = some r) ∧ Aside0 (kq ≤ k1) ∧ Aside0 (Kd.R Kd.string 9 wc w.heap.size (fun _ => True) u5 x5_1) ∧ Aside0 (Below w.heap.size w wc))
    case first =>
     have H := HC6.out
     clear HC6
     by_cases c7 : x6_1 = true
     ·subst c7
      rw [if_pos rfl] at H
      have H' := mk0 H
      clear H
      go_wp2
      go_meet
      case rel => exact ⟨_,(false),(by first|rfl|(simp;done)|(simp [*];done)),H',⟨by have := HK1.out;first|omega|exact Nat.le_refl _⟩,⟨by refine rX ?_;exact HO_5.out⟩,⟨by repeat (first|(with_reducible first|exact HB.out|apply bA|apply bN|apply bD)|exact HB.out)⟩⟩
     ·replace c7 := Bool.eq_false_iff.mpr c7
      subst c7
      rw [if_neg (show ¬ (false = true) by decide)] at H
      by_cases c8 : 0 ≤ x7_1
      ·rw [if_pos c8] at H
       have c8b0 : decide (0 ≤ x7_1) = true := decide_eq_true c8
       clear c8
       (first|rw [c8b0]|(simp only [i64_w,i32_w];rw [c8b0])|skip)
       have H' := mk0 H
       clear H
       have p163 : 0 ≤ (x7_1 : Int) := of_decide_eq_true (by first|(with_reducible assumption)|assumption)
       have q163 : x7_1 < (l0.length : Int) := of_decide_eq_true (by first|(with_reducible assumption)|assumption)
       obtain ⟨ad163,e163,hx163_0⟩ := Kd.at_string HR0.out x7_1 p163 q163
       cases e163
       replace hx163_0 := hbc HB.out hx163_0
       replace p163 := eq_true p163
       replace q163 := eq_true q163
       go_wp2
       go_meet
       case rel => exact ⟨_,(!(Op.bytesLess ((rdOf ByteArray.empty l0 x7_1).toList) a1.toList)),(by first|rfl|(simp;done)|(simp [*];done)),H',⟨by have := HK1.out;first|omega|exact Nat.le_refl _⟩,⟨by refine rX ?_;exact HO_5.out⟩,⟨by repeat (first|(with_reducible first|exact HB.out|apply bA|apply bN|apply bD)|exact HB.out)⟩⟩
      ·rw [if_neg c8] at H
       exact absurd H (by simp)
    case rest =>
     clear HC6
     try clear p1
     try clear q1
     try clear hx1
     try clear p2
     try clear c5
     try clear c5b0
     try clear c7
     try clear c8
     try clear c8b0
     try clear hx163_0
     try clear p163
     try clear p2
     try clear q163
     obtain ⟨kq,x24_5,rfl,HA,HJ5,HO_5,HB⟩ := hcut
     cases kq with
         |zero => exact absurd HA.out (by simp [spec_l4Put.j1])
         |succ kj5 =>
      have H := HA.out
      clear HA
      simp only [spec_l4Put.j1] at H
      by_cases c9 : x24_5 = true
      ·subst c9
       rw [if_pos rfl] at H
       by_cases c10 : x5_1.length < 8796093022208
       ·rw [if_pos c10] at H
        have LMc10 := mk0 c10
        clear c10
        obtain ⟨y164,hy164⟩ : ∃ y_ : List ByteArray,y_ = (x5_1 ++ [a1]) := ⟨_,rfl⟩
        replace H : (if 0 ≤ x7_1 then (if x7_1 < (l0.length : Int) then (if (rdOf ByteArray.empty l0 x7_1).toList = a1.toList then (spec_l4Put.l0 kj5 l0 a1 y164 true (wrap64 (x7_1 + 1))) else (if y164.length < 8796093022208 then (spec_l4Put.l0 kj5 l0 a1 (y164 ++ [rdOf ByteArray.empty l0 x7_1]) true (wrap64 (x7_1 + 1))) else (none))) else (none)) else (none)) = some r := by first|(rw [hy164];with_reducible exact H)|(have H2_ := (Option.bind_some _ _).symm.trans H;rw [hy164];with_reducible exact H2_)|(have H2_ := (Option.bind_some _ _).symm.trans H;with_reducible exact H2_)|with_reducible exact H|(rw [hy164];exact H)|exact H
        have Ny164 := mk0 hy164
        clear hy164
        by_cases c11 : 0 ≤ x7_1
        ·rw [if_pos c11] at H
         have c11b0 : decide (0 ≤ x7_1) = true := decide_eq_true c11
         clear c11
         by_cases c12 : x7_1 < (l0.length : Int)
         ·rw [if_pos c12] at H
          have c12b0 : decide (x7_1 < (l0.length : Int)) = true := decide_eq_true c12
          clear c12
          by_cases c13 : (rdOf ByteArray.empty l0 x7_1).toList = a1.toList
          ·rw [if_pos c13] at H
           have c13b0 : ((rdOf ByteArray.empty l0 x7_1).toList == a1.toList) = true := beq_iff_eq.mpr c13
           have c13b1 : ((rdOf ByteArray.empty l0 x7_1).toList != a1.toList) = false := bne_eq_false_iff_eq.mpr c13
           clear c13
           have H' := mk0 H
           clear H
           go_wp2_with (first|((with_reducible refine gate_builtin (b := .append) (xs := #[.tmp 25,.tmp 27]) rfl ?_);at_builtin;refine Kd.R_append Kd.string (w0 := w) w.heap.size rfl (.tmp 25) (.tmp 27) 41 9 (.string ⟨#[]⟩) 16 rfl Try.underlying41 info9 rfl (by decide) (by omega) u5 x5_1 a1 [.string a1] (fun _ => True) (fun _ => False) rfl rfl ?aP (fun _ hk => hk.elim) ?aF ?aO ?aB ?aS ?aL ?_;(case aP => exact rfl);(case aB => exact (by repeat (first|(with_reducible first|exact HB.out|apply bA|apply bN|apply bD)|exact HB.out)));(case aF => exact (fun _ _ => trivial));(case aO => exact (by exact rX HO_5.out));(case aS => exact (below_size (by repeat (first|(with_reducible first|exact HB.out|apply bA|apply bN|apply bD)|exact HB.out))));(case aL => have := LMc10.out;omega);intro v165 w14 ho hb hg hat;rw [← Ny164.out] at ho;have n0_ := mk0 (hb);have n1_ := mk0 (ho);clear HB;clear HO_5;have HB := n0_;have HO166 := n1_;clear n0_ n1_;clear ho hb hg hat;have p167 : 0 ≤ (x7_1 : Int) := of_decide_eq_true (by first|(with_reducible assumption)|assumption);have q167 : x7_1 < (l0.length : Int) := of_decide_eq_true (by first|(with_reducible assumption)|assumption);obtain ⟨ad167,e167,hx167_0⟩ := Kd.at_string HR0.out x7_1 p167 q167;cases e167;replace hx167_0 := hbc HB.out hx167_0;replace p167 := eq_true p167;replace q167 := eq_true q167))
           go_roundg kj5
           case measure => have := HK1.out;have := HJ5.out;omega
           case rel => exact ⟨(y164),(true),(wrap64 (x7_1 + 1)),(by first|rfl|(simp;done)|(simp [*];done)),(by first|rfl|(simp;done)|(simp [*];done)),H',⟨by have := HK1.out;have := HJ5.out;omega⟩,⟨by refine rX ?_;exact HO166.out⟩,⟨by repeat (first|(with_reducible first|exact HB.out|apply bA|apply bN|apply bD)|exact HB.out)⟩⟩
          ·rw [if_neg c13] at H
           have c13b0 : ((rdOf ByteArray.empty l0 x7_1).toList == a1.toList) = false := beq_eq_false_iff_ne.mpr c13
           have c13b1 : ((rdOf ByteArray.empty l0 x7_1).toList != a1.toList) = true := bne_iff_ne.mpr c13
           by_cases c15 : y164.length < 8796093022208
           ·rw [if_pos c15] at H
            have LMc15 := mk0 c15
            clear c15
            obtain ⟨y169,hy169⟩ : ∃ y_ : List ByteArray,y_ = (y164 ++ [rdOf ByteArray.empty l0 x7_1]) := ⟨_,rfl⟩
            replace H : (spec_l4Put.l0 kj5 l0 a1 y169 true (wrap64 (x7_1 + 1))) = some r := by first|(rw [hy169];with_reducible exact H)|(have H2_ := (Option.bind_some _ _).symm.trans H;rw [hy169];with_reducible exact H2_)|(have H2_ := (Option.bind_some _ _).symm.trans H;with_reducible exact H2_)|with_reducible exact H|(rw [hy169];exact H)|exact H
            have Ny169 := mk0 hy169
            clear hy169
            have H' := mk0 H
            clear H
            go_wp2_with (first|((with_reducible refine gate_builtin (b := .append) (xs := #[.tmp 25,.tmp 27]) rfl ?_);at_builtin;refine Kd.R_append Kd.string (w0 := w) w.heap.size rfl (.tmp 25) (.tmp 27) 41 9 (.string ⟨#[]⟩) 16 rfl Try.underlying41 info9 rfl (by decide) (by omega) u5 x5_1 a1 [.string a1] (fun _ => True) (fun _ => False) rfl rfl ?aP (fun _ hk => hk.elim) ?aF ?aO ?aB ?aS ?aL ?_;(case aP => exact rfl);(case aB => exact (by repeat (first|(with_reducible first|exact HB.out|apply bA|apply bN|apply bD)|exact HB.out)));(case aF => exact (fun _ _ => trivial));(case aO => exact (by exact rX HO_5.out));(case aS => exact (below_size (by repeat (first|(with_reducible first|exact HB.out|apply bA|apply bN|apply bD)|exact HB.out))));(case aL => have := LMc10.out;omega);intro v165 w16 ho hb hg hat;rw [← Ny164.out] at ho;have n0_ := mk0 (hb);have n1_ := mk0 (ho);clear HB;clear HO_5;have HB := n0_;have HO166 := n1_;clear n0_ n1_;clear ho hb hg hat;have p167 : 0 ≤ (x7_1 : Int) := of_decide_eq_true (by first|(with_reducible assumption)|assumption);have q167 : x7_1 < (l0.length : Int) := of_decide_eq_true (by first|(with_reducible assumption)|assumption);obtain ⟨ad167,e167,hx167_0⟩ := Kd.at_string HR0.out x7_1 p167 q167;cases e167;replace hx167_0 := hbc HB.out hx167_0;replace p167 := eq_true p167;replace q167 := eq_true q167;have p168 : 0 ≤ (x7_1 : Int) := of_decide_eq_true (by first|(with_reducible assumption)|assumption);have q168 : x7_1 < (l0.length : Int) := of_decide_eq_true (by first|(with_reducible assumption)|assumption);obtain ⟨ad168,e168,hx168_0⟩ := Kd.at_string HR0.out x7_1 p168 q168;obtain rfl : ad167 = ad168 := (by injection e168);replace hx168_0 := hbc HB.out hx168_0;replace p168 := eq_true p168;replace q168 := eq_true q168)|((with_reducible refine gate_builtin (b := .append) (xs := #[.tmp 35,.tmp 40]) rfl ?_);at_builtin;refine Kd.R_append Kd.string (w0 := w) w.heap.size rfl (.tmp 35) (.tmp 40) 41 9 (.string ⟨#[]⟩) 16 rfl Try.underlying41 info9 rfl (by decide) (by omega) v165 y164 (rdOf ByteArray.empty l0 x7_1) [.string (rdOf ByteArray.empty l0 x7_1)] (fun _ => True) (fun _ => False) rfl rfl ?aP (fun _ hk => hk.elim) ?aF ?aO ?aB ?aS ?aL ?_;(case aP => exact rfl);(case aB => exact (by repeat (first|(with_reducible first|exact HB.out|apply bA|apply bN|apply bD)|exact HB.out)));(case aF => exact (fun _ _ => trivial));(case aO => exact (by exact rX HO166.out));(case aS => exact (below_size (by repeat (first|(with_reducible first|exact HB.out|apply bA|apply bN|apply bD)|exact HB.out))));(case aL => have := LMc15.out;omega);intro v170 w17 ho hb hg hat;rw [← Ny169.out] at ho;have n0_ := mk0 (hb);have n1_ := mk0 (ho);clear HB;clear HO166;have HB := n0_;have HO171 := n1_;clear n0_ n1_;clear ho hb hg hat))
            go_roundg kj5
            case measure => have := HK1.out;have := HJ5.out;omega
            case rel => exact ⟨(y169),(true),(wrap64 (x7_1 + 1)),(by first|rfl|(simp;done)|(simp [*];done)),(by first|rfl|(simp;done)|(simp [*];done)),H',⟨by have := HK1.out;have := HJ5.out;omega⟩,⟨by refine rX ?_;exact HO171.out⟩,⟨by repeat (first|(with_reducible first|exact HB.out|apply bA|apply bN|apply bD)|exact HB.out)⟩⟩
           ·rw [if_neg c15] at H
            exact absurd H (by simp)
         ·rw [if_neg c12] at H
          exact absurd H (by simp)
        ·rw [if_neg c11] at H
         exact absurd H (by simp)
       ·rw [if_neg c10] at H
        exact absurd H (by simp)
      ·replace c9 := Bool.eq_false_iff.mpr c9
       subst c9
       rw [if_neg (show ¬ (false = true) by decide)] at H
       by_cases c18 : 0 ≤ x7_1
       ·rw [if_pos c18] at H
        have c18b0 : decide (0 ≤ x7_1) = true := decide_eq_true c18
        clear c18
        by_cases c19 : x7_1 < (l0.length : Int)
        ·rw [if_pos c19] at H
         have c19b0 : decide (x7_1 < (l0.length : Int)) = true := decide_eq_true c19
         clear c19
         by_cases c20 : (rdOf ByteArray.empty l0 x7_1).toList = a1.toList
         ·rw [if_pos c20] at H
          have c20b0 : ((rdOf ByteArray.empty l0 x7_1).toList == a1.toList) = true := beq_iff_eq.mpr c20
          have c20b1 : ((rdOf ByteArray.empty l0 x7_1).toList != a1.toList) = false := bne_eq_false_iff_eq.mpr c20
          clear c20
          have H' := mk0 H
          clear H
          have p172 : 0 ≤ (x7_1 : Int) := of_decide_eq_true (by first|(with_reducible assumption)|assumption)
          have q172 : x7_1 < (l0.length : Int) := of_decide_eq_true (by first|(with_reducible assumption)|assumption)
          obtain ⟨ad172,e172,hx172_0⟩ := Kd.at_string HR0.out x7_1 p172 q172
          cases e172
          replace hx172_0 := hbc HB.out hx172_0
          replace p172 := eq_true p172
          replace q172 := eq_true q172
          go_wp2
          go_roundg kj5
          case measure => have := HK1.out;have := HJ5.out;omega
          case rel => exact ⟨(x5_1),(x6_1),(wrap64 (x7_1 + 1)),(by first|rfl|(simp;done)|(simp [*];done)),(by first|rfl|(simp;done)|(simp [*];done)),H',⟨by have := HK1.out;have := HJ5.out;omega⟩,⟨by refine rX ?_;exact HO_5.out⟩,⟨by repeat (first|(with_reducible first|exact HB.out|apply bA|apply bN|apply bD)|exact HB.out)⟩⟩
         ·rw [if_neg c20] at H
          have c20b0 : ((rdOf ByteArray.empty l0 x7_1).toList == a1.toList) = false := beq_eq_false_iff_ne.mpr c20
          have c20b1 : ((rdOf ByteArray.empty l0 x7_1).toList != a1.toList) = true := bne_iff_ne.mpr c20
          by_cases c21 : x5_1.length < 8796093022208
          ·rw [if_pos c21] at H
           have LMc21 := mk0 c21
           clear c21
           obtain ⟨y174,hy174⟩ : ∃ y_ : List ByteArray,y_ = (x5_1 ++ [rdOf ByteArray.empty l0 x7_1]) := ⟨_,rfl⟩
           replace H : (spec_l4Put.l0 kj5 l0 a1 y174 x6_1 (wrap64 (x7_1 + 1))) = some r := by first|(rw [hy174];with_reducible exact H)|(have H2_ := (Option.bind_some _ _).symm.trans H;rw [hy174];with_reducible exact H2_)|(have H2_ := (Option.bind_some _ _).symm.trans H;with_reducible exact H2_)|with_reducible exact H|(rw [hy174];exact H)|exact H
           have Ny174 := mk0 hy174
           clear hy174
           have H' := mk0 H
           clear H
           have p172 : 0 ≤ (x7_1 : Int) := of_decide_eq_true (by first|(with_reducible assumption)|assumption)
           have q172 : x7_1 < (l0.length : Int) := of_decide_eq_true (by first|(with_reducible assumption)|assumption)
           obtain ⟨ad172,e172,hx172_0⟩ := Kd.at_string HR0.out x7_1 p172 q172
           cases e172
           replace hx172_0 := hbc HB.out hx172_0
           replace p172 := eq_true p172
           replace q172 := eq_true q172
           have p173 : 0 ≤ (x7_1 : Int) := of_decide_eq_true (by first|(with_reducible assumption)|assumption)
           have q173 : x7_1 < (l0.length : Int) := of_decide_eq_true (by first|(with_reducible assumption)|assumption)
           obtain ⟨ad173,e173,hx173_0⟩ := Kd.at_string HR0.out x7_1 p173 q173
           obtain rfl : ad172 = ad173 := (by injection e173)
           replace hx173_0 := hbc HB.out hx173_0
           replace p173 := eq_true p173
           replace q173 := eq_true q173
           go_wp2_with (first|((with_reducible refine gate_builtin (b := .append) (xs := #[.tmp 35,.tmp 40]) rfl ?_);at_builtin;refine Kd.R_append Kd.string (w0 := w) w.heap.size rfl (.tmp 35) (.tmp 40) 41 9 (.string ⟨#[]⟩) 16 rfl Try.underlying41 info9 rfl (by decide) (by omega) u5 x5_1 (rdOf ByteArray.empty l0 x7_1) [.string (rdOf ByteArray.empty l0 x7_1)] (fun _ => True) (fun _ => False) rfl rfl ?aP (fun _ hk => hk.elim) ?aF ?aO ?aB ?aS ?aL ?_;(case aP => exact rfl);(case aB => exact (by repeat (first|(with_reducible first|exact HB.out|apply bA|apply bN|apply bD)|exact HB.out)));(case aF => exact (fun _ _ => trivial));(case aO => exact (by exact rX HO_5.out));(case aS => exact (below_size (by repeat (first|(with_reducible first|exact HB.out|apply bA|apply bN|apply bD)|exact HB.out))));(case aL => have := LMc21.out;omega);intro v175 w22 ho hb hg hat;rw [← Ny174.out] at ho;have n0_ := mk0 (hb);have n1_ := mk0 (ho);clear HB;clear HO_5;have HB := n0_;have HO176 := n1_;clear n0_ n1_;clear ho hb hg hat))
           go_roundg kj5
           case measure => have := HK1.out;have := HJ5.out;omega
           case rel => exact ⟨(y174),(x6_1),(wrap64 (x7_1 + 1)),(by first|rfl|(simp;done)|(simp [*];done)),(by first|rfl|(simp;done)|(simp [*];done)),H',⟨by have := HK1.out;have := HJ5.out;omega⟩,⟨by refine rX ?_;exact HO176.out⟩,⟨by repeat (first|(with_reducible first|exact HB.out|apply bA|apply bN|apply bD)|exact HB.out)⟩⟩
          ·rw [if_neg c21] at H
           exact absurd H (by simp)
        ·rw [if_neg c19] at H
         exact absurd H (by simp)
       ·rw [if_neg c18] at H
        exact absurd H (by simp)
   ·rw [if_neg c5] at H
    have c5b0 : decide (x7_1 < (l0.length : Int)) = false := decide_eq_false c5
    clear c5
    by_cases c23 : x6_1 = true
    ·subst c23
     rw [if_pos rfl] at H
     obtain rfl := Option.some.inj H
     go_wp2
     go_ret
     exact ⟨_,by first|rfl|(simp [errW_none,errW_some] <;> rfl)|(simp [*,errW_none,errW_some] <;> rfl),by refine rX ?_;exact HO_5.out,by repeat (first|(with_reducible first|exact HB.out|apply bA|apply bN|apply bD)|exact HB.out)⟩
    ·replace c23 := Bool.eq_false_iff.mpr c23
     subst c23
     rw [if_neg (show ¬ (false = true) by decide)] at H
     by_cases c24 : x5_1.length < 8796093022208
     ·rw [if_pos c24] at H
      have LMc24 := mk0 c24
      clear c24
      obtain ⟨y160,hy160⟩ : ∃ y_ : List ByteArray,y_ = (x5_1 ++ [a1]) := ⟨_,rfl⟩
      replace H : (some y160) = some r := by first|(rw [hy160];with_reducible exact H)|(have H2_ := (Option.bind_some _ _).symm.trans H;rw [hy160];with_reducible exact H2_)|(have H2_ := (Option.bind_some _ _).symm.trans H;with_reducible exact H2_)|with_reducible exact H|(rw [hy160];exact H)|exact H
      have Ny160 := mk0 hy160
      clear hy160
      obtain rfl := Option.some.inj H
      go_wp2_with (first|((with_reducible refine gate_builtin (b := .append) (xs := #[.tmp 44,.tmp 46]) rfl ?_);at_builtin;refine Kd.R_append Kd.string (w0 := w) w.heap.size rfl (.tmp 44) (.tmp 46) 41 9 (.string ⟨#[]⟩) 16 rfl Try.underlying41 info9 rfl (by decide) (by omega) u5 x5_1 a1 [.string a1] (fun _ => True) (fun _ => False) rfl rfl ?aP (fun _ hk => hk.elim) ?aF ?aO ?aB ?aS ?aL ?_;(case aP => exact rfl);(case aB => exact (by repeat (first|(with_reducible first|exact HB.out|apply bA|apply bN|apply bD)|exact HB.out)));(case aF => exact (fun _ _ => trivial));(case aO => exact (by exact rX HO_5.out));(case aS => exact (below_size (by repeat (first|(with_reducible first|exact HB.out|apply bA|apply bN|apply bD)|exact HB.out))));(case aL => have := LMc24.out;omega);intro v161 w25 ho hb hg hat;rw [← Ny160.out] at ho;have n0_ := mk0 (hb);have n1_ := mk0 (ho);clear HB;clear HO_5;have HB := n0_;have HO162 := n1_;clear n0_ n1_;clear ho hb hg hat))
      go_ret
      exact ⟨_,by first|rfl|(simp [errW_none,errW_some] <;> rfl)|(simp [*,errW_none,errW_some] <;> rfl),by refine rX ?_;exact HO162.out,by repeat (first|(with_reducible first|exact HB.out|apply bA|apply bN|apply bD)|exact HB.out)⟩
     ·rw [if_neg c24] at H
      exact absurd H (by simp)
end Go.Proofs.Ytmomablfmhkppaa.PFnExactSubA
