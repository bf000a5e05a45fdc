-- The functions of a law as plain Lean functions, each with its contract: written by a program of this session.
import Derived.Test.YtmmdgciefehbcaaDoorPFnExactExpTextx0
import Derived.Test.YtmmdgciefehbcaaDoorPFnExactExpTextx5
namespace Go.Proofs.YtmmdgciefehbcaaDoor.PFnExactExpText
open Go.RowKit Go.Proofs.YtmmdgciefehbcaaDoorW.PrintWords Go.Proofs.YtmmdgciefehbcaaDoorW.PrintLast Go.Proofs.YtmmdgciefehbcaaDoorW.PrintMore
attribute [local go_sem] max2_int min2_int max_two min_two max_three min_three max_four min_four   -- for this text's walks alone
set_option linter.unusedVariables false
set_option linter.unusedSimpArgs false

/-! ### impl_expText: function 14 -/
def impl_expText.f : Nat → Int → Int → ByteArray → List (S29) → Option (ByteArray)
 | 0, _, _, _, _ => none
 | k + 1, a0_0, a0_1, a0_2, l0_3 => if a0_0 = 1 then ((impl_NumText.f a0_1).bind fun t199 => (some t199)) else (if a0_0 = 2 then (some a0_2) else (if a0_0 = 3 then (if a0_2.size + 1 ≤ 9223372036854775807 then (if 0 < (l0_3.length : Int) then ((impl_expText.f k ((rd_T29 l0_3 0).f0) ((rd_T29 l0_3 0).f1) ((rd_T29 l0_3 0).f2) ((rd_T29 l0_3 0).f3)).bind fun t201 => (if (a0_2 ++ (⟨#[91]⟩ : ByteArray)).size + t201.size ≤ 9223372036854775807 then (if ((a0_2 ++ (⟨#[91]⟩ : ByteArray)) ++ t201).size + 1 ≤ 9223372036854775807 then (some (((a0_2 ++ (⟨#[91]⟩ : ByteArray)) ++ t201) ++ (⟨#[93]⟩ : ByteArray))) else (none)) else (none))) else (none)) else (none)) else (if 0 < (l0_3.length : Int) then ((impl_expText.f k ((rd_T29 l0_3 0).f0) ((rd_T29 l0_3 0).f1) ((rd_T29 l0_3 0).f2) ((rd_T29 l0_3 0).f3)).bind fun t203 => (if 1 < (l0_3.length : Int) then ((impl_expText.f k ((rd_T29 l0_3 1).f0) ((rd_T29 l0_3 1).f1) ((rd_T29 l0_3 1).f2) ((rd_T29 l0_3 1).f3)).bind fun t205 => (if a0_0 = 4 then (if t203.size + 3 ≤ 9223372036854775807 then ((impl_isSum.f ((rd_T29 l0_3 1).f0) ((rd_T29 l0_3 1).f1) ((rd_T29 l0_3 1).f2) ((rd_T29 l0_3 1).f3)).bind fun t207 => ((impl_within.f t205 t207).bind fun t208 => (if (t203 ++ (⟨#[32, 43, 32]⟩ : ByteArray)).size + t208.size ≤ 9223372036854775807 then (some ((t203 ++ (⟨#[32, 43, 32]⟩ : ByteArray)) ++ t208)) else (none)))) else (none)) else (if a0_0 = 5 then (if t203.size + 3 ≤ 9223372036854775807 then ((impl_isSum.f ((rd_T29 l0_3 1).f0) ((rd_T29 l0_3 1).f1) ((rd_T29 l0_3 1).f2) ((rd_T29 l0_3 1).f3)).bind fun t210 => ((impl_within.f t205 t210).bind fun t211 => (if (t203 ++ (⟨#[32, 45, 32]⟩ : ByteArray)).size + t211.size ≤ 9223372036854775807 then (some ((t203 ++ (⟨#[32, 45, 32]⟩ : ByteArray)) ++ t211)) else (none)))) else (none)) else (if a0_0 = 6 then ((impl_isSum.f ((rd_T29 l0_3 0).f0) ((rd_T29 l0_3 0).f1) ((rd_T29 l0_3 0).f2) ((rd_T29 l0_3 0).f3)).bind fun t213 => ((impl_within.f t203 t213).bind fun t214 => (if t214.size + 3 ≤ 9223372036854775807 then ((impl_isSum.f ((rd_T29 l0_3 1).f0) ((rd_T29 l0_3 1).f1) ((rd_T29 l0_3 1).f2) ((rd_T29 l0_3 1).f3)).bind fun t216 => (if t216 = true then ((impl_within.f t205 true).bind fun t217 => (if (t214 ++ (⟨#[32, 42, 32]⟩ : ByteArray)).size + t217.size ≤ 9223372036854775807 then (some ((t214 ++ (⟨#[32, 42, 32]⟩ : ByteArray)) ++ t217)) else (none))) else ((impl_within.f t205 (((rd_T29 l0_3 1).f0) == 6)).bind fun t219 => (if (t214 ++ (⟨#[32, 42, 32]⟩ : ByteArray)).size + t219.size ≤ 9223372036854775807 then (some ((t214 ++ (⟨#[32, 42, 32]⟩ : ByteArray)) ++ t219)) else (none))))) else (none)))) else (if a0_0 = 7 then (if 4 + t203.size ≤ 9223372036854775807 then (if ((⟨#[109, 105, 110, 40]⟩ : ByteArray) ++ t203).size + 2 ≤ 9223372036854775807 then (if (((⟨#[109, 105, 110, 40]⟩ : ByteArray) ++ t203) ++ (⟨#[44, 32]⟩ : ByteArray)).size + t205.size ≤ 9223372036854775807 then (if ((((⟨#[109, 105, 110, 40]⟩ : ByteArray) ++ t203) ++ (⟨#[44, 32]⟩ : ByteArray)) ++ t205).size + 1 ≤ 9223372036854775807 then (some (((((⟨#[109, 105, 110, 40]⟩ : ByteArray) ++ t203) ++ (⟨#[44, 32]⟩ : ByteArray)) ++ t205) ++ (⟨#[41]⟩ : ByteArray))) else (none)) else (none)) else (none)) else (none)) else (if 4 + t203.size ≤ 9223372036854775807 then (if ((⟨#[109, 97, 120, 40]⟩ : ByteArray) ++ t203).size + 2 ≤ 9223372036854775807 then (if (((⟨#[109, 97, 120, 40]⟩ : ByteArray) ++ t203) ++ (⟨#[44, 32]⟩ : ByteArray)).size + t205.size ≤ 9223372036854775807 then (if ((((⟨#[109, 97, 120, 40]⟩ : ByteArray) ++ t203) ++ (⟨#[44, 32]⟩ : ByteArray)) ++ t205).size + 1 ≤ 9223372036854775807 then (some (((((⟨#[109, 97, 120, 40]⟩ : ByteArray) ++ t203) ++ (⟨#[44, 32]⟩ : ByteArray)) ++ t205) ++ (⟨#[41]⟩ : ByteArray))) else (none)) else (none)) else (none)) else (none))))))) else (none))) else (none))))
theorem impl_expText.mono_l : ∀ k, (∀ y0 y1 y2 y3, LeO (impl_expText.f k y0 y1 y2 y3) (impl_expText.f (k + 1) y0 y1 y2 y3))
 | 0 => fun _ _ _ _ r h => by simp [impl_expText.f] at h
 | k + 1 => by
  have ih0 := impl_expText.mono_l k
  ·intro y0 y1 y2 y3
   unfold impl_expText.f
   repeat' first
   | (with_reducible exact ih0 _ _ _ _)
   | (with_reducible exact LeO.refl _)
   | (with_reducible exact LeO.none _)
   | (with_reducible refine LeO.ite ?_ ?_)
   | (with_reducible refine LeO.bind ?_ (fun _ => ?_))
   | exact ih0 _ _ _ _
   | exact LeO.none _
   | refine LeO.ite ?_ ?_
   | refine LeO.bind ?_ (fun _ => ?_)
theorem impl_expText.mono : ∀ a0 a1 a2 a3 k, LeO (impl_expText.f k a0 a1 a2 a3) (impl_expText.f (k + 1) a0 a1 a2 a3) := by
 intro a0 a1 a2 a3 k
 have ih0 := impl_expText.mono_l k
 exact ih0 a0 a1 a2 a3
def impl_expText.T7 : Bool × List (List Nat × List Nat) := (true, [([], []), ([0], [0]), ([1], [1]), ([], []), ([3], [3]), ([4], [4]), ([5], [5]), ([6], [6]), ([2, 7], [2, 7]), ([8], [8]), ([9, 7, 0, 1, 2, 3, 4, 5, 6, 7, 8, 9], [9])])
def impl_expText.B7 : List Nat := [0, 1, 3, 0, 8, 24, 56, 120, 255, 511, 1023]
theorem impl_expText.tab7 : rtab .any (opsOf Tryd.f14 7) = impl_expText.T7 := by kernel_rfl
theorem impl_expText.bits7 : waitsOk impl_expText.T7.2 impl_expText.B7 = true := by kernel_rfl
def impl_expText.T8 : Bool × List (List Nat × List Nat) := (true, [([], []), ([0], [0]), ([1], [1]), ([2], [2]), ([3], [3]), ([], []), ([5], [5]), ([6], [6]), ([7], [7]), ([8, 4], [8]), ([4, 9, 0, 1, 2, 3, 4], [4]), ([9, 10, 0, 1, 2, 3, 4, 5, 6, 7, 8, 9, 10], [9])])
def impl_expText.B8 : List Nat := [0, 1, 3, 7, 15, 0, 32, 96, 224, 511, 1023, 2047]
theorem impl_expText.tab8 : rtab .any (opsOf Tryd.f14 8) = impl_expText.T8 := by kernel_rfl
theorem impl_expText.bits8 : waitsOk impl_expText.T8.2 impl_expText.B8 = true := by kernel_rfl
def impl_expText.T15 : Bool × List (List Nat × List Nat) := (true, [([], []), ([], []), ([1], [1]), ([2], [2]), ([3], [3]), ([4], [4]), ([0, 5, 5], [0, 5]), ([6], [6]), ([], []), ([], []), ([9], [9]), ([10], [10]), ([11], [11]), ([12, 6], [12]), ([13, 13], [13]), ([14], [14]), ([15, 14], [14, 15]), ([16, 14], [14, 16]), ([17, 14], [14, 17]), ([18, 14], [14, 18]), ([19, 14], [14, 19]), ([14, 20], [14, 20]), ([8, 21, 14], [8, 21]), ([7, 22], [7, 22]), ([23, 22, 0, 1, 2, 3, 4, 5, 6, 7, 8, 9, 10, 11, 12, 13, 14, 15, 16, 17, 18, 19, 20, 21, 22, 23], [23])])
def impl_expText.B15 : List Nat := [0, 0, 2, 6, 14, 30, 63, 127, 0, 0, 512, 1536, 3584, 7807, 15999, 32383, 65151, 130687, 261759, 523903, 1048191, 2096767, 4194175, 8388607, 16777215]
theorem impl_expText.tab15 : rtab .any (opsOf Tryd.f14 15) = impl_expText.T15 := by kernel_rfl
theorem impl_expText.bits15 : waitsOk impl_expText.T15.2 impl_expText.B15 = true := by kernel_rfl
set_option maxHeartbeats 8000000 in
set_option maxRecDepth 100000 in
theorem impl_expText.calls (k : Nat) : ∀ (a0_0 : Int) (a0_1 : Int) (a0_2 : ByteArray) (A0_3 : Option Addr) (c0_3 : Nat) (l0_3 : List (S29)) (r : ByteArray) (w : World) (hT : TabW w) (hr0_3 : Kd.C k29 w A0_3 l0_3.length l0_3) (hc0_3 : l0_3.length ≤ c0_3) (h : impl_expText.f k a0_0 a0_1 a0_2 l0_3 = some r),
  Calls Tryd.prog 14 #[.agg #[.int .i64 a0_0, .int .i64 a0_1, .string a0_2, .slice A0_3 l0_3.length c0_3]] w fun e w' => e = .returned (.string r) ∧ Below w.heap.size w w' := by
 induction k using Nat.strongRecOn with
 |_ k ih =>
 intro a0_0 a0_1 a0_2 A0_3 c0_3 l0_3 r w hT hr0_3 hc0_3 h
 cases k with
 |zero => exact absurd h (by simp [impl_expText.f])
 |succ k =>
 simp only [impl_expText.f] at h
 have hu29 := Tryd.underlying29
 have HR0_3 := mk0 hr0_3
 have HC0_3 := mk0 hc0_3
 clear hr0_3 hc0_3
 have HB := mk0 (Below.refl w.heap.size w)
 have HT := mk0 hT
 clear hT
 have H : (if a0_0 = 1 then ((impl_NumText.f a0_1).bind fun t199 => (some t199)) else (if a0_0 = 2 then (some a0_2) else (if a0_0 = 3 then (if a0_2.size + 1 ≤ 9223372036854775807 then (if 0 < (l0_3.length : Int) then ((impl_expText.f k ((rd_T29 l0_3 0).f0) ((rd_T29 l0_3 0).f1) ((rd_T29 l0_3 0).f2) ((rd_T29 l0_3 0).f3)).bind fun t201 => (if (a0_2 ++ (⟨#[91]⟩ : ByteArray)).size + t201.size ≤ 9223372036854775807 then (if ((a0_2 ++ (⟨#[91]⟩ : ByteArray)) ++ t201).size + 1 ≤ 9223372036854775807 then (some (((a0_2 ++ (⟨#[91]⟩ : ByteArray)) ++ t201) ++ (⟨#[93]⟩ : ByteArray))) else (none)) else (none))) else (none)) else (none)) else (if 0 < (l0_3.length : Int) then ((impl_expText.f k ((rd_T29 l0_3 0).f0) ((rd_T29 l0_3 0).f1) ((rd_T29 l0_3 0).f2) ((rd_T29 l0_3 0).f3)).bind fun t203 => (if 1 < (l0_3.length : Int) then ((impl_expText.f k ((rd_T29 l0_3 1).f0) ((rd_T29 l0_3 1).f1) ((rd_T29 l0_3 1).f2) ((rd_T29 l0_3 1).f3)).bind fun t205 => (if a0_0 = 4 then (if t203.size + 3 ≤ 9223372036854775807 then ((impl_isSum.f ((rd_T29 l0_3 1).f0) ((rd_T29 l0_3 1).f1) ((rd_T29 l0_3 1).f2) ((rd_T29 l0_3 1).f3)).bind fun t207 => ((impl_within.f t205 t207).bind fun t208 => (if (t203 ++ (⟨#[32,43,32]⟩ : ByteArray)).size + t208.size ≤ 9223372036854775807 then (some ((t203 ++ (⟨#[32,43,32]⟩ : ByteArray)) ++ t208)) else (none)))) else (none)) else (if a0_0 = 5 then (if t203.size + 3 ≤ 9223372036854775807 then ((impl_isSum.f ((rd_T29 l0_3 1).f0) ((rd_T29 l0_3 1).f1) ((rd_T29 l0_3 1).f2) ((rd_T29 l0_3 1).f3)).bind fun t210 => ((impl_within.f t205 t210).bind fun t211 => (if (t203 ++ (⟨#[32,45,32]⟩ : ByteArray)).size + t211.size ≤ 9223372036854775807 then (some ((t203 ++ (⟨#[32,45,32]⟩ : ByteArray)) ++ t211)) else (none)))) else (none)) else (if a0_0 = 6 then ((impl_isSum.f ((rd_T29 l0_3 0).f0) ((rd_T29 l0_3 0).f1) ((rd_T29 l0_3 0).f2) ((rd_T29 l0_3 0).f3)).bind fun t213 => ((impl_within.f t203 t213).bind fun t214 => (if t214.size + 3 ≤ 9223372036854775807 then ((impl_isSum.f ((rd_T29 l0_3 1).f0) ((rd_T29 l0_3 1).f1) ((rd_T29 l0_3 1).f2) ((rd_T29 l0_3 1).f3)).bind fun t216 => (if t216 = true then ((impl_within.f t205 true).bind fun t217 => (if (t214 ++ (⟨#[32,42,32]⟩ : ByteArray)).size + t217.size ≤ 9223372036854775807 then (some ((t214 ++ (⟨#[32,42,32]⟩ : ByteArray)) ++ t217)) else (none))) else ((impl_within.f t205 (((rd_T29 l0_3 1).f0) == 6)).bind fun t219 => (if (t214 ++ (⟨#[32,42,32]⟩ : ByteArray)).size + t219.size ≤ 9223372036854775807 then (some ((t214 ++ (⟨#[32,42,32]⟩ : ByteArray)) ++ t219)) else (none))))) else (none)))) else (if a0_0 = 7 then (if 4 + t203.size ≤ 9223372036854775807 then (if ((⟨#[109,105,110,40]⟩ : ByteArray) ++ t203).size + 2 ≤ 9223372036854775807 then (if (((⟨#[109,105,110,40]⟩ : ByteArray) ++ t203) ++ (⟨#[44,32]⟩ : ByteArray)).size + t205.size ≤ 9223372036854775807 then (if ((((⟨#[109,105,110,40]⟩ : ByteArray) ++ t203) ++ (⟨#[44,32]⟩ : ByteArray)) ++ t205).size + 1 ≤ 9223372036854775807 then (some (((((⟨#[109,105,110,40]⟩ : ByteArray) ++ t203) ++ (⟨#[44,32]⟩ : ByteArray)) ++ t205) ++ (⟨#[41]⟩ : ByteArray))) else (none)) else (none)) else (none)) else (none)) else (if 4 + t203.size ≤ 9223372036854775807 then (if ((⟨#[109,97,120,40]⟩ : ByteArray) ++ t203).size + 2 ≤ 9223372036854775807 then (if (((⟨#[109,97,120,40]⟩ : ByteArray) ++ t203) ++ (⟨#[44,32]⟩ : ByteArray)).size + t205.size ≤ 9223372036854775807 then (if ((((⟨#[109,97,120,40]⟩ : ByteArray) ++ t203) ++ (⟨#[44,32]⟩ : ByteArray)) ++ t205).size + 1 ≤ 9223372036854775807 then (some (((((⟨#[109,97,120,40]⟩ : ByteArray) ++ t203) ++ (⟨#[44,32]⟩ : ByteArray)) ++ t205) ++ (⟨#[41]⟩ : ByteArray))) else (none)) else (none)) else (none)) else (none))))))) else (none))) else (none))))) = some r := h
 clear h
 refine Or.elim (Classical.em (a0_0 = 1)) (fun c2 => ?yes18) (fun c2 => ?no18)
 case' yes18 =>
  rw [if_pos c2] at H
  have c2b0 : (a0_0 == 1) = true := beq_iff_eq.mpr c2
  have c2b1 : (a0_0 != 1) = false := bne_eq_false_iff_eq.mpr c2
  clear c2
  obtain ⟨t199,A3,H⟩ := bindA H
  obtain rfl := Option.some.inj H
 case' no18 =>
  rw [if_neg c2] at H
  have c2b0 : (a0_0 == 1) = false := beq_eq_false_iff_ne.mpr c2
  have c2b1 : (a0_0 != 1) = true := bne_iff_ne.mpr c2
  refine Or.elim (Classical.em (a0_0 = 2)) (fun c7 => ?yes19) (fun c7 => ?no19)
  case' yes19 =>
   rw [if_pos c7] at H
   have c7b0 : (a0_0 == 2) = true := beq_iff_eq.mpr c7
   have c7b1 : (a0_0 != 2) = false := bne_eq_false_iff_eq.mpr c7
   clear c7
   obtain rfl := Option.some.inj H
  case' no19 =>
   rw [if_neg c7] at H
   have c7b0 : (a0_0 == 2) = false := beq_eq_false_iff_ne.mpr c7
   have c7b1 : (a0_0 != 2) = true := bne_iff_ne.mpr c7
   by_cases c10 : a0_0 = 3
   ·rw [if_pos c10] at H
    have c10b0 : (a0_0 == 3) = true := beq_iff_eq.mpr c10
    have c10b1 : (a0_0 != 3) = false := bne_eq_false_iff_eq.mpr c10
    clear c10
    by_cases c11 : a0_2.size + 1 ≤ 9223372036854775807
    ·rw [if_pos c11] at H
     have c11b0 := eq_true c11
     have c11b1 : decide (a0_2.size + 1 ≤ 9223372036854775807) = true := decide_eq_true c11
     try have c11b2 : (9223372036854775807 < a0_2.size + 1) = False := eq_false (Nat.not_lt.2 c11)
     by_cases c12 : 0 < (l0_3.length : Int)
     ·rw [if_pos c12] at H
      have c12b0 : decide (0 < (l0_3.length : Int)) = true := decide_eq_true c12
      have c12b1 : decide (0 < l0_3.length) = true := decide_eq_true (by omega)
      clear c12
      obtain ⟨t201,A13,H⟩ := bindA H
      by_cases c14 : (a0_2 ++ (⟨#[91]⟩ : ByteArray)).size + t201.size ≤ 9223372036854775807
      ·rw [if_pos c14] at H
       have c14b0 := eq_true c14
       have c14b1 : decide ((a0_2 ++ (⟨#[91]⟩ : ByteArray)).size + t201.size ≤ 9223372036854775807) = true := decide_eq_true c14
       try have c14b2 : (9223372036854775807 < (a0_2 ++ (⟨#[91]⟩ : ByteArray)).size + t201.size) = False := eq_false (Nat.not_lt.2 c14)
       try have c14b9 : (9223372036854775807 < a0_2.size + 1 + t201.size) = False := eq_false (by have q_ := c14;simp only [ByteArray.size_append] at q_;have z0_ : (⟨#[91]⟩ : ByteArray).size = 1 := rfl;omega)
       by_cases c15 : ((a0_2 ++ (⟨#[91]⟩ : ByteArray)) ++ t201).size + 1 ≤ 9223372036854775807
       ·rw [if_pos c15] at H
        have c15b0 := eq_true c15
        have c15b1 : decide (((a0_2 ++ (⟨#[91]⟩ : ByteArray)) ++ t201).size + 1 ≤ 9223372036854775807) = true := decide_eq_true c15
        try have c15b2 : (9223372036854775807 < ((a0_2 ++ (⟨#[91]⟩ : ByteArray)) ++ t201).size + 1) = False := eq_false (Nat.not_lt.2 c15)
        try have c15b9 : (9223372036854775807 < a0_2.size + 1 + t201.size + 1) = False := eq_false (by have q_ := c15;simp only [ByteArray.size_append] at q_;have z0_ : (⟨#[91]⟩ : ByteArray).size = 1 := rfl;omega)
        obtain rfl := Option.some.inj H
        go_enter Tryd.func14,Tryd.ntmps14
        try go_wp2_with (first|((with_reducible refine gate_dst (N := 1) rfl ?_);refine box_event ?hg (N := 1) ?hd (cs := #[.int .i64 a0_0,.int .i64 a0_1,.string a0_2,.slice A0_3 l0_3.length c0_3]) (t := 29) ?hr ?_;(case hd => rfl);(case hg => rfl);(case hr => first|(go_simp;done)|(go_simp;rfl));intro gb198 hg w16 hbox hb;have q_ := qB (by repeat (first|(with_reducible first|exact HB.out|apply bA|apply bN|apply bD)|exact HB.out)) hb;have n0_ := mk0 (below_step q_ hb);have n1_ := mk0 (hbox);have n2_ := mk0 (below_size2 q_ hg);have n3_ := n2_;clear HB;have HB := n0_;have BK198 := n1_;have GW198 := n2_;have GE198 := n3_;clear q_ n0_ n1_ n2_ n3_ hb hbox hg;have z17 := bc4 BK198.out))
        have n0_ := mk0 (kD BK198.out)
        have n1_ := mk0 (bD HB.out)
        clear BK198
        clear HB
        have BK198 := n0_
        have HB := n1_
        clear n0_ n1_
        have p200 : 0 ≤ (0 : Int) := (by omega)
        have q200 : 0 < (l0_3.length : Int) := of_decide_eq_true (by first|(with_reducible assumption)|assumption)
        obtain ⟨ad200,A200_3,c200_3,e200,hx200_0,hx200_1,hx200_2,hx200_3,hl200_3,hi200_3⟩ := at_T29 HR0_3.out 0 p200 q200
        have hw200_3 := hx200_3
        (try rw [show ((0 : Int)).toNat = 0 from rfl] at hw200_3)
        (try rw [show 0 * 4 = 0 from rfl] at hw200_3)
        (try rw [Addr.add_zero'] at hw200_3)
        have hw200_2 := hx200_2
        (try rw [show ((0 : Int)).toNat = 0 from rfl] at hw200_2)
        (try rw [show 0 * 4 = 0 from rfl] at hw200_2)
        (try rw [Addr.add_zero'] at hw200_2)
        have hw200_1 := hx200_1
        (try rw [show ((0 : Int)).toNat = 0 from rfl] at hw200_1)
        (try rw [show 0 * 4 = 0 from rfl] at hw200_1)
        (try rw [Addr.add_zero'] at hw200_1)
        have hw200_0 := hx200_0
        (try rw [show ((0 : Int)).toNat = 0 from rfl] at hw200_0)
        (try rw [show 0 * 4 = 0 from rfl] at hw200_0)
        (try rw [Addr.add_zero'] at hw200_0)
        cases e200
        have qi200 : (0 < l0_3.length) = True := eq_true (by omega)
        (try rw [show ((0 : Int)).toNat = 0 from rfl] at hx200_0)
        (try rw [show 0 * 4 = 0 from rfl] at hx200_0)
        (try rw [Addr.add_zero'] at hx200_0)
        (try rw [show ((0 : Int)).toNat = 0 from rfl] at hx200_1)
        (try rw [show 0 * 4 = 0 from rfl] at hx200_1)
        (try rw [Addr.add_zero'] at hx200_1)
        (try rw [show ((0 : Int)).toNat = 0 from rfl] at hx200_2)
        (try rw [show 0 * 4 = 0 from rfl] at hx200_2)
        (try rw [Addr.add_zero'] at hx200_2)
        (try rw [show ((0 : Int)).toNat = 0 from rfl] at hx200_3)
        (try rw [show 0 * 4 = 0 from rfl] at hx200_3)
        (try rw [Addr.add_zero'] at hx200_3)
        replace hx200_0 := hbc HB.out hx200_0
        replace hx200_1 := hbc HB.out hx200_1
        replace hx200_2 := hbc HB.out hx200_2
        replace hx200_3 := hbc HB.out hx200_3
        have HR200_3 := mk0 hi200_3
        have HC200_3 := mk0 hl200_3
        clear hi200_3 hl200_3
        replace p200 := eq_true p200
        replace q200 := eq_true q200
        refine start_ (n := 11) (S := fun w' => w'.cell? ⟨gb198,0,none⟩ = some (.int .i64 a0_0) ∧ w'.cell? ⟨gb198,1,none⟩ = some (.int .i64 a0_1) ∧ w'.cell? ⟨gb198,2,none⟩ = some (.string a0_2) ∧ w'.cell? ⟨gb198,3,none⟩ = some (.slice (some ad200) l0_3.length c0_3) ∧ w'.cell? ad200 = some (.int .i64 ((rd_T29 l0_3 0).f0)) ∧ w'.cell? ⟨ad200.block,ad200.off + 1,none⟩ = some (.int .i64 ((rd_T29 l0_3 0).f1)) ∧ w'.cell? ⟨ad200.block,ad200.off + 2,none⟩ = some (.string ((rd_T29 l0_3 0).f2)) ∧ w'.cell? ⟨ad200.block,ad200.off + 3,none⟩ = some (.slice A200_3 ((rd_T29 l0_3 0).f3).length c200_3)) (ds := []) #[false,false,false,false,false,false,false,false,false,false,false] (by kernel_rfl) rfl rfl ⟨(blk_cell BK198.out 0).trans rfl,(blk_cell BK198.out 1).trans rfl,(blk_cell BK198.out 2).trans rfl,(blk_cell BK198.out 3).trans rfl,((HB.out.cell (World.block_lt_of_cell? w _ hw200_0)).trans hw200_0),((HB.out.cell (World.block_lt_of_cell? w _ hw200_1)).trans hw200_1),((HB.out.cell (World.block_lt_of_cell? w _ hw200_2)).trans hw200_2),((HB.out.cell (World.block_lt_of_cell? w _ hw200_3)).trans hw200_3)⟩ (fun hHeld => ?_);refine with_tabW impl_expText.tab7 impl_expText.bits7 (fun HT_ HW_ => ?_)
        generalize w16.drew = w18 at BK198 HB HR200_3 hx200_0 hx200_1 hx200_2 hx200_3 hHeld ⊢
        refine pure_ (i := 0) (N := some 18) (v := ?_) (a' := ?_) #[true,false,false,false,false,false,false,false,false,false,false] rfl rfl (any_of HT_.out (by kernel_rfl)) (fun _ _ _ h => h) (Or.inl ⟨by rfl,?_⟩) ?_ ?_
        rotate_left
        ·intro w'
         go_simp
         with_reducible rfl
        rotate_left
        ·simp only [Act.put,List.setIfInBounds_toArray,List.set_cons_zero,List.set_cons_succ,i64_w,i32_w]
         rfl
        refine pure_ (i := 3) (N := some 21) (v := ?_) (a' := ?_) #[true,false,false,true,false,false,false,false,false,false,false] rfl rfl (any_of HT_.out (by kernel_rfl)) (fun _ _ _ h => h) (Or.inl ⟨by rfl,?_⟩) ?_ ?_
        rotate_left
        ·intro w'
         go_simp
         with_reducible rfl
        rotate_left
        ·simp only [Act.put,List.setIfInBounds_toArray,List.set_cons_zero,List.set_cons_succ,i64_w,i32_w]
         rfl
        refine take_ (i := 1) (N := some 19) (v := ?_) (a' := ?_) #[true,true,false,true,false,false,false,false,false,false,false] rfl rfl (take_ofW HT_.out HW_.out (by kernel_rfl)) (fun _ _ _ h => h) (Or.inl ⟨by rfl,?_⟩) hHeld ?_ ?_
        rotate_left
        ·rintro w' ⟨s0,s1,s2,s3,s4,s5,s6,s7⟩
         go_simp
         with_reducible rfl
        rotate_left
        ·simp only [Act.put,List.setIfInBounds_toArray,List.set_cons_zero,List.set_cons_succ,i64_w,i32_w]
         rfl
        refine pure_ (i := 2) (N := some 20) (v := ?_) (a' := ?_) #[true,true,true,true,false,false,false,false,false,false,false] rfl rfl (any_of HT_.out (by kernel_rfl)) (fun _ _ _ h => h) (Or.inl ⟨by rfl,?_⟩) ?_ ?_
        rotate_left
        ·intro w'
         go_simp
         with_reducible rfl
        rotate_left
        ·simp only [Act.put,List.setIfInBounds_toArray,List.set_cons_zero,List.set_cons_succ,i64_w,i32_w]
         rfl
        refine take_ (i := 4) (N := some 22) (v := ?_) (a' := ?_) #[true,true,true,true,true,false,false,false,false,false,false] rfl rfl (take_ofW HT_.out HW_.out (by kernel_rfl)) (fun _ _ _ h => h) (Or.inl ⟨by rfl,?_⟩) hHeld ?_ ?_
        rotate_left
        ·rintro w' ⟨s0,s1,s2,s3,s4,s5,s6,s7⟩
         go_simp
         with_reducible rfl
        rotate_left
        ·simp only [Act.put,List.setIfInBounds_toArray,List.set_cons_zero,List.set_cons_succ,i64_w,i32_w]
         rfl
        refine pure_ (i := 5) (N := some 23) (v := ?_) (a' := ?_) #[true,true,true,true,true,true,false,false,false,false,false] rfl rfl (any_of HT_.out (by kernel_rfl)) (fun _ _ _ h => h) (Or.inl ⟨by rfl,?_⟩) ?_ ?_
        rotate_left
        ·intro w'
         go_simp
         with_reducible rfl
        rotate_left
        ·simp only [Act.put,List.setIfInBounds_toArray,List.set_cons_zero,List.set_cons_succ,i64_w,i32_w]
         rfl
        refine take_ (i := 6) (N := some 24) (v := ?_) (a' := ?_) #[true,true,true,true,true,true,true,false,false,false,false] rfl rfl (take_ofW HT_.out HW_.out (by kernel_rfl)) (fun _ _ _ h => h) (Or.inl ⟨by rfl,?_⟩) hHeld ?_ ?_
        rotate_left
        ·rintro w' ⟨s0,s1,s2,s3,s4,s5,s6,s7⟩
         go_simp
         with_reducible rfl
        rotate_left
        ·simp only [Act.put,List.setIfInBounds_toArray,List.set_cons_zero,List.set_cons_succ,i64_w,i32_w]
         rfl
        refine one_ (i := 7) (N := some 25) #[true,true,true,true,true,true,true,true,false,false,false] rfl rfl (one_of HT_.out (by kernel_rfl)) (by decide) (fun K hK => ?_)
        refine goes_ Tryd.func14 (by kernel_rfl) rfl #[.agg #[.int .i64 ((rd_T29 l0_3 0).f0),.int .i64 ((rd_T29 l0_3 0).f1),.string ((rd_T29 l0_3 0).f2),.slice A200_3 ((rd_T29 l0_3 0).f3).length c200_3]] (by rfl) rfl rfl (by (try simp only [List.map_toArray,List.map_cons,List.map_nil]);first|done|rfl) ?_
        with_reducible refine (ih k (by omega) ((rd_T29 l0_3 0).f0) ((rd_T29 l0_3 0).f1) ((rd_T29 l0_3 0).f2) _ _ ((rd_T29 l0_3 0).f3) t201 _ ?hT_ ?side1 ?side2 A13.out).mono ?_
        (case hT_ => exact tabB HT.out (by repeat (first|(with_reducible first|exact HB.out|apply bA|apply bN|apply bD|refine bS ?_ GE198.out)|exact HB.out)))
        (case side1 => repeat (first|exact (Kd.C_below HR200_3.out HB.out)|(with_reducible refine cA ?_ _)|(with_reducible refine cN ?_ _)|(with_reducible refine cD ?_)))
        (case side2 => exact HC200_3.out)
        rintro e w19 ⟨rfl,hb⟩
        refine ⟨_,rfl,?_⟩
        have n0_ := mk0 (blk_below (by exact kX BK198.out) hb)
        have n1_ := mk0 (below_step (by repeat (first|(with_reducible first|exact HB.out|apply bA|apply bN|apply bD|refine bS ?_ GE198.out)|exact HB.out)) hb)
        clear BK198
        clear HB
        have BK198 := n0_
        have HB := n1_
        clear n0_ n1_
        (try clear hb)
        (try clear hb2)
        (try clear hk)
        (try clear hi)
        refine hK.out _ _ ⟨(blk_cell BK198.out 0).trans rfl,(blk_cell BK198.out 1).trans rfl,(blk_cell BK198.out 2).trans rfl,(blk_cell BK198.out 3).trans rfl,((HB.out.cell (World.block_lt_of_cell? w _ hw200_0)).trans hw200_0),((HB.out.cell (World.block_lt_of_cell? w _ hw200_1)).trans hw200_1),((HB.out.cell (World.block_lt_of_cell? w _ hw200_2)).trans hw200_2),((HB.out.cell (World.block_lt_of_cell? w _ hw200_3)).trans hw200_3)⟩ (fun hHeld => ?_)
        clear hK K
        refine norm_ (a' := ?_) ?_ ?_
        rotate_left
        ·show Act.put _ (some 25) _ = _
         simp only [Act.put,List.setIfInBounds_toArray,List.set_cons_zero,List.set_cons_succ,i64_w,i32_w]
         rfl
        refine pure_ (i := 8) (N := some 26) (v := ?_) (a' := ?_) #[true,true,true,true,true,true,true,true,true,false,false] rfl rfl (any_of HT_.out (by kernel_rfl)) (fun _ _ _ h => h) (Or.inl ⟨by rfl,?_⟩) ?_ ?_
        rotate_left
        ·intro w'
         go_simp
         with_reducible rfl
        rotate_left
        ·simp only [Act.put,List.setIfInBounds_toArray,List.set_cons_zero,List.set_cons_succ,i64_w,i32_w]
         rfl
        refine pure_ (i := 9) (N := some 27) (v := ?_) (a' := ?_) #[true,true,true,true,true,true,true,true,true,true,false] rfl rfl (any_of HT_.out (by kernel_rfl)) (fun _ _ _ h => h) (Or.inl ⟨by rfl,?_⟩) ?_ ?_
        rotate_left
        ·intro w'
         go_simp
         with_reducible rfl
        rotate_left
        ·simp only [Act.put,List.setIfInBounds_toArray,List.set_cons_zero,List.set_cons_succ,i64_w,i32_w]
         rfl
        refine pure_ (i := 10) (N := some 2) (v := ?_) (a' := ?_) #[true,true,true,true,true,true,true,true,true,true,true] rfl rfl (any_of HT_.out (by kernel_rfl)) (fun _ _ _ h => h) (Or.inl ⟨by rfl,?_⟩) ?_ ?_
        rotate_left
        ·intro w'
         go_simp
         with_reducible rfl
        rotate_left
        ·simp only [Act.put,List.setIfInBounds_toArray,List.set_cons_zero,List.set_cons_succ,i64_w,i32_w]
         rfl
        refine done_ (done_of HT_.out (by kernel_rfl)) ?_
        try go_wp2
        go_ret
        exact ⟨by first|rfl|(simp [errW_none,errW_some] <;> rfl)|(simp [*,errW_none,errW_some] <;> rfl),by repeat (first|(with_reducible first|exact HB.out|apply bA|apply bN|apply bD|refine bS ?_ GE198.out)|exact HB.out)⟩
       ·rw [if_neg c15] at H
        exact absurd H (by simp)
      ·rw [if_neg c14] at H
       exact absurd H (by simp)
     ·rw [if_neg c12] at H
      exact absurd H (by simp)
    ·rw [if_neg c11] at H
     exact absurd H (by simp)
   ·rw [if_neg c10] at H
    have c10b0 : (a0_0 == 3) = false := beq_eq_false_iff_ne.mpr c10
    have c10b1 : (a0_0 != 3) = true := bne_iff_ne.mpr c10
    by_cases c20 : 0 < (l0_3.length : Int)
    ·rw [if_pos c20] at H
     have c20b0 : decide (0 < (l0_3.length : Int)) = true := decide_eq_true c20
     have c20b1 : decide (0 < l0_3.length) = true := decide_eq_true (by omega)
     clear c20
     obtain ⟨t203,A21,H⟩ := bindA H
     by_cases c22 : 1 < (l0_3.length : Int)
     ·rw [if_pos c22] at H
      have c22b0 : decide (1 < (l0_3.length : Int)) = true := decide_eq_true c22
      have c22b1 : decide (1 < l0_3.length) = true := decide_eq_true (by omega)
      clear c22
      obtain ⟨t205,A23,H⟩ := bindA H
      by_cases c24 : a0_0 = 4
      ·rw [if_pos c24] at H
       have c24b0 : (a0_0 == 4) = true := beq_iff_eq.mpr c24
       have c24b1 : (a0_0 != 4) = false := bne_eq_false_iff_eq.mpr c24
       clear c24
       by_cases c25 : t203.size + 3 ≤ 9223372036854775807
       ·rw [if_pos c25] at H
        have c25b0 := eq_true c25
        have c25b1 : decide (t203.size + 3 ≤ 9223372036854775807) = true := decide_eq_true c25
        try have c25b2 : (9223372036854775807 < t203.size + 3) = False := eq_false (Nat.not_lt.2 c25)
        obtain ⟨t207,A26,H⟩ := bindA H
        obtain ⟨t208,A27,H⟩ := bindA H
        by_cases c28 : (t203 ++ (⟨#[32,43,32]⟩ : ByteArray)).size + t208.size ≤ 9223372036854775807
        ·rw [if_pos c28] at H
         have c28b0 := eq_true c28
         have c28b1 : decide ((t203 ++ (⟨#[32,43,32]⟩ : ByteArray)).size + t208.size ≤ 9223372036854775807) = true := decide_eq_true c28
         try have c28b2 : (9223372036854775807 < (t203 ++ (⟨#[32,43,32]⟩ : ByteArray)).size + t208.size) = False := eq_false (Nat.not_lt.2 c28)
         try have c28b9 : (9223372036854775807 < t203.size + 3 + t208.size) = False := eq_false (by have q_ := c28;simp only [ByteArray.size_append] at q_;have z0_ : (⟨#[32,43,32]⟩ : ByteArray).size = 3 := rfl;omega)
         obtain rfl := Option.some.inj H
         go_enter Tryd.func14,Tryd.ntmps14
         try go_wp2_with (first|((with_reducible refine gate_dst (N := 1) rfl ?_);refine box_event ?hg (N := 1) ?hd (cs := #[.int .i64 a0_0,.int .i64 a0_1,.string a0_2,.slice A0_3 l0_3.length c0_3]) (t := 29) ?hr ?_;(case hd => rfl);(case hg => rfl);(case hr => first|(go_simp;done)|(go_simp;rfl));intro gb198 hg w29 hbox hb;have q_ := qB (by repeat (first|(with_reducible first|exact HB.out|apply bA|apply bN|apply bD)|exact HB.out)) hb;have n0_ := mk0 (below_step q_ hb);have n1_ := mk0 (hbox);have n2_ := mk0 (below_size2 q_ hg);have n3_ := n2_;clear HB;have HB := n0_;have BK198 := n1_;have GW198 := n2_;have GE198 := n3_;clear q_ n0_ n1_ n2_ n3_ hb hbox hg;have z30 := bc4 BK198.out))
         have n0_ := mk0 (kD BK198.out)
         have n1_ := mk0 (bD HB.out)
         clear BK198
         clear HB
         have BK198 := n0_
         have HB := n1_
         clear n0_ n1_
         have p202 : 0 ≤ (0 : Int) := (by omega)
         have q202 : 0 < (l0_3.length : Int) := of_decide_eq_true (by first|(with_reducible assumption)|assumption)
         obtain ⟨ad202,A202_3,c202_3,e202,hx202_0,hx202_1,hx202_2,hx202_3,hl202_3,hi202_3⟩ := at_T29 HR0_3.out 0 p202 q202
         have hw202_3 := hx202_3
         (try rw [show ((0 : Int)).toNat = 0 from rfl] at hw202_3)
         (try rw [show 0 * 4 = 0 from rfl] at hw202_3)
         (try rw [Addr.add_zero'] at hw202_3)
         have hw202_2 := hx202_2
         (try rw [show ((0 : Int)).toNat = 0 from rfl] at hw202_2)
         (try rw [show 0 * 4 = 0 from rfl] at hw202_2)
         (try rw [Addr.add_zero'] at hw202_2)
         have hw202_1 := hx202_1
         (try rw [show ((0 : Int)).toNat = 0 from rfl] at hw202_1)
         (try rw [show 0 * 4 = 0 from rfl] at hw202_1)
         (try rw [Addr.add_zero'] at hw202_1)
         have hw202_0 := hx202_0
         (try rw [show ((0 : Int)).toNat = 0 from rfl] at hw202_0)
         (try rw [show 0 * 4 = 0 from rfl] at hw202_0)
         (try rw [Addr.add_zero'] at hw202_0)
         cases e202
         have qi202 : (0 < l0_3.length) = True := eq_true (by omega)
         (try rw [show ((0 : Int)).toNat = 0 from rfl] at hx202_0)
         (try rw [show 0 * 4 = 0 from rfl] at hx202_0)
         (try rw [Addr.add_zero'] at hx202_0)
         (try rw [show ((0 : Int)).toNat = 0 from rfl] at hx202_1)
         (try rw [show 0 * 4 = 0 from rfl] at hx202_1)
         (try rw [Addr.add_zero'] at hx202_1)
         (try rw [show ((0 : Int)).toNat = 0 from rfl] at hx202_2)
         (try rw [show 0 * 4 = 0 from rfl] at hx202_2)
         (try rw [Addr.add_zero'] at hx202_2)
         (try rw [show ((0 : Int)).toNat = 0 from rfl] at hx202_3)
         (try rw [show 0 * 4 = 0 from rfl] at hx202_3)
         (try rw [Addr.add_zero'] at hx202_3)
         replace hx202_0 := hbc HB.out hx202_0
         replace hx202_1 := hbc HB.out hx202_1
         replace hx202_2 := hbc HB.out hx202_2
         replace hx202_3 := hbc HB.out hx202_3
         have HR202_3 := mk0 hi202_3
         have HC202_3 := mk0 hl202_3
         clear hi202_3 hl202_3
         replace p202 := eq_true p202
         replace q202 := eq_true q202
         have p204 : 0 ≤ (1 : Int) := (by omega)
         have q204 : 1 < (l0_3.length : Int) := of_decide_eq_true (by first|(with_reducible assumption)|assumption)
         obtain ⟨ad204,A204_3,c204_3,e204,hx204_0,hx204_1,hx204_2,hx204_3,hl204_3,hi204_3⟩ := at_T29 HR0_3.out 1 p204 q204
         have hw204_3 := hx204_3
         (try rw [show ((1 : Int)).toNat = 1 from rfl] at hw204_3)
         (try rw [show 1 * 4 = 4 from rfl] at hw204_3)
         (try simp only [Nat.reduceMul,Nat.reduceEqDiff,Go.Addr.add,↓reduceIte] at hw204_3)
         have hw204_2 := hx204_2
         (try rw [show ((1 : Int)).toNat = 1 from rfl] at hw204_2)
         (try rw [show 1 * 4 = 4 from rfl] at hw204_2)
         (try simp only [Nat.reduceMul,Nat.reduceEqDiff,Go.Addr.add,↓reduceIte] at hw204_2)
         have hw204_1 := hx204_1
         (try rw [show ((1 : Int)).toNat = 1 from rfl] at hw204_1)
         (try rw [show 1 * 4 = 4 from rfl] at hw204_1)
         (try simp only [Nat.reduceMul,Nat.reduceEqDiff,Go.Addr.add,↓reduceIte] at hw204_1)
         have hw204_0 := hx204_0
         (try rw [show ((1 : Int)).toNat = 1 from rfl] at hw204_0)
         (try rw [show 1 * 4 = 4 from rfl] at hw204_0)
         (try simp only [Nat.reduceMul,Nat.reduceEqDiff,Go.Addr.add,↓reduceIte] at hw204_0)
         obtain rfl : ad202 = ad204 := (by injection e204)
         (try simp only [show (1 : Int).toNat = 1 from rfl,Nat.reduceMul,Nat.reduceEqDiff,Go.Addr.add,↓reduceIte] at hx204_0)
         (try simp only [show (1 : Int).toNat = 1 from rfl,Nat.reduceMul,Nat.reduceEqDiff,Go.Addr.add,↓reduceIte] at hx204_1)
         (try simp only [show (1 : Int).toNat = 1 from rfl,Nat.reduceMul,Nat.reduceEqDiff,Go.Addr.add,↓reduceIte] at hx204_2)
         (try simp only [show (1 : Int).toNat = 1 from rfl,Nat.reduceMul,Nat.reduceEqDiff,Go.Addr.add,↓reduceIte] at hx204_3)
         have qi204 : (1 < l0_3.length) = True := eq_true (by omega)
         (try rw [show ((1 : Int)).toNat = 1 from rfl] at hx204_0)
         (try rw [show 1 * 4 = 4 from rfl] at hx204_0)
         (try rw [show ((1 : Int)).toNat = 1 from rfl] at hx204_1)
         (try rw [show 1 * 4 = 4 from rfl] at hx204_1)
         (try rw [show ((1 : Int)).toNat = 1 from rfl] at hx204_2)
         (try rw [show 1 * 4 = 4 from rfl] at hx204_2)
         (try rw [show ((1 : Int)).toNat = 1 from rfl] at hx204_3)
         (try rw [show 1 * 4 = 4 from rfl] at hx204_3)
         replace hx204_0 := hbc HB.out hx204_0
         replace hx204_1 := hbc HB.out hx204_1
         replace hx204_2 := hbc HB.out hx204_2
         have hq204_3 := hx204_3
         replace hx204_3 := hbc HB.out hx204_3
         have HR204_3 := mk0 hi204_3
         have HC204_3 := mk0 hl204_3
         clear hi204_3 hl204_3
         replace p204 := eq_true p204
         replace q204 := eq_true q204
         refine start_ (n := 12) (S := fun w' => w'.cell? ⟨gb198,0,none⟩ = some (.int .i64 a0_0) ∧ w'.cell? ⟨gb198,1,none⟩ = some (.int .i64 a0_1) ∧ w'.cell? ⟨gb198,2,none⟩ = some (.string a0_2) ∧ w'.cell? ⟨gb198,3,none⟩ = some (.slice (some ad202) l0_3.length c0_3) ∧ w'.cell? ad202 = some (.int .i64 ((rd_T29 l0_3 0).f0)) ∧ w'.cell? ⟨ad202.block,ad202.off + 1,none⟩ = some (.int .i64 ((rd_T29 l0_3 0).f1)) ∧ w'.cell? ⟨ad202.block,ad202.off + 2,none⟩ = some (.string ((rd_T29 l0_3 0).f2)) ∧ w'.cell? ⟨ad202.block,ad202.off + 3,none⟩ = some (.slice A202_3 ((rd_T29 l0_3 0).f3).length c202_3) ∧ w'.cell? ⟨ad202.block,ad202.off + 4,none⟩ = some (.int .i64 ((rd_T29 l0_3 1).f0)) ∧ w'.cell? ⟨ad202.block,ad202.off + 4 + 1,none⟩ = some (.int .i64 ((rd_T29 l0_3 1).f1)) ∧ w'.cell? ⟨ad202.block,ad202.off + 4 + 2,none⟩ = some (.string ((rd_T29 l0_3 1).f2)) ∧ w'.cell? ⟨ad202.block,ad202.off + 4 + 3,none⟩ = some (.slice A204_3 ((rd_T29 l0_3 1).f3).length c204_3)) (ds := []) #[false,false,false,false,false,false,false,false,false,false,false,false] (by kernel_rfl) rfl rfl ⟨(blk_cell BK198.out 0).trans rfl,(blk_cell BK198.out 1).trans rfl,(blk_cell BK198.out 2).trans rfl,(blk_cell BK198.out 3).trans rfl,((HB.out.cell (World.block_lt_of_cell? w _ hw202_0)).trans hw202_0),((HB.out.cell (World.block_lt_of_cell? w _ hw202_1)).trans hw202_1),((HB.out.cell (World.block_lt_of_cell? w _ hw202_2)).trans hw202_2),((HB.out.cell (World.block_lt_of_cell? w _ hw202_3)).trans hw202_3),((HB.out.cell (World.block_lt_of_cell? w _ hw204_0)).trans hw204_0),((HB.out.cell (World.block_lt_of_cell? w _ hw204_1)).trans hw204_1),((HB.out.cell (World.block_lt_of_cell? w _ hw204_2)).trans hw204_2),((HB.out.cell (World.block_lt_of_cell? w _ hw204_3)).trans hw204_3)⟩ (fun hHeld => ?_);refine with_tabW impl_expText.tab8 impl_expText.bits8 (fun HT_ HW_ => ?_)
         generalize w29.drew = w31 at BK198 HB HR202_3 HR204_3 hx202_0 hx202_1 hx202_2 hx202_3 hx204_0 hx204_1 hx204_2 hx204_3 hHeld ⊢
         refine pure_ (i := 0) (N := some 28) (v := ?_) (a' := ?_) #[true,false,false,false,false,false,false,false,false,false,false,false] rfl rfl (any_of HT_.out (by kernel_rfl)) (fun _ _ _ h => h) (Or.inl ⟨by rfl,?_⟩) ?_ ?_
         rotate_left
         ·intro w'
          go_simp
          with_reducible rfl
         rotate_left
         ·simp only [Act.put,List.setIfInBounds_toArray,List.set_cons_zero,List.set_cons_succ,i64_w,i32_w]
          rfl
         refine pure_ (i := 5) (N := some 33) (v := ?_) (a' := ?_) #[true,false,false,false,false,true,false,false,false,false,false,false] rfl rfl (any_of HT_.out (by kernel_rfl)) (fun _ _ _ h => h) (Or.inl ⟨by rfl,?_⟩) ?_ ?_
         rotate_left
         ·intro w'
          go_simp
          with_reducible rfl
         rotate_left
         ·simp only [Act.put,List.setIfInBounds_toArray,List.set_cons_zero,List.set_cons_succ,i64_w,i32_w]
          rfl
         refine take_ (i := 1) (N := some 29) (v := ?_) (a' := ?_) #[true,true,false,false,false,true,false,false,false,false,false,false] rfl rfl (take_ofW HT_.out HW_.out (by kernel_rfl)) (fun _ _ _ h => h) (Or.inl ⟨by rfl,?_⟩) hHeld ?_ ?_
         rotate_left
         ·rintro w' ⟨s0,s1,s2,s3,s4,s5,s6,s7,s8,s9,s10,s11⟩
          go_simp
          with_reducible rfl
         rotate_left
         ·simp only [Act.put,List.setIfInBounds_toArray,List.set_cons_zero,List.set_cons_succ,i64_w,i32_w]
          rfl
         refine pure_ (i := 2) (N := some 30) (v := ?_) (a' := ?_) #[true,true,true,false,false,true,false,false,false,false,false,false] rfl rfl (any_of HT_.out (by kernel_rfl)) (fun _ _ _ h => h) (Or.inl ⟨by rfl,?_⟩) ?_ ?_
         rotate_left
         ·intro w'
          go_simp
          with_reducible rfl
         rotate_left
         ·simp only [Act.put,List.setIfInBounds_toArray,List.set_cons_zero,List.set_cons_succ,i64_w,i32_w]
          rfl
         refine take_ (i := 3) (N := some 31) (v := ?_) (a' := ?_) #[true,true,true,true,false,true,false,false,false,false,false,false] rfl rfl (take_ofW HT_.out HW_.out (by kernel_rfl)) (fun _ _ _ h => h) (Or.inl ⟨by rfl,?_⟩) hHeld ?_ ?_
         rotate_left
         ·rintro w' ⟨s0,s1,s2,s3,s4,s5,s6,s7,s8,s9,s10,s11⟩
          go_simp
          with_reducible rfl
         rotate_left
         ·simp only [Act.put,List.setIfInBounds_toArray,List.set_cons_zero,List.set_cons_succ,i64_w,i32_w]
          rfl
         refine take_ (i := 6) (N := some 34) (v := ?_) (a' := ?_) #[true,true,true,true,false,true,true,false,false,false,false,false] rfl rfl (take_ofW HT_.out HW_.out (by kernel_rfl)) (fun _ _ _ h => h) (Or.inl ⟨by rfl,?_⟩) hHeld ?_ ?_
         rotate_left
         ·rintro w' ⟨s0,s1,s2,s3,s4,s5,s6,s7,s8,s9,s10,s11⟩
          go_simp
          with_reducible rfl
         rotate_left
         ·simp only [Act.put,List.setIfInBounds_toArray,List.set_cons_zero,List.set_cons_succ,i64_w,i32_w]
          rfl
         refine pure_ (i := 7) (N := some 35) (v := ?_) (a' := ?_) #[true,true,true,true,false,true,true,true,false,false,false,false] rfl rfl (any_of HT_.out (by kernel_rfl)) (fun _ _ _ h => h) (Or.inl ⟨by rfl,?_⟩) ?_ ?_
         rotate_left
         ·intro w'
          go_simp
          with_reducible rfl
         rotate_left
         ·simp only [Act.put,List.setIfInBounds_toArray,List.set_cons_zero,List.set_cons_succ,i64_w,i32_w]
          rfl
         refine take_ (i := 8) (N := some 36) (v := ?_) (a' := ?_) #[true,true,true,true,false,true,true,true,true,false,false,false] rfl rfl (take_ofW HT_.out HW_.out (by kernel_rfl)) (fun _ _ _ h => h) (Or.inl ⟨by rfl,?_⟩) hHeld ?_ ?_
         rotate_left
         ·rintro w' ⟨s0,s1,s2,s3,s4,s5,s6,s7,s8,s9,s10,s11⟩
          go_simp
          with_reducible rfl
         rotate_left
         ·simp only [Act.put,List.setIfInBounds_toArray,List.set_cons_zero,List.set_cons_succ,i64_w,i32_w]
          rfl
         refine one_ (i := 4) (N := some 32) #[true,true,true,true,true,true,true,true,true,false,false,false] rfl rfl (one_of HT_.out (by kernel_rfl)) (by decide) (fun K hK => ?_)
         refine goes_ Tryd.func14 (by kernel_rfl) rfl #[.agg #[.int .i64 ((rd_T29 l0_3 0).f0),.int .i64 ((rd_T29 l0_3 0).f1),.string ((rd_T29 l0_3 0).f2),.slice A202_3 ((rd_T29 l0_3 0).f3).length c202_3]] (by rfl) rfl rfl (by (try simp only [List.map_toArray,List.map_cons,List.map_nil]);first|done|rfl) ?_
         with_reducible refine (ih k (by omega) ((rd_T29 l0_3 0).f0) ((rd_T29 l0_3 0).f1) ((rd_T29 l0_3 0).f2) _ _ ((rd_T29 l0_3 0).f3) t203 _ ?hT_ ?side1 ?side2 A21.out).mono ?_
         (case hT_ => exact tabB HT.out (by repeat (first|(with_reducible first|exact HB.out|apply bA|apply bN|apply bD|refine bS ?_ GE198.out)|exact HB.out)))
         (case side1 => repeat (first|exact (Kd.C_below HR202_3.out HB.out)|(with_reducible refine cA ?_ _)|(with_reducible refine cN ?_ _)|(with_reducible refine cD ?_)))
         (case side2 => exact HC202_3.out)
         rintro e w32 ⟨rfl,hb⟩
         refine ⟨_,rfl,?_⟩
         have n0_ := mk0 (blk_below (by exact kX BK198.out) hb)
         have n1_ := mk0 (below_step (by repeat (first|(with_reducible first|exact HB.out|apply bA|apply bN|apply bD|refine bS ?_ GE198.out)|exact HB.out)) hb)
         clear BK198
         clear HB
         have BK198 := n0_
         have HB := n1_
         clear n0_ n1_
         (try clear hb)
         (try clear hb2)
         (try clear hk)
         (try clear hi)
         refine hK.out _ _ ⟨(blk_cell BK198.out 0).trans rfl,(blk_cell BK198.out 1).trans rfl,(blk_cell BK198.out 2).trans rfl,(blk_cell BK198.out 3).trans rfl,((HB.out.cell (World.block_lt_of_cell? w _ hw202_0)).trans hw202_0),((HB.out.cell (World.block_lt_of_cell? w _ hw202_1)).trans hw202_1),((HB.out.cell (World.block_lt_of_cell? w _ hw202_2)).trans hw202_2),((HB.out.cell (World.block_lt_of_cell? w _ hw202_3)).trans hw202_3),((HB.out.cell (World.block_lt_of_cell? w _ hw204_0)).trans hw204_0),((HB.out.cell (World.block_lt_of_cell? w _ hw204_1)).trans hw204_1),((HB.out.cell (World.block_lt_of_cell? w _ hw204_2)).trans hw204_2),((HB.out.cell (World.block_lt_of_cell? w _ hw204_3)).trans hw204_3)⟩ (fun hHeld => ?_)
         clear hK K
         refine norm_ (a' := ?_) ?_ ?_
         rotate_left
         ·show Act.put _ (some 32) _ = _
          simp only [Act.put,List.setIfInBounds_toArray,List.set_cons_zero,List.set_cons_succ,i64_w,i32_w]
          rfl
         refine one_ (i := 9) (N := some 37) #[true,true,true,true,true,true,true,true,true,true,false,false] rfl rfl (one_of HT_.out (by kernel_rfl)) (by decide) (fun K hK => ?_)
         refine goes_ Tryd.func14 (by kernel_rfl) rfl #[.agg #[.int .i64 ((rd_T29 l0_3 1).f0),.int .i64 ((rd_T29 l0_3 1).f1),.string ((rd_T29 l0_3 1).f2),.slice A204_3 ((rd_T29 l0_3 1).f3).length c204_3]] (by rfl) rfl rfl (by (try simp only [List.map_toArray,List.map_cons,List.map_nil]);first|done|rfl) ?_
         with_reducible refine (ih k (by omega) ((rd_T29 l0_3 1).f0) ((rd_T29 l0_3 1).f1) ((rd_T29 l0_3 1).f2) _ _ ((rd_T29 l0_3 1).f3) t205 _ ?hT_ ?side1 ?side2 A23.out).mono ?_
         (case hT_ => exact tabB HT.out (by repeat (first|(with_reducible first|exact HB.out|apply bA|apply bN|apply bD|refine bS ?_ GE198.out)|exact HB.out)))
         (case side1 => repeat (first|exact (Kd.C_below HR204_3.out HB.out)|(with_reducible refine cA ?_ _)|(with_reducible refine cN ?_ _)|(with_reducible refine cD ?_)))
         (case side2 => exact HC204_3.out)
         rintro e w33 ⟨rfl,hb⟩
         refine ⟨_,rfl,?_⟩
         have n0_ := mk0 (blk_below (by exact kX BK198.out) hb)
         have n1_ := mk0 (below_step (by repeat (first|(with_reducible first|exact HB.out|apply bA|apply bN|apply bD|refine bS ?_ GE198.out)|exact HB.out)) hb)
         clear BK198
         clear HB
         have BK198 := n0_
         have HB := n1_
         clear n0_ n1_
         (try clear hb)
         (try clear hb2)
         (try clear hk)
         (try clear hi)
         refine hK.out _ _ ⟨(blk_cell BK198.out 0).trans rfl,(blk_cell BK198.out 1).trans rfl,(blk_cell BK198.out 2).trans rfl,(blk_cell BK198.out 3).trans rfl,((HB.out.cell (World.block_lt_of_cell? w _ hw202_0)).trans hw202_0),((HB.out.cell (World.block_lt_of_cell? w _ hw202_1)).trans hw202_1),((HB.out.cell (World.block_lt_of_cell? w _ hw202_2)).trans hw202_2),((HB.out.cell (World.block_lt_of_cell? w _ hw202_3)).trans hw202_3),((HB.out.cell (World.block_lt_of_cell? w _ hw204_0)).trans hw204_0),((HB.out.cell (World.block_lt_of_cell? w _ hw204_1)).trans hw204_1),((HB.out.cell (World.block_lt_of_cell? w _ hw204_2)).trans hw204_2),((HB.out.cell (World.block_lt_of_cell? w _ hw204_3)).trans hw204_3)⟩ (fun hHeld => ?_)
         clear hK K
         refine norm_ (a' := ?_) ?_ ?_
         rotate_left
         ·show Act.put _ (some 37) _ = _
          simp only [Act.put,List.setIfInBounds_toArray,List.set_cons_zero,List.set_cons_succ,i64_w,i32_w]
          rfl
         refine pure_ (i := 10) (N := some 3) (v := ?_) (a' := ?_) #[true,true,true,true,true,true,true,true,true,true,true,false] rfl rfl (any_of HT_.out (by kernel_rfl)) (fun _ _ _ h => h) (Or.inl ⟨by rfl,?_⟩) ?_ ?_
         rotate_left
         ·intro w'
          go_simp
          with_reducible rfl
         rotate_left
         ·simp only [Act.put,List.setIfInBounds_toArray,List.set_cons_zero,List.set_cons_succ,i64_w,i32_w]
          rfl
         refine pure_ (i := 11) (N := some 4) (v := ?_) (a' := ?_) #[true,true,true,true,true,true,true,true,true,true,true,true] rfl rfl (any_of HT_.out (by kernel_rfl)) (fun _ _ _ h => h) (Or.inl ⟨by rfl,?_⟩) ?_ ?_
         rotate_left
         ·intro w'
          go_simp
          with_reducible rfl
         rotate_left
         ·simp only [Act.put,List.setIfInBounds_toArray,List.set_cons_zero,List.set_cons_succ,i64_w,i32_w]
          rfl
         refine done_ (done_of HT_.out (by kernel_rfl)) ?_
         have z34 := bc4 BK198.out
         have p206 : 0 ≤ (1 : Int) := (by omega)
         have q206 : 1 < (l0_3.length : Int) := of_decide_eq_true (by first|(with_reducible assumption)|assumption)
         obtain ⟨ad206,A206_3,c206_3,e206,hx206_0,hx206_1,hx206_2,hx206_3,hl206_3,hi206_3⟩ := at_T29 HR0_3.out 1 p206 q206
         obtain rfl : ad202 = ad206 := (by injection e206)
         (try simp only [show (1 : Int).toNat = 1 from rfl,Nat.reduceMul,Nat.reduceEqDiff,Go.Addr.add,↓reduceIte] at hx206_0)
         (try simp only [show (1 : Int).toNat = 1 from rfl,Nat.reduceMul,Nat.reduceEqDiff,Go.Addr.add,↓reduceIte] at hx206_1)
         (try simp only [show (1 : Int).toNat = 1 from rfl,Nat.reduceMul,Nat.reduceEqDiff,Go.Addr.add,↓reduceIte] at hx206_2)
         (try simp only [show (1 : Int).toNat = 1 from rfl,Nat.reduceMul,Nat.reduceEqDiff,Go.Addr.add,↓reduceIte] at hx206_3)
         have qi206 : (1 < l0_3.length) = True := eq_true (by omega)
         (try rw [show ((1 : Int)).toNat = 1 from rfl] at hx206_0)
         (try rw [show 1 * 4 = 4 from rfl] at hx206_0)
         (try rw [show ((1 : Int)).toNat = 1 from rfl] at hx206_1)
         (try rw [show 1 * 4 = 4 from rfl] at hx206_1)
         (try rw [show ((1 : Int)).toNat = 1 from rfl] at hx206_2)
         (try rw [show 1 * 4 = 4 from rfl] at hx206_2)
         (try rw [show ((1 : Int)).toNat = 1 from rfl] at hx206_3)
         (try rw [show 1 * 4 = 4 from rfl] at hx206_3)
         replace hx206_0 := hbc HB.out hx206_0
         replace hx206_1 := hbc HB.out hx206_1
         replace hx206_2 := hbc HB.out hx206_2
         try (have e_ := hx206_3.symm.trans hq204_3;injection e_ with e_;injection e_ with e1_ e2_ e3_;subst e1_;subst e3_)
         replace hx206_3 := hbc HB.out hx206_3
         have HR206_3 := mk0 hi206_3
         have HC206_3 := mk0 hl206_3
         clear hi206_3 hl206_3
         replace p206 := eq_true p206
         replace q206 := eq_true q206
         try go_wp2_with (first|((with_reducible refine gate_callee (f := 23) rfl ?_);refine goesL_ (some 49) rfl rfl Tryd.func23 (by kernel_rfl) rfl #[.agg #[.int .i64 ((rd_T29 l0_3 1).f0),.int .i64 ((rd_T29 l0_3 1).f1),.string ((rd_T29 l0_3 1).f2),.slice A206_3 ((rd_T29 l0_3 1).f3).length c206_3]] rfl (by (try simp only [List.map_toArray,List.map_cons,List.map_nil]);first|done|rfl) ?_;(with_reducible refine (impl_isSum.calls ((rd_T29 l0_3 1).f0) ((rd_T29 l0_3 1).f1) ((rd_T29 l0_3 1).f2) _ _ ((rd_T29 l0_3 1).f3) t207 _ ?side1 ?side2 A26.out).mono ?_);(case side1 => repeat (first|exact (Kd.C_below HR206_3.out HB.out)|(with_reducible refine cA ?_ _)|(with_reducible refine cN ?_ _)|(with_reducible refine cD ?_)));(case side2 => exact HC206_3.out);rintro e w35 ⟨rfl,hb⟩;refine ⟨_,rfl,?_⟩;have n0_ := mk0 (blk_below (by exact kX BK198.out) hb);have n1_ := mk0 (below_step (by repeat (first|(with_reducible first|exact HB.out|apply bA|apply bN|apply bD|refine bS ?_ GE198.out)|exact HB.out)) hb);clear BK198 HB;have BK198 := n0_;have HB := n1_;clear n0_ n1_;(try clear hb);(try clear hb2);(try clear hk);(try clear hi))|((with_reducible refine gate_callee (f := 22) rfl ?_);refine goesL_ (some 50) rfl rfl Tryd.func22 (by kernel_rfl) rfl #[.string t205,.bool t207] rfl (by (try simp only [List.map_toArray,List.map_cons,List.map_nil]);first|done|rfl) ?_;(with_reducible refine (impl_within.calls t205 t207 t208 _ A27.out).mono ?_);rintro e w' ⟨rfl,⟨nd,rfl⟩⟩;refine ⟨_,rfl,?_⟩))
         go_ret
         exact ⟨by first|rfl|(simp [errW_none,errW_some] <;> rfl)|(simp [*,errW_none,errW_some] <;> rfl),by repeat (first|(with_reducible first|exact HB.out|apply bA|apply bN|apply bD|refine bS ?_ GE198.out)|exact HB.out)⟩
        ·rw [if_neg c28] at H
         exact absurd H (by simp)
       ·rw [if_neg c25] at H
        exact absurd H (by simp)
      ·rw [if_neg c24] at H
       have c24b0 : (a0_0 == 4) = false := beq_eq_false_iff_ne.mpr c24
       have c24b1 : (a0_0 != 4) = true := bne_iff_ne.mpr c24
       by_cases c36 : a0_0 = 5
       ·rw [if_pos c36] at H
        have c36b0 : (a0_0 == 5) = true := beq_iff_eq.mpr c36
        have c36b1 : (a0_0 != 5) = false := bne_eq_false_iff_eq.mpr c36
        clear c36
        by_cases c37 : t203.size + 3 ≤ 9223372036854775807
        ·rw [if_pos c37] at H
         have c37b0 := eq_true c37
         have c37b1 : decide (t203.size + 3 ≤ 9223372036854775807) = true := decide_eq_true c37
         try have c37b2 : (9223372036854775807 < t203.size + 3) = False := eq_false (Nat.not_lt.2 c37)
         obtain ⟨t210,A38,H⟩ := bindA H
         obtain ⟨t211,A39,H⟩ := bindA H
         by_cases c40 : (t203 ++ (⟨#[32,45,32]⟩ : ByteArray)).size + t211.size ≤ 9223372036854775807
         ·rw [if_pos c40] at H
          have c40b0 := eq_true c40
          have c40b1 : decide ((t203 ++ (⟨#[32,45,32]⟩ : ByteArray)).size + t211.size ≤ 9223372036854775807) = true := decide_eq_true c40
          try have c40b2 : (9223372036854775807 < (t203 ++ (⟨#[32,45,32]⟩ : ByteArray)).size + t211.size) = False := eq_false (Nat.not_lt.2 c40)
          try have c40b9 : (9223372036854775807 < t203.size + 3 + t211.size) = False := eq_false (by have q_ := c40;simp only [ByteArray.size_append] at q_;have z0_ : (⟨#[32,45,32]⟩ : ByteArray).size = 3 := rfl;omega)
          obtain rfl := Option.some.inj H
          go_enter Tryd.func14,Tryd.ntmps14
          try go_wp2_with (first|((with_reducible refine gate_dst (N := 1) rfl ?_);refine box_event ?hg (N := 1) ?hd (cs := #[.int .i64 a0_0,.int .i64 a0_1,.string a0_2,.slice A0_3 l0_3.length c0_3]) (t := 29) ?hr ?_;(case hd => rfl);(case hg => rfl);(case hr => first|(go_simp;done)|(go_simp;rfl));intro gb198 hg w41 hbox hb;have q_ := qB (by repeat (first|(with_reducible first|exact HB.out|apply bA|apply bN|apply bD)|exact HB.out)) hb;have n0_ := mk0 (below_step q_ hb);have n1_ := mk0 (hbox);have n2_ := mk0 (below_size2 q_ hg);have n3_ := n2_;clear HB;have HB := n0_;have BK198 := n1_;have GW198 := n2_;have GE198 := n3_;clear q_ n0_ n1_ n2_ n3_ hb hbox hg;have z42 := bc4 BK198.out))
          have n0_ := mk0 (kD BK198.out)
          have n1_ := mk0 (bD HB.out)
          clear BK198
          clear HB
          have BK198 := n0_
          have HB := n1_
          clear n0_ n1_
          have p202 : 0 ≤ (0 : Int) := (by omega)
          have q202 : 0 < (l0_3.length : Int) := of_decide_eq_true (by first|(with_reducible assumption)|assumption)
          obtain ⟨ad202,A202_3,c202_3,e202,hx202_0,hx202_1,hx202_2,hx202_3,hl202_3,hi202_3⟩ := at_T29 HR0_3.out 0 p202 q202
          have hw202_3 := hx202_3
          (try rw [show ((0 : Int)).toNat = 0 from rfl] at hw202_3)
          (try rw [show 0 * 4 = 0 from rfl] at hw202_3)
          (try rw [Addr.add_zero'] at hw202_3)
          have hw202_2 := hx202_2
          (try rw [show ((0 : Int)).toNat = 0 from rfl] at hw202_2)
          (try rw [show 0 * 4 = 0 from rfl] at hw202_2)
          (try rw [Addr.add_zero'] at hw202_2)
          have hw202_1 := hx202_1
          (try rw [show ((0 : Int)).toNat = 0 from rfl] at hw202_1)
          (try rw [show 0 * 4 = 0 from rfl] at hw202_1)
          (try rw [Addr.add_zero'] at hw202_1)
          have hw202_0 := hx202_0
          (try rw [show ((0 : Int)).toNat = 0 from rfl] at hw202_0)
          (try rw [show 0 * 4 = 0 from rfl] at hw202_0)
          (try rw [Addr.add_zero'] at hw202_0)
          cases e202
          have qi202 : (0 < l0_3.length) = True := eq_true (by omega)
          (try rw [show ((0 : Int)).toNat = 0 from rfl] at hx202_0)
          (try rw [show 0 * 4 = 0 from rfl] at hx202_0)
          (try rw [Addr.add_zero'] at hx202_0)
          (try rw [show ((0 : Int)).toNat = 0 from rfl] at hx202_1)
          (try rw [show 0 * 4 = 0 from rfl] at hx202_1)
          (try rw [Addr.add_zero'] at hx202_1)
          (try rw [show ((0 : Int)).toNat = 0 from rfl] at hx202_2)
          (try rw [show 0 * 4 = 0 from rfl] at hx202_2)
          (try rw [Addr.add_zero'] at hx202_2)
          (try rw [show ((0 : Int)).toNat = 0 from rfl] at hx202_3)
          (try rw [show 0 * 4 = 0 from rfl] at hx202_3)
          (try rw [Addr.add_zero'] at hx202_3)
          replace hx202_0 := hbc HB.out hx202_0
          replace hx202_1 := hbc HB.out hx202_1
          replace hx202_2 := hbc HB.out hx202_2
          replace hx202_3 := hbc HB.out hx202_3
          have HR202_3 := mk0 hi202_3
          have HC202_3 := mk0 hl202_3
          clear hi202_3 hl202_3
          replace p202 := eq_true p202
          replace q202 := eq_true q202
          have p204 : 0 ≤ (1 : Int) := (by omega)
          have q204 : 1 < (l0_3.length : Int) := of_decide_eq_true (by first|(with_reducible assumption)|assumption)
          obtain ⟨ad204,A204_3,c204_3,e204,hx204_0,hx204_1,hx204_2,hx204_3,hl204_3,hi204_3⟩ := at_T29 HR0_3.out 1 p204 q204
          have hw204_3 := hx204_3
          (try rw [show ((1 : Int)).toNat = 1 from rfl] at hw204_3)
          (try rw [show 1 * 4 = 4 from rfl] at hw204_3)
          (try simp only [Nat.reduceMul,Nat.reduceEqDiff,Go.Addr.add,↓reduceIte] at hw204_3)
          have hw204_2 := hx204_2
          (try rw [show ((1 : Int)).toNat = 1 from rfl] at hw204_2)
          (try rw [show 1 * 4 = 4 from rfl] at hw204_2)
          (try simp only [Nat.reduceMul,Nat.reduceEqDiff,Go.Addr.add,↓reduceIte] at hw204_2)
          have hw204_1 := hx204_1
          (try rw [show ((1 : Int)).toNat = 1 from rfl] at hw204_1)
          (try rw [show 1 * 4 = 4 from rfl] at hw204_1)
          (try simp only [Nat.reduceMul,Nat.reduceEqDiff,Go.Addr.add,↓reduceIte] at hw204_1)
          have hw204_0 := hx204_0
          (try rw [show ((1 : Int)).toNat = 1 from rfl] at hw204_0)
          (try rw [show 1 * 4 = 4 from rfl] at hw204_0)
          (try simp only [Nat.reduceMul,Nat.reduceEqDiff,Go.Addr.add,↓reduceIte] at hw204_0)
          obtain rfl : ad202 = ad204 := (by injection e204)
          (try simp only [show (1 : Int).toNat = 1 from rfl,Nat.reduceMul,Nat.reduceEqDiff,Go.Addr.add,↓reduceIte] at hx204_0)
          (try simp only [show (1 : Int).toNat = 1 from rfl,Nat.reduceMul,Nat.reduceEqDiff,Go.Addr.add,↓reduceIte] at hx204_1)
          (try simp only [show (1 : Int).toNat = 1 from rfl,Nat.reduceMul,Nat.reduceEqDiff,Go.Addr.add,↓reduceIte] at hx204_2)
          (try simp only [show (1 : Int).toNat = 1 from rfl,Nat.reduceMul,Nat.reduceEqDiff,Go.Addr.add,↓reduceIte] at hx204_3)
          have qi204 : (1 < l0_3.length) = True := eq_true (by omega)
          (try rw [show ((1 : Int)).toNat = 1 from rfl] at hx204_0)
          (try rw [show 1 * 4 = 4 from rfl] at hx204_0)
          (try rw [show ((1 : Int)).toNat = 1 from rfl] at hx204_1)
          (try rw [show 1 * 4 = 4 from rfl] at hx204_1)
          (try rw [show ((1 : Int)).toNat = 1 from rfl] at hx204_2)
          (try rw [show 1 * 4 = 4 from rfl] at hx204_2)
          (try rw [show ((1 : Int)).toNat = 1 from rfl] at hx204_3)
          (try rw [show 1 * 4 = 4 from rfl] at hx204_3)
          replace hx204_0 := hbc HB.out hx204_0
          replace hx204_1 := hbc HB.out hx204_1
          replace hx204_2 := hbc HB.out hx204_2
          have hq204_3 := hx204_3
          replace hx204_3 := hbc HB.out hx204_3
          have HR204_3 := mk0 hi204_3
          have HC204_3 := mk0 hl204_3
          clear hi204_3 hl204_3
          replace p204 := eq_true p204
          replace q204 := eq_true q204
          refine start_ (n := 12) (S := fun w' => w'.cell? ⟨gb198,0,none⟩ = some (.int .i64 a0_0) ∧ w'.cell? ⟨gb198,1,none⟩ = some (.int .i64 a0_1) ∧ w'.cell? ⟨gb198,2,none⟩ = some (.string a0_2) ∧ w'.cell? ⟨gb198,3,none⟩ = some (.slice (some ad202) l0_3.length c0_3) ∧ w'.cell? ad202 = some (.int .i64 ((rd_T29 l0_3 0).f0)) ∧ w'.cell? ⟨ad202.block,ad202.off + 1,none⟩ = some (.int .i64 ((rd_T29 l0_3 0).f1)) ∧ w'.cell? ⟨ad202.block,ad202.off + 2,none⟩ = some (.string ((rd_T29 l0_3 0).f2)) ∧ w'.cell? ⟨ad202.block,ad202.off + 3,none⟩ = some (.slice A202_3 ((rd_T29 l0_3 0).f3).length c202_3) ∧ w'.cell? ⟨ad202.block,ad202.off + 4,none⟩ = some (.int .i64 ((rd_T29 l0_3 1).f0)) ∧ w'.cell? ⟨ad202.block,ad202.off + 4 + 1,none⟩ = some (.int .i64 ((rd_T29 l0_3 1).f1)) ∧ w'.cell? ⟨ad202.block,ad202.off + 4 + 2,none⟩ = some (.string ((rd_T29 l0_3 1).f2)) ∧ w'.cell? ⟨ad202.block,ad202.off + 4 + 3,none⟩ = some (.slice A204_3 ((rd_T29 l0_3 1).f3).length c204_3)) (ds := []) #[false,false,false,false,false,false,false,false,false,false,false,false] (by kernel_rfl) rfl rfl ⟨(blk_cell BK198.out 0).trans rfl,(blk_cell BK198.out 1).trans rfl,(blk_cell BK198.out 2).trans rfl,(blk_cell BK198.out 3).trans rfl,((HB.out.cell (World.block_lt_of_cell? w _ hw202_0)).trans hw202_0),((HB.out.cell (World.block_lt_of_cell? w _ hw202_1)).trans hw202_1),((HB.out.cell (World.block_lt_of_cell? w _ hw202_2)).trans hw202_2),((HB.out.cell (World.block_lt_of_cell? w _ hw202_3)).trans hw202_3),((HB.out.cell (World.block_lt_of_cell? w _ hw204_0)).trans hw204_0),((HB.out.cell (World.block_lt_of_cell? w _ hw204_1)).trans hw204_1),((HB.out.cell (World.block_lt_of_cell? w _ hw204_2)).trans hw204_2),((HB.out.cell (World.block_lt_of_cell? w _ hw204_3)).trans hw204_3)⟩ (fun hHeld => ?_);refine with_tabW impl_expText.tab8 impl_expText.bits8 (fun HT_ HW_ => ?_)
          generalize w41.drew = w43 at BK198 HB HR202_3 HR204_3 hx202_0 hx202_1 hx202_2 hx202_3 hx204_0 hx204_1 hx204_2 hx204_3 hHeld ⊢
          refine pure_ (i := 0) (N := some 28) (v := ?_) (a' := ?_) #[true,false,false,false,false,false,false,false,false,false,false,false] rfl rfl (any_of HT_.out (by kernel_rfl)) (fun _ _ _ h => h) (Or.inl ⟨by rfl,?_⟩) ?_ ?_
          rotate_left
          ·intro w'
           go_simp
           with_reducible rfl
          rotate_left
          ·simp only [Act.put,List.setIfInBounds_toArray,List.set_cons_zero,List.set_cons_succ,i64_w,i32_w]
           rfl
          refine pure_ (i := 5) (N := some 33) (v := ?_) (a' := ?_) #[true,false,false,false,false,true,false,false,false,false,false,false] rfl rfl (any_of HT_.out (by kernel_rfl)) (fun _ _ _ h => h) (Or.inl ⟨by rfl,?_⟩) ?_ ?_
          rotate_left
          ·intro w'
           go_simp
           with_reducible rfl
          rotate_left
          ·simp only [Act.put,List.setIfInBounds_toArray,List.set_cons_zero,List.set_cons_succ,i64_w,i32_w]
           rfl
          refine take_ (i := 1) (N := some 29) (v := ?_) (a' := ?_) #[true,true,false,false,false,true,false,false,false,false,false,false] rfl rfl (take_ofW HT_.out HW_.out (by kernel_rfl)) (fun _ _ _ h => h) (Or.inl ⟨by rfl,?_⟩) hHeld ?_ ?_
          rotate_left
          ·rintro w' ⟨s0,s1,s2,s3,s4,s5,s6,s7,s8,s9,s10,s11⟩
           go_simp
           with_reducible rfl
          rotate_left
          ·simp only [Act.put,List.setIfInBounds_toArray,List.set_cons_zero,List.set_cons_succ,i64_w,i32_w]
           rfl
          refine pure_ (i := 2) (N := some 30) (v := ?_) (a' := ?_) #[true,true,true,false,false,true,false,false,false,false,false,false] rfl rfl (any_of HT_.out (by kernel_rfl)) (fun _ _ _ h => h) (Or.inl ⟨by rfl,?_⟩) ?_ ?_
          rotate_left
          ·intro w'
           go_simp
           with_reducible rfl
          rotate_left
          ·simp only [Act.put,List.setIfInBounds_toArray,List.set_cons_zero,List.set_cons_succ,i64_w,i32_w]
           rfl
          refine take_ (i := 3) (N := some 31) (v := ?_) (a' := ?_) #[true,true,true,true,false,true,false,false,false,false,false,false] rfl rfl (take_ofW HT_.out HW_.out (by kernel_rfl)) (fun _ _ _ h => h) (Or.inl ⟨by rfl,?_⟩) hHeld ?_ ?_
          rotate_left
          ·rintro w' ⟨s0,s1,s2,s3,s4,s5,s6,s7,s8,s9,s10,s11⟩
           go_simp
           with_reducible rfl
          rotate_left
          ·simp only [Act.put,List.setIfInBounds_toArray,List.set_cons_zero,List.set_cons_succ,i64_w,i32_w]
           rfl
          refine take_ (i := 6) (N := some 34) (v := ?_) (a' := ?_) #[true,true,true,true,false,true,true,false,false,false,false,false] rfl rfl (take_ofW HT_.out HW_.out (by kernel_rfl)) (fun _ _ _ h => h) (Or.inl ⟨by rfl,?_⟩) hHeld ?_ ?_
          rotate_left
          ·rintro w' ⟨s0,s1,s2,s3,s4,s5,s6,s7,s8,s9,s10,s11⟩
           go_simp
           with_reducible rfl
          rotate_left
          ·simp only [Act.put,List.setIfInBounds_toArray,List.set_cons_zero,List.set_cons_succ,i64_w,i32_w]
           rfl
          refine pure_ (i := 7) (N := some 35) (v := ?_) (a' := ?_) #[true,true,true,true,false,true,true,true,false,false,false,false] rfl rfl (any_of HT_.out (by kernel_rfl)) (fun _ _ _ h => h) (Or.inl ⟨by rfl,?_⟩) ?_ ?_
          rotate_left
          ·intro w'
           go_simp
           with_reducible rfl
          rotate_left
          ·simp only [Act.put,List.setIfInBounds_toArray,List.set_cons_zero,List.set_cons_succ,i64_w,i32_w]
           rfl
          refine take_ (i := 8) (N := some 36) (v := ?_) (a' := ?_) #[true,true,true,true,false,true,true,true,true,false,false,false] rfl rfl (take_ofW HT_.out HW_.out (by kernel_rfl)) (fun _ _ _ h => h) (Or.inl ⟨by rfl,?_⟩) hHeld ?_ ?_
          rotate_left
          ·rintro w' ⟨s0,s1,s2,s3,s4,s5,s6,s7,s8,s9,s10,s11⟩
           go_simp
           with_reducible rfl
          rotate_left
          ·simp only [Act.put,List.setIfInBounds_toArray,List.set_cons_zero,List.set_cons_succ,i64_w,i32_w]
           rfl
          refine one_ (i := 4) (N := some 32) #[true,true,true,true,true,true,true,true,true,false,false,false] rfl rfl (one_of HT_.out (by kernel_rfl)) (by decide) (fun K hK => ?_)
          refine goes_ Tryd.func14 (by kernel_rfl) rfl #[.agg #[.int .i64 ((rd_T29 l0_3 0).f0),.int .i64 ((rd_T29 l0_3 0).f1),.string ((rd_T29 l0_3 0).f2),.slice A202_3 ((rd_T29 l0_3 0).f3).length c202_3]] (by rfl) rfl rfl (by (try simp only [List.map_toArray,List.map_cons,List.map_nil]);first|done|rfl) ?_
          with_reducible refine (ih k (by omega) ((rd_T29 l0_3 0).f0) ((rd_T29 l0_3 0).f1) ((rd_T29 l0_3 0).f2) _ _ ((rd_T29 l0_3 0).f3) t203 _ ?hT_ ?side1 ?side2 A21.out).mono ?_
          (case hT_ => exact tabB HT.out (by repeat (first|(with_reducible first|exact HB.out|apply bA|apply bN|apply bD|refine bS ?_ GE198.out)|exact HB.out)))
          (case side1 => repeat (first|exact (Kd.C_below HR202_3.out HB.out)|(with_reducible refine cA ?_ _)|(with_reducible refine cN ?_ _)|(with_reducible refine cD ?_)))
          (case side2 => exact HC202_3.out)
          rintro e w44 ⟨rfl,hb⟩
          refine ⟨_,rfl,?_⟩
          have n0_ := mk0 (blk_below (by exact kX BK198.out) hb)
          have n1_ := mk0 (below_step (by repeat (first|(with_reducible first|exact HB.out|apply bA|apply bN|apply bD|refine bS ?_ GE198.out)|exact HB.out)) hb)
          clear BK198
          clear HB
          have BK198 := n0_
          have HB := n1_
          clear n0_ n1_
          (try clear hb)
          (try clear hb2)
          (try clear hk)
          (try clear hi)
          refine hK.out _ _ ⟨(blk_cell BK198.out 0).trans rfl,(blk_cell BK198.out 1).trans rfl,(blk_cell BK198.out 2).trans rfl,(blk_cell BK198.out 3).trans rfl,((HB.out.cell (World.block_lt_of_cell? w _ hw202_0)).trans hw202_0),((HB.out.cell (World.block_lt_of_cell? w _ hw202_1)).trans hw202_1),((HB.out.cell (World.block_lt_of_cell? w _ hw202_2)).trans hw202_2),((HB.out.cell (World.block_lt_of_cell? w _ hw202_3)).trans hw202_3),((HB.out.cell (World.block_lt_of_cell? w _ hw204_0)).trans hw204_0),((HB.out.cell (World.block_lt_of_cell? w _ hw204_1)).trans hw204_1),((HB.out.cell (World.block_lt_of_cell? w _ hw204_2)).trans hw204_2),((HB.out.cell (World.block_lt_of_cell? w _ hw204_3)).trans hw204_3)⟩ (fun hHeld => ?_)
          clear hK K
          refine norm_ (a' := ?_) ?_ ?_
          rotate_left
          ·show Act.put _ (some 32) _ = _
           simp only [Act.put,List.setIfInBounds_toArray,List.set_cons_zero,List.set_cons_succ,i64_w,i32_w]
           rfl
          refine one_ (i := 9) (N := some 37) #[true,true,true,true,true,true,true,true,true,true,false,false] rfl rfl (one_of HT_.out (by kernel_rfl)) (by decide) (fun K hK => ?_)
          refine goes_ Tryd.func14 (by kernel_rfl) rfl #[.agg #[.int .i64 ((rd_T29 l0_3 1).f0),.int .i64 ((rd_T29 l0_3 1).f1),.string ((rd_T29 l0_3 1).f2),.slice A204_3 ((rd_T29 l0_3 1).f3).length c204_3]] (by rfl) rfl rfl (by (try simp only [List.map_toArray,List.map_cons,List.map_nil]);first|done|rfl) ?_
          with_reducible refine (ih k (by omega) ((rd_T29 l0_3 1).f0) ((rd_T29 l0_3 1).f1) ((rd_T29 l0_3 1).f2) _ _ ((rd_T29 l0_3 1).f3) t205 _ ?hT_ ?side1 ?side2 A23.out).mono ?_
          (case hT_ => exact tabB HT.out (by repeat (first|(with_reducible first|exact HB.out|apply bA|apply bN|apply bD|refine bS ?_ GE198.out)|exact HB.out)))
          (case side1 => repeat (first|exact (Kd.C_below HR204_3.out HB.out)|(with_reducible refine cA ?_ _)|(with_reducible refine cN ?_ _)|(with_reducible refine cD ?_)))
          (case side2 => exact HC204_3.out)
          rintro e w45 ⟨rfl,hb⟩
          refine ⟨_,rfl,?_⟩
          have n0_ := mk0 (blk_below (by exact kX BK198.out) hb)
          have n1_ := mk0 (below_step (by repeat (first|(with_reducible first|exact HB.out|apply bA|apply bN|apply bD|refine bS ?_ GE198.out)|exact HB.out)) hb)
          clear BK198
          clear HB
          have BK198 := n0_
          have HB := n1_
          clear n0_ n1_
          (try clear hb)
          (try clear hb2)
          (try clear hk)
          (try clear hi)
          refine hK.out _ _ ⟨(blk_cell BK198.out 0).trans rfl,(blk_cell BK198.out 1).trans rfl,(blk_cell BK198.out 2).trans rfl,(blk_cell BK198.out 3).trans rfl,((HB.out.cell (World.block_lt_of_cell? w _ hw202_0)).trans hw202_0),((HB.out.cell (World.block_lt_of_cell? w _ hw202_1)).trans hw202_1),((HB.out.cell (World.block_lt_of_cell? w _ hw202_2)).trans hw202_2),((HB.out.cell (World.block_lt_of_cell? w _ hw202_3)).trans hw202_3),((HB.out.cell (World.block_lt_of_cell? w _ hw204_0)).trans hw204_0),((HB.out.cell (World.block_lt_of_cell? w _ hw204_1)).trans hw204_1),((HB.out.cell (World.block_lt_of_cell? w _ hw204_2)).trans hw204_2),((HB.out.cell (World.block_lt_of_cell? w _ hw204_3)).trans hw204_3)⟩ (fun hHeld => ?_)
          clear hK K
          refine norm_ (a' := ?_) ?_ ?_
          rotate_left
          ·show Act.put _ (some 37) _ = _
           simp only [Act.put,List.setIfInBounds_toArray,List.set_cons_zero,List.set_cons_succ,i64_w,i32_w]
           rfl
          refine pure_ (i := 10) (N := some 3) (v := ?_) (a' := ?_) #[true,true,true,true,true,true,true,true,true,true,true,false] rfl rfl (any_of HT_.out (by kernel_rfl)) (fun _ _ _ h => h) (Or.inl ⟨by rfl,?_⟩) ?_ ?_
          rotate_left
          ·intro w'
           go_simp
           with_reducible rfl
          rotate_left
          ·simp only [Act.put,List.setIfInBounds_toArray,List.set_cons_zero,List.set_cons_succ,i64_w,i32_w]
           rfl
          refine pure_ (i := 11) (N := some 4) (v := ?_) (a' := ?_) #[true,true,true,true,true,true,true,true,true,true,true,true] rfl rfl (any_of HT_.out (by kernel_rfl)) (fun _ _ _ h => h) (Or.inl ⟨by rfl,?_⟩) ?_ ?_
          rotate_left
          ·intro w'
           go_simp
           with_reducible rfl
          rotate_left
          ·simp only [Act.put,List.setIfInBounds_toArray,List.set_cons_zero,List.set_cons_succ,i64_w,i32_w]
           rfl
          refine done_ (done_of HT_.out (by kernel_rfl)) ?_
          have z46 := bc4 BK198.out
          have p209 : 0 ≤ (1 : Int) := (by omega)
          have q209 : 1 < (l0_3.length : Int) := of_decide_eq_true (by first|(with_reducible assumption)|assumption)
          obtain ⟨ad209,A209_3,c209_3,e209,hx209_0,hx209_1,hx209_2,hx209_3,hl209_3,hi209_3⟩ := at_T29 HR0_3.out 1 p209 q209
          obtain rfl : ad202 = ad209 := (by injection e209)
          (try simp only [show (1 : Int).toNat = 1 from rfl,Nat.reduceMul,Nat.reduceEqDiff,Go.Addr.add,↓reduceIte] at hx209_0)
          (try simp only [show (1 : Int).toNat = 1 from rfl,Nat.reduceMul,Nat.reduceEqDiff,Go.Addr.add,↓reduceIte] at hx209_1)
          (try simp only [show (1 : Int).toNat = 1 from rfl,Nat.reduceMul,Nat.reduceEqDiff,Go.Addr.add,↓reduceIte] at hx209_2)
          (try simp only [show (1 : Int).toNat = 1 from rfl,Nat.reduceMul,Nat.reduceEqDiff,Go.Addr.add,↓reduceIte] at hx209_3)
          have qi209 : (1 < l0_3.length) = True := eq_true (by omega)
          (try rw [show ((1 : Int)).toNat = 1 from rfl] at hx209_0)
          (try rw [show 1 * 4 = 4 from rfl] at hx209_0)
          (try rw [show ((1 : Int)).toNat = 1 from rfl] at hx209_1)
          (try rw [show 1 * 4 = 4 from rfl] at hx209_1)
          (try rw [show ((1 : Int)).toNat = 1 from rfl] at hx209_2)
          (try rw [show 1 * 4 = 4 from rfl] at hx209_2)
          (try rw [show ((1 : Int)).toNat = 1 from rfl] at hx209_3)
          (try rw [show 1 * 4 = 4 from rfl] at hx209_3)
          replace hx209_0 := hbc HB.out hx209_0
          replace hx209_1 := hbc HB.out hx209_1
          replace hx209_2 := hbc HB.out hx209_2
          try (have e_ := hx209_3.symm.trans hq204_3;injection e_ with e_;injection e_ with e1_ e2_ e3_;subst e1_;subst e3_)
          replace hx209_3 := hbc HB.out hx209_3
          have HR209_3 := mk0 hi209_3
          have HC209_3 := mk0 hl209_3
          clear hi209_3 hl209_3
          replace p209 := eq_true p209
          replace q209 := eq_true q209
          try go_wp2_with (first|((with_reducible refine gate_callee (f := 23) rfl ?_);refine goesL_ (some 61) rfl rfl Tryd.func23 (by kernel_rfl) rfl #[.agg #[.int .i64 ((rd_T29 l0_3 1).f0),.int .i64 ((rd_T29 l0_3 1).f1),.string ((rd_T29 l0_3 1).f2),.slice A209_3 ((rd_T29 l0_3 1).f3).length c209_3]] rfl (by (try simp only [List.map_toArray,List.map_cons,List.map_nil]);first|done|rfl) ?_;(with_reducible refine (impl_isSum.calls ((rd_T29 l0_3 1).f0) ((rd_T29 l0_3 1).f1) ((rd_T29 l0_3 1).f2) _ _ ((rd_T29 l0_3 1).f3) t210 _ ?side1 ?side2 A38.out).mono ?_);(case side1 => repeat (first|exact (Kd.C_below HR209_3.out HB.out)|(with_reducible refine cA ?_ _)|(with_reducible refine cN ?_ _)|(with_reducible refine cD ?_)));(case side2 => exact HC209_3.out);rintro e w47 ⟨rfl,hb⟩;refine ⟨_,rfl,?_⟩;have n0_ := mk0 (blk_below (by exact kX BK198.out) hb);have n1_ := mk0 (below_step (by repeat (first|(with_reducible first|exact HB.out|apply bA|apply bN|apply bD|refine bS ?_ GE198.out)|exact HB.out)) hb);clear BK198 HB;have BK198 := n0_;have HB := n1_;clear n0_ n1_;(try clear hb);(try clear hb2);(try clear hk);(try clear hi))|((with_reducible refine gate_callee (f := 22) rfl ?_);refine goesL_ (some 62) rfl rfl Tryd.func22 (by kernel_rfl) rfl #[.string t205,.bool t210] rfl (by (try simp only [List.map_toArray,List.map_cons,List.map_nil]);first|done|rfl) ?_;(with_reducible refine (impl_within.calls t205 t210 t211 _ A39.out).mono ?_);rintro e w' ⟨rfl,⟨nd,rfl⟩⟩;refine ⟨_,rfl,?_⟩))
          go_ret
          exact ⟨by first|rfl|(simp [errW_none,errW_some] <;> rfl)|(simp [*,errW_none,errW_some] <;> rfl),by repeat (first|(with_reducible first|exact HB.out|apply bA|apply bN|apply bD|refine bS ?_ GE198.out)|exact HB.out)⟩
         ·rw [if_neg c40] at H
          exact absurd H (by simp)
        ·rw [if_neg c37] at H
         exact absurd H (by simp)
       ·rw [if_neg c36] at H
        have c36b0 : (a0_0 == 5) = false := beq_eq_false_iff_ne.mpr c36
        have c36b1 : (a0_0 != 5) = true := bne_iff_ne.mpr c36
        by_cases c48 : a0_0 = 6
        ·rw [if_pos c48] at H
         have c48b0 : (a0_0 == 6) = true := beq_iff_eq.mpr c48
         have c48b1 : (a0_0 != 6) = false := bne_eq_false_iff_eq.mpr c48
         clear c48
         obtain ⟨t213,A49,H⟩ := bindA H
         obtain ⟨t214,A50,H⟩ := bindA H
         by_cases c51 : t214.size + 3 ≤ 9223372036854775807
         ·rw [if_pos c51] at H
          have c51b0 := eq_true c51
          have c51b1 : decide (t214.size + 3 ≤ 9223372036854775807) = true := decide_eq_true c51
          try have c51b2 : (9223372036854775807 < t214.size + 3) = False := eq_false (Nat.not_lt.2 c51)
          obtain ⟨t216,A52,H⟩ := bindA H
          by_cases c53 : t216 = true
          ·subst c53
           rw [if_pos rfl] at H
           obtain ⟨t217,A54,H⟩ := bindA H
           by_cases c55 : (t214 ++ (⟨#[32,42,32]⟩ : ByteArray)).size + t217.size ≤ 9223372036854775807
           ·rw [if_pos c55] at H
            have c55b0 := eq_true c55
            have c55b1 : decide ((t214 ++ (⟨#[32,42,32]⟩ : ByteArray)).size + t217.size ≤ 9223372036854775807) = true := decide_eq_true c55
            try have c55b2 : (9223372036854775807 < (t214 ++ (⟨#[32,42,32]⟩ : ByteArray)).size + t217.size) = False := eq_false (Nat.not_lt.2 c55)
            try have c55b9 : (9223372036854775807 < t214.size + 3 + t217.size) = False := eq_false (by have q_ := c55;simp only [ByteArray.size_append] at q_;have z0_ : (⟨#[32,42,32]⟩ : ByteArray).size = 3 := rfl;omega)
            obtain rfl := Option.some.inj H
            go_enter Tryd.func14,Tryd.ntmps14
            try go_wp2_with (first|((with_reducible refine gate_dst (N := 1) rfl ?_);refine box_event ?hg (N := 1) ?hd (cs := #[.int .i64 a0_0,.int .i64 a0_1,.string a0_2,.slice A0_3 l0_3.length c0_3]) (t := 29) ?hr ?_;(case hd => rfl);(case hg => rfl);(case hr => first|(go_simp;done)|(go_simp;rfl));intro gb198 hg w56 hbox hb;have q_ := qB (by repeat (first|(with_reducible first|exact HB.out|apply bA|apply bN|apply bD)|exact HB.out)) hb;have n0_ := mk0 (below_step q_ hb);have n1_ := mk0 (hbox);have n2_ := mk0 (below_size2 q_ hg);have n3_ := n2_;clear HB;have HB := n0_;have BK198 := n1_;have GW198 := n2_;have GE198 := n3_;clear q_ n0_ n1_ n2_ n3_ hb hbox hg;have z57 := bc4 BK198.out))
            have n0_ := mk0 (kD BK198.out)
            have n1_ := mk0 (bD HB.out)
            clear BK198
            clear HB
            have BK198 := n0_
            have HB := n1_
            clear n0_ n1_
            have p202 : 0 ≤ (0 : Int) := (by omega)
            have q202 : 0 < (l0_3.length : Int) := of_decide_eq_true (by first|(with_reducible assumption)|assumption)
            obtain ⟨ad202,A202_3,c202_3,e202,hx202_0,hx202_1,hx202_2,hx202_3,hl202_3,hi202_3⟩ := at_T29 HR0_3.out 0 p202 q202
            have hw202_3 := hx202_3
            (try rw [show ((0 : Int)).toNat = 0 from rfl] at hw202_3)
            (try rw [show 0 * 4 = 0 from rfl] at hw202_3)
            (try rw [Addr.add_zero'] at hw202_3)
            have hw202_2 := hx202_2
            (try rw [show ((0 : Int)).toNat = 0 from rfl] at hw202_2)
            (try rw [show 0 * 4 = 0 from rfl] at hw202_2)
            (try rw [Addr.add_zero'] at hw202_2)
            have hw202_1 := hx202_1
            (try rw [show ((0 : Int)).toNat = 0 from rfl] at hw202_1)
            (try rw [show 0 * 4 = 0 from rfl] at hw202_1)
            (try rw [Addr.add_zero'] at hw202_1)
            have hw202_0 := hx202_0
            (try rw [show ((0 : Int)).toNat = 0 from rfl] at hw202_0)
            (try rw [show 0 * 4 = 0 from rfl] at hw202_0)
            (try rw [Addr.add_zero'] at hw202_0)
            cases e202
            have qi202 : (0 < l0_3.length) = True := eq_true (by omega)
            (try rw [show ((0 : Int)).toNat = 0 from rfl] at hx202_0)
            (try rw [show 0 * 4 = 0 from rfl] at hx202_0)
            (try rw [Addr.add_zero'] at hx202_0)
            (try rw [show ((0 : Int)).toNat = 0 from rfl] at hx202_1)
            (try rw [show 0 * 4 = 0 from rfl] at hx202_1)
            (try rw [Addr.add_zero'] at hx202_1)
            (try rw [show ((0 : Int)).toNat = 0 from rfl] at hx202_2)
            (try rw [show 0 * 4 = 0 from rfl] at hx202_2)
            (try rw [Addr.add_zero'] at hx202_2)
            (try rw [show ((0 : Int)).toNat = 0 from rfl] at hx202_3)
            (try rw [show 0 * 4 = 0 from rfl] at hx202_3)
            (try rw [Addr.add_zero'] at hx202_3)
            replace hx202_0 := hbc HB.out hx202_0
            replace hx202_1 := hbc HB.out hx202_1
            replace hx202_2 := hbc HB.out hx202_2
            have hq202_3 := hx202_3
            replace hx202_3 := hbc HB.out hx202_3
            have HR202_3 := mk0 hi202_3
            have HC202_3 := mk0 hl202_3
            clear hi202_3 hl202_3
            replace p202 := eq_true p202
            replace q202 := eq_true q202
            have p204 : 0 ≤ (1 : Int) := (by omega)
            have q204 : 1 < (l0_3.length : Int) := of_decide_eq_true (by first|(with_reducible assumption)|assumption)
            obtain ⟨ad204,A204_3,c204_3,e204,hx204_0,hx204_1,hx204_2,hx204_3,hl204_3,hi204_3⟩ := at_T29 HR0_3.out 1 p204 q204
            have hw204_3 := hx204_3
            (try rw [show ((1 : Int)).toNat = 1 from rfl] at hw204_3)
            (try rw [show 1 * 4 = 4 from rfl] at hw204_3)
            (try simp only [Nat.reduceMul,Nat.reduceEqDiff,Go.Addr.add,↓reduceIte] at hw204_3)
            have hw204_2 := hx204_2
            (try rw [show ((1 : Int)).toNat = 1 from rfl] at hw204_2)
            (try rw [show 1 * 4 = 4 from rfl] at hw204_2)
            (try simp only [Nat.reduceMul,Nat.reduceEqDiff,Go.Addr.add,↓reduceIte] at hw204_2)
            have hw204_1 := hx204_1
            (try rw [show ((1 : Int)).toNat = 1 from rfl] at hw204_1)
            (try rw [show 1 * 4 = 4 from rfl] at hw204_1)
            (try simp only [Nat.reduceMul,Nat.reduceEqDiff,Go.Addr.add,↓reduceIte] at hw204_1)
            have hw204_0 := hx204_0
            (try rw [show ((1 : Int)).toNat = 1 from rfl] at hw204_0)
            (try rw [show 1 * 4 = 4 from rfl] at hw204_0)
            (try simp only [Nat.reduceMul,Nat.reduceEqDiff,Go.Addr.add,↓reduceIte] at hw204_0)
            obtain rfl : ad202 = ad204 := (by injection e204)
            (try simp only [show (1 : Int).toNat = 1 from rfl,Nat.reduceMul,Nat.reduceEqDiff,Go.Addr.add,↓reduceIte] at hx204_0)
            (try simp only [show (1 : Int).toNat = 1 from rfl,Nat.reduceMul,Nat.reduceEqDiff,Go.Addr.add,↓reduceIte] at hx204_1)
            (try simp only [show (1 : Int).toNat = 1 from rfl,Nat.reduceMul,Nat.reduceEqDiff,Go.Addr.add,↓reduceIte] at hx204_2)
            (try simp only [show (1 : Int).toNat = 1 from rfl,Nat.reduceMul,Nat.reduceEqDiff,Go.Addr.add,↓reduceIte] at hx204_3)
            have qi204 : (1 < l0_3.length) = True := eq_true (by omega)
            (try rw [show ((1 : Int)).toNat = 1 from rfl] at hx204_0)
            (try rw [show 1 * 4 = 4 from rfl] at hx204_0)
            (try rw [show ((1 : Int)).toNat = 1 from rfl] at hx204_1)
            (try rw [show 1 * 4 = 4 from rfl] at hx204_1)
            (try rw [show ((1 : Int)).toNat = 1 from rfl] at hx204_2)
            (try rw [show 1 * 4 = 4 from rfl] at hx204_2)
            (try rw [show ((1 : Int)).toNat = 1 from rfl] at hx204_3)
            (try rw [show 1 * 4 = 4 from rfl] at hx204_3)
            replace hx204_0 := hbc HB.out hx204_0
            replace hx204_1 := hbc HB.out hx204_1
            replace hx204_2 := hbc HB.out hx204_2
            have hq204_3 := hx204_3
            replace hx204_3 := hbc HB.out hx204_3
            have HR204_3 := mk0 hi204_3
            have HC204_3 := mk0 hl204_3
            clear hi204_3 hl204_3
            replace p204 := eq_true p204
            replace q204 := eq_true q204
            refine start_ (n := 12) (S := fun w' => w'.cell? ⟨gb198,0,none⟩ = some (.int .i64 a0_0) ∧ w'.cell? ⟨gb198,1,none⟩ = some (.int .i64 a0_1) ∧ w'.cell? ⟨gb198,2,none⟩ = some (.string a0_2) ∧ w'.cell? ⟨gb198,3,none⟩ = some (.slice (some ad202) l0_3.length c0_3) ∧ w'.cell? ad202 = some (.int .i64 ((rd_T29 l0_3 0).f0)) ∧ w'.cell? ⟨ad202.block,ad202.off + 1,none⟩ = some (.int .i64 ((rd_T29 l0_3 0).f1)) ∧ w'.cell? ⟨ad202.block,ad202.off + 2,none⟩ = some (.string ((rd_T29 l0_3 0).f2)) ∧ w'.cell? ⟨ad202.block,ad202.off + 3,none⟩ = some (.slice A202_3 ((rd_T29 l0_3 0).f3).length c202_3) ∧ w'.cell? ⟨ad202.block,ad202.off + 4,none⟩ = some (.int .i64 ((rd_T29 l0_3 1).f0)) ∧ w'.cell? ⟨ad202.block,ad202.off + 4 + 1,none⟩ = some (.int .i64 ((rd_T29 l0_3 1).f1)) ∧ w'.cell? ⟨ad202.block,ad202.off + 4 + 2,none⟩ = some (.string ((rd_T29 l0_3 1).f2)) ∧ w'.cell? ⟨ad202.block,ad202.off + 4 + 3,none⟩ = some (.slice A204_3 ((rd_T29 l0_3 1).f3).length c204_3)) (ds := []) #[false,false,false,false,false,false,false,false,false,false,false,false] (by kernel_rfl) rfl rfl ⟨(blk_cell BK198.out 0).trans rfl,(blk_cell BK198.out 1).trans rfl,(blk_cell BK198.out 2).trans rfl,(blk_cell BK198.out 3).trans rfl,((HB.out.cell (World.block_lt_of_cell? w _ hw202_0)).trans hw202_0),((HB.out.cell (World.block_lt_of_cell? w _ hw202_1)).trans hw202_1),((HB.out.cell (World.block_lt_of_cell? w _ hw202_2)).trans hw202_2),((HB.out.cell (World.block_lt_of_cell? w _ hw202_3)).trans hw202_3),((HB.out.cell (World.block_lt_of_cell? w _ hw204_0)).trans hw204_0),((HB.out.cell (World.block_lt_of_cell? w _ hw204_1)).trans hw204_1),((HB.out.cell (World.block_lt_of_cell? w _ hw204_2)).trans hw204_2),((HB.out.cell (World.block_lt_of_cell? w _ hw204_3)).trans hw204_3)⟩ (fun hHeld => ?_);refine with_tabW impl_expText.tab8 impl_expText.bits8 (fun HT_ HW_ => ?_)
            generalize w56.drew = w58 at BK198 HB HR202_3 HR204_3 hx202_0 hx202_1 hx202_2 hx202_3 hx204_0 hx204_1 hx204_2 hx204_3 hHeld ⊢
            refine pure_ (i := 0) (N := some 28) (v := ?_) (a' := ?_) #[true,false,false,false,false,false,false,false,false,false,false,false] rfl rfl (any_of HT_.out (by kernel_rfl)) (fun _ _ _ h => h) (Or.inl ⟨by rfl,?_⟩) ?_ ?_
            rotate_left
            ·intro w'
             go_simp
             with_reducible rfl
            rotate_left
            ·simp only [Act.put,List.setIfInBounds_toArray,List.set_cons_zero,List.set_cons_succ,i64_w,i32_w]
             rfl
            refine pure_ (i := 5) (N := some 33) (v := ?_) (a' := ?_) #[true,false,false,false,false,true,false,false,false,false,false,false] rfl rfl (any_of HT_.out (by kernel_rfl)) (fun _ _ _ h => h) (Or.inl ⟨by rfl,?_⟩) ?_ ?_
            rotate_left
            ·intro w'
             go_simp
             with_reducible rfl
            rotate_left
            ·simp only [Act.put,List.setIfInBounds_toArray,List.set_cons_zero,List.set_cons_succ,i64_w,i32_w]
             rfl
            refine take_ (i := 1) (N := some 29) (v := ?_) (a' := ?_) #[true,true,false,false,false,true,false,false,false,false,false,false] rfl rfl (take_ofW HT_.out HW_.out (by kernel_rfl)) (fun _ _ _ h => h) (Or.inl ⟨by rfl,?_⟩) hHeld ?_ ?_
            rotate_left
            ·rintro w' ⟨s0,s1,s2,s3,s4,s5,s6,s7,s8,s9,s10,s11⟩
             go_simp
             with_reducible rfl
            rotate_left
            ·simp only [Act.put,List.setIfInBounds_toArray,List.set_cons_zero,List.set_cons_succ,i64_w,i32_w]
             rfl
            refine pure_ (i := 2) (N := some 30) (v := ?_) (a' := ?_) #[true,true,true,false,false,true,false,false,false,false,false,false] rfl rfl (any_of HT_.out (by kernel_rfl)) (fun _ _ _ h => h) (Or.inl ⟨by rfl,?_⟩) ?_ ?_
            rotate_left
            ·intro w'
             go_simp
             with_reducible rfl
            rotate_left
            ·simp only [Act.put,List.setIfInBounds_toArray,List.set_cons_zero,List.set_cons_succ,i64_w,i32_w]
             rfl
            refine take_ (i := 3) (N := some 31) (v := ?_) (a' := ?_) #[true,true,true,true,false,true,false,false,false,false,false,false] rfl rfl (take_ofW HT_.out HW_.out (by kernel_rfl)) (fun _ _ _ h => h) (Or.inl ⟨by rfl,?_⟩) hHeld ?_ ?_
            rotate_left
            ·rintro w' ⟨s0,s1,s2,s3,s4,s5,s6,s7,s8,s9,s10,s11⟩
             go_simp
             with_reducible rfl
            rotate_left
            ·simp only [Act.put,List.setIfInBounds_toArray,List.set_cons_zero,List.set_cons_succ,i64_w,i32_w]
             rfl
            refine take_ (i := 6) (N := some 34) (v := ?_) (a' := ?_) #[true,true,true,true,false,true,true,false,false,false,false,false] rfl rfl (take_ofW HT_.out HW_.out (by kernel_rfl)) (fun _ _ _ h => h) (Or.inl ⟨by rfl,?_⟩) hHeld ?_ ?_
            rotate_left
            ·rintro w' ⟨s0,s1,s2,s3,s4,s5,s6,s7,s8,s9,s10,s11⟩
             go_simp
             with_reducible rfl
            rotate_left
            ·simp only [Act.put,List.setIfInBounds_toArray,List.set_cons_zero,List.set_cons_succ,i64_w,i32_w]
             rfl
            refine pure_ (i := 7) (N := some 35) (v := ?_) (a' := ?_) #[true,true,true,true,false,true,true,true,false,false,false,false] rfl rfl (any_of HT_.out (by kernel_rfl)) (fun _ _ _ h => h) (Or.inl ⟨by rfl,?_⟩) ?_ ?_
            rotate_left
            ·intro w'
             go_simp
             with_reducible rfl
            rotate_left
            ·simp only [Act.put,List.setIfInBounds_toArray,List.set_cons_zero,List.set_cons_succ,i64_w,i32_w]
             rfl
            refine take_ (i := 8) (N := some 36) (v := ?_) (a' := ?_) #[true,true,true,true,false,true,true,true,true,false,false,false] rfl rfl (take_ofW HT_.out HW_.out (by kernel_rfl)) (fun _ _ _ h => h) (Or.inl ⟨by rfl,?_⟩) hHeld ?_ ?_
            rotate_left
            ·rintro w' ⟨s0,s1,s2,s3,s4,s5,s6,s7,s8,s9,s10,s11⟩
             go_simp
             with_reducible rfl
            rotate_left
            ·simp only [Act.put,List.setIfInBounds_toArray,List.set_cons_zero,List.set_cons_succ,i64_w,i32_w]
             rfl
            refine one_ (i := 4) (N := some 32) #[true,true,true,true,true,true,true,true,true,false,false,false] rfl rfl (one_of HT_.out (by kernel_rfl)) (by decide) (fun K hK => ?_)
            refine goes_ Tryd.func14 (by kernel_rfl) rfl #[.agg #[.int .i64 ((rd_T29 l0_3 0).f0),.int .i64 ((rd_T29 l0_3 0).f1),.string ((rd_T29 l0_3 0).f2),.slice A202_3 ((rd_T29 l0_3 0).f3).length c202_3]] (by rfl) rfl rfl (by (try simp only [List.map_toArray,List.map_cons,List.map_nil]);first|done|rfl) ?_
            with_reducible refine (ih k (by omega) ((rd_T29 l0_3 0).f0) ((rd_T29 l0_3 0).f1) ((rd_T29 l0_3 0).f2) _ _ ((rd_T29 l0_3 0).f3) t203 _ ?hT_ ?side1 ?side2 A21.out).mono ?_
            (case hT_ => exact tabB HT.out (by repeat (first|(with_reducible first|exact HB.out|apply bA|apply bN|apply bD|refine bS ?_ GE198.out)|exact HB.out)))
            (case side1 => repeat (first|exact (Kd.C_below HR202_3.out HB.out)|(with_reducible refine cA ?_ _)|(with_reducible refine cN ?_ _)|(with_reducible refine cD ?_)))
            (case side2 => exact HC202_3.out)
            rintro e w59 ⟨rfl,hb⟩
            refine ⟨_,rfl,?_⟩
            have n0_ := mk0 (blk_below (by exact kX BK198.out) hb)
            have n1_ := mk0 (below_step (by repeat (first|(with_reducible first|exact HB.out|apply bA|apply bN|apply bD|refine bS ?_ GE198.out)|exact HB.out)) hb)
            clear BK198
            clear HB
            have BK198 := n0_
            have HB := n1_
            clear n0_ n1_
            (try clear hb)
            (try clear hb2)
            (try clear hk)
            (try clear hi)
            refine hK.out _ _ ⟨(blk_cell BK198.out 0).trans rfl,(blk_cell BK198.out 1).trans rfl,(blk_cell BK198.out 2).trans rfl,(blk_cell BK198.out 3).trans rfl,((HB.out.cell (World.block_lt_of_cell? w _ hw202_0)).trans hw202_0),((HB.out.cell (World.block_lt_of_cell? w _ hw202_1)).trans hw202_1),((HB.out.cell (World.block_lt_of_cell? w _ hw202_2)).trans hw202_2),((HB.out.cell (World.block_lt_of_cell? w _ hw202_3)).trans hw202_3),((HB.out.cell (World.block_lt_of_cell? w _ hw204_0)).trans hw204_0),((HB.out.cell (World.block_lt_of_cell? w _ hw204_1)).trans hw204_1),((HB.out.cell (World.block_lt_of_cell? w _ hw204_2)).trans hw204_2),((HB.out.cell (World.block_lt_of_cell? w _ hw204_3)).trans hw204_3)⟩ (fun hHeld => ?_)
            clear hK K
            refine norm_ (a' := ?_) ?_ ?_
            rotate_left
            ·show Act.put _ (some 32) _ = _
             simp only [Act.put,List.setIfInBounds_toArray,List.set_cons_zero,List.set_cons_succ,i64_w,i32_w]
             rfl
            refine one_ (i := 9) (N := some 37) #[true,true,true,true,true,true,true,true,true,true,false,false] rfl rfl (one_of HT_.out (by kernel_rfl)) (by decide) (fun K hK => ?_)
            refine goes_ Tryd.func14 (by kernel_rfl) rfl #[.agg #[.int .i64 ((rd_T29 l0_3 1).f0),.int .i64 ((rd_T29 l0_3 1).f1),.string ((rd_T29 l0_3 1).f2),.slice A204_3 ((rd_T29 l0_3 1).f3).length c204_3]] (by rfl) rfl rfl (by (try simp only [List.map_toArray,List.map_cons,List.map_nil]);first|done|rfl) ?_
            with_reducible refine (ih k (by omega) ((rd_T29 l0_3 1).f0) ((rd_T29 l0_3 1).f1) ((rd_T29 l0_3 1).f2) _ _ ((rd_T29 l0_3 1).f3) t205 _ ?hT_ ?side1 ?side2 A23.out).mono ?_
            (case hT_ => exact tabB HT.out (by repeat (first|(with_reducible first|exact HB.out|apply bA|apply bN|apply bD|refine bS ?_ GE198.out)|exact HB.out)))
            (case side1 => repeat (first|exact (Kd.C_below HR204_3.out HB.out)|(with_reducible refine cA ?_ _)|(with_reducible refine cN ?_ _)|(with_reducible refine cD ?_)))
            (case side2 => exact HC204_3.out)
            rintro e w60 ⟨rfl,hb⟩
            refine ⟨_,rfl,?_⟩
            have n0_ := mk0 (blk_below (by exact kX BK198.out) hb)
            have n1_ := mk0 (below_step (by repeat (first|(with_reducible first|exact HB.out|apply bA|apply bN|apply bD|refine bS ?_ GE198.out)|exact HB.out)) hb)
            clear BK198
            clear HB
            have BK198 := n0_
            have HB := n1_
            clear n0_ n1_
            (try clear hb)
            (try clear hb2)
            (try clear hk)
            (try clear hi)
            refine hK.out _ _ ⟨(blk_cell BK198.out 0).trans rfl,(blk_cell BK198.out 1).trans rfl,(blk_cell BK198.out 2).trans rfl,(blk_cell BK198.out 3).trans rfl,((HB.out.cell (World.block_lt_of_cell? w _ hw202_0)).trans hw202_0),((HB.out.cell (World.block_lt_of_cell? w _ hw202_1)).trans hw202_1),((HB.out.cell (World.block_lt_of_cell? w _ hw202_2)).trans hw202_2),((HB.out.cell (World.block_lt_of_cell? w _ hw202_3)).trans hw202_3),((HB.out.cell (World.block_lt_of_cell? w _ hw204_0)).trans hw204_0),((HB.out.cell (World.block_lt_of_cell? w _ hw204_1)).trans hw204_1),((HB.out.cell (World.block_lt_of_cell? w _ hw204_2)).trans hw204_2),((HB.out.cell (World.block_lt_of_cell? w _ hw204_3)).trans hw204_3)⟩ (fun hHeld => ?_)
            clear hK K
            refine norm_ (a' := ?_) ?_ ?_
            rotate_left
            ·show Act.put _ (some 37) _ = _
             simp only [Act.put,List.setIfInBounds_toArray,List.set_cons_zero,List.set_cons_succ,i64_w,i32_w]
             rfl
            refine pure_ (i := 10) (N := some 3) (v := ?_) (a' := ?_) #[true,true,true,true,true,true,true,true,true,true,true,false] rfl rfl (any_of HT_.out (by kernel_rfl)) (fun _ _ _ h => h) (Or.inl ⟨by rfl,?_⟩) ?_ ?_
            rotate_left
            ·intro w'
             go_simp
             with_reducible rfl
            rotate_left
            ·simp only [Act.put,List.setIfInBounds_toArray,List.set_cons_zero,List.set_cons_succ,i64_w,i32_w]
             rfl
            refine pure_ (i := 11) (N := some 4) (v := ?_) (a' := ?_) #[true,true,true,true,true,true,true,true,true,true,true,true] rfl rfl (any_of HT_.out (by kernel_rfl)) (fun _ _ _ h => h) (Or.inl ⟨by rfl,?_⟩) ?_ ?_
            rotate_left
            ·intro w'
             go_simp
             with_reducible rfl
            rotate_left
            ·simp only [Act.put,List.setIfInBounds_toArray,List.set_cons_zero,List.set_cons_succ,i64_w,i32_w]
             rfl
            refine done_ (done_of HT_.out (by kernel_rfl)) ?_
            have z61 := bc4 BK198.out
            try go_wp2
            have n0_ := mk0 (kD BK198.out)
            have n1_ := mk0 (bD HB.out)
            clear BK198
            clear HB
            have BK198 := n0_
            have HB := n1_
            clear n0_ n1_
            have p212 : 0 ≤ (0 : Int) := (by omega)
            have q212 : 0 < (l0_3.length : Int) := of_decide_eq_true (by first|(with_reducible assumption)|assumption)
            obtain ⟨ad212,A212_3,c212_3,e212,hx212_0,hx212_1,hx212_2,hx212_3,hl212_3,hi212_3⟩ := at_T29 HR0_3.out 0 p212 q212
            have hw212_3 := hx212_3
            (try rw [show ((0 : Int)).toNat = 0 from rfl] at hw212_3)
            (try rw [show 0 * 4 = 0 from rfl] at hw212_3)
            (try rw [Addr.add_zero'] at hw212_3)
            have hw212_2 := hx212_2
            (try rw [show ((0 : Int)).toNat = 0 from rfl] at hw212_2)
            (try rw [show 0 * 4 = 0 from rfl] at hw212_2)
            (try rw [Addr.add_zero'] at hw212_2)
            have hw212_1 := hx212_1
            (try rw [show ((0 : Int)).toNat = 0 from rfl] at hw212_1)
            (try rw [show 0 * 4 = 0 from rfl] at hw212_1)
            (try rw [Addr.add_zero'] at hw212_1)
            have hw212_0 := hx212_0
            (try rw [show ((0 : Int)).toNat = 0 from rfl] at hw212_0)
            (try rw [show 0 * 4 = 0 from rfl] at hw212_0)
            (try rw [Addr.add_zero'] at hw212_0)
            obtain rfl : ad202 = ad212 := (by injection e212)
            have qi212 : (0 < l0_3.length) = True := eq_true (by omega)
            (try rw [show ((0 : Int)).toNat = 0 from rfl] at hx212_0)
            (try rw [show 0 * 4 = 0 from rfl] at hx212_0)
            (try rw [Addr.add_zero'] at hx212_0)
            (try rw [show ((0 : Int)).toNat = 0 from rfl] at hx212_1)
            (try rw [show 0 * 4 = 0 from rfl] at hx212_1)
            (try rw [Addr.add_zero'] at hx212_1)
            (try rw [show ((0 : Int)).toNat = 0 from rfl] at hx212_2)
            (try rw [show 0 * 4 = 0 from rfl] at hx212_2)
            (try rw [Addr.add_zero'] at hx212_2)
            (try rw [show ((0 : Int)).toNat = 0 from rfl] at hx212_3)
            (try rw [show 0 * 4 = 0 from rfl] at hx212_3)
            (try rw [Addr.add_zero'] at hx212_3)
            replace hx212_0 := hbc HB.out hx212_0
            replace hx212_1 := hbc HB.out hx212_1
            replace hx212_2 := hbc HB.out hx212_2
            try (have e_ := hx212_3.symm.trans hq202_3;injection e_ with e_;injection e_ with e1_ e2_ e3_;subst e1_;subst e3_)
            replace hx212_3 := hbc HB.out hx212_3
            have HR212_3 := mk0 hi212_3
            have HC212_3 := mk0 hl212_3
            clear hi212_3 hl212_3
            replace p212 := eq_true p212
            replace q212 := eq_true q212
            have p215 : 0 ≤ (1 : Int) := (by omega)
            have q215 : 1 < (l0_3.length : Int) := of_decide_eq_true (by first|(with_reducible assumption)|assumption)
            obtain ⟨ad215,A215_3,c215_3,e215,hx215_0,hx215_1,hx215_2,hx215_3,hl215_3,hi215_3⟩ := at_T29 HR0_3.out 1 p215 q215
            have hw215_3 := hx215_3
            (try rw [show ((1 : Int)).toNat = 1 from rfl] at hw215_3)
            (try rw [show 1 * 4 = 4 from rfl] at hw215_3)
            (try simp only [Nat.reduceMul,Nat.reduceEqDiff,Go.Addr.add,↓reduceIte] at hw215_3)
            have hw215_2 := hx215_2
            (try rw [show ((1 : Int)).toNat = 1 from rfl] at hw215_2)
            (try rw [show 1 * 4 = 4 from rfl] at hw215_2)
            (try simp only [Nat.reduceMul,Nat.reduceEqDiff,Go.Addr.add,↓reduceIte] at hw215_2)
            have hw215_1 := hx215_1
            (try rw [show ((1 : Int)).toNat = 1 from rfl] at hw215_1)
            (try rw [show 1 * 4 = 4 from rfl] at hw215_1)
            (try simp only [Nat.reduceMul,Nat.reduceEqDiff,Go.Addr.add,↓reduceIte] at hw215_1)
            have hw215_0 := hx215_0
            (try rw [show ((1 : Int)).toNat = 1 from rfl] at hw215_0)
            (try rw [show 1 * 4 = 4 from rfl] at hw215_0)
            (try simp only [Nat.reduceMul,Nat.reduceEqDiff,Go.Addr.add,↓reduceIte] at hw215_0)
            obtain rfl : ad202 = ad215 := (by injection e215)
            (try simp only [show (1 : Int).toNat = 1 from rfl,Nat.reduceMul,Nat.reduceEqDiff,Go.Addr.add,↓reduceIte] at hx215_0)
            (try simp only [show (1 : Int).toNat = 1 from rfl,Nat.reduceMul,Nat.reduceEqDiff,Go.Addr.add,↓reduceIte] at hx215_1)
            (try simp only [show (1 : Int).toNat = 1 from rfl,Nat.reduceMul,Nat.reduceEqDiff,Go.Addr.add,↓reduceIte] at hx215_2)
            (try simp only [show (1 : Int).toNat = 1 from rfl,Nat.reduceMul,Nat.reduceEqDiff,Go.Addr.add,↓reduceIte] at hx215_3)
            have qi215 : (1 < l0_3.length) = True := eq_true (by omega)
            (try rw [show ((1 : Int)).toNat = 1 from rfl] at hx215_0)
            (try rw [show 1 * 4 = 4 from rfl] at hx215_0)
            (try rw [show ((1 : Int)).toNat = 1 from rfl] at hx215_1)
            (try rw [show 1 * 4 = 4 from rfl] at hx215_1)
            (try rw [show ((1 : Int)).toNat = 1 from rfl] at hx215_2)
            (try rw [show 1 * 4 = 4 from rfl] at hx215_2)
            (try rw [show ((1 : Int)).toNat = 1 from rfl] at hx215_3)
            (try rw [show 1 * 4 = 4 from rfl] at hx215_3)
            replace hx215_0 := hbc HB.out hx215_0
            replace hx215_1 := hbc HB.out hx215_1
            replace hx215_2 := hbc HB.out hx215_2
            try (have e_ := hx215_3.symm.trans hq204_3;injection e_ with e_;injection e_ with e1_ e2_ e3_;subst e1_;subst e3_)
            replace hx215_3 := hbc HB.out hx215_3
            have HR215_3 := mk0 hi215_3
            have HC215_3 := mk0 hl215_3
            clear hi215_3 hl215_3
            replace p215 := eq_true p215
            replace q215 := eq_true q215
            refine start_ (n := 25) (S := fun w' => w'.cell? ⟨gb198,0,none⟩ = some (.int .i64 a0_0) ∧ w'.cell? ⟨gb198,1,none⟩ = some (.int .i64 a0_1) ∧ w'.cell? ⟨gb198,2,none⟩ = some (.string a0_2) ∧ w'.cell? ⟨gb198,3,none⟩ = some (.slice (some ad202) l0_3.length c0_3) ∧ w'.cell? ad202 = some (.int .i64 ((rd_T29 l0_3 0).f0)) ∧ w'.cell? ⟨ad202.block,ad202.off + 1,none⟩ = some (.int .i64 ((rd_T29 l0_3 0).f1)) ∧ w'.cell? ⟨ad202.block,ad202.off + 2,none⟩ = some (.string ((rd_T29 l0_3 0).f2)) ∧ w'.cell? ⟨ad202.block,ad202.off + 3,none⟩ = some (.slice A212_3 ((rd_T29 l0_3 0).f3).length c212_3) ∧ w'.cell? ⟨ad202.block,ad202.off + 4,none⟩ = some (.int .i64 ((rd_T29 l0_3 1).f0)) ∧ w'.cell? ⟨ad202.block,ad202.off + 4 + 1,none⟩ = some (.int .i64 ((rd_T29 l0_3 1).f1)) ∧ w'.cell? ⟨ad202.block,ad202.off + 4 + 2,none⟩ = some (.string ((rd_T29 l0_3 1).f2)) ∧ w'.cell? ⟨ad202.block,ad202.off + 4 + 3,none⟩ = some (.slice A215_3 ((rd_T29 l0_3 1).f3).length c215_3)) (ds := []) #[false,false,false,false,false,false,false,false,false,false,false,false,false,false,false,false,false,false,false,false,false,false,false,false,false] (by kernel_rfl) rfl rfl ⟨(blk_cell BK198.out 0).trans rfl,(blk_cell BK198.out 1).trans rfl,(blk_cell BK198.out 2).trans rfl,(blk_cell BK198.out 3).trans rfl,((HB.out.cell (World.block_lt_of_cell? w _ hw212_0)).trans hw212_0),((HB.out.cell (World.block_lt_of_cell? w _ hw212_1)).trans hw212_1),((HB.out.cell (World.block_lt_of_cell? w _ hw212_2)).trans hw212_2),((HB.out.cell (World.block_lt_of_cell? w _ hw212_3)).trans hw212_3),((HB.out.cell (World.block_lt_of_cell? w _ hw215_0)).trans hw215_0),((HB.out.cell (World.block_lt_of_cell? w _ hw215_1)).trans hw215_1),((HB.out.cell (World.block_lt_of_cell? w _ hw215_2)).trans hw215_2),((HB.out.cell (World.block_lt_of_cell? w _ hw215_3)).trans hw215_3)⟩ (fun hHeld => ?_);refine with_tabW impl_expText.tab15 impl_expText.bits15 (fun HT_ HW_ => ?_)
            generalize w60.drew = w62 at BK198 HB HR212_3 HR215_3 hx212_0 hx212_1 hx212_2 hx212_3 hx215_0 hx215_1 hx215_2 hx215_3 hHeld ⊢
            refine pure_ (i := 0) (N := some 66) (v := ?_) (a' := ?_) #[true,false,false,false,false,false,false,false,false,false,false,false,false,false,false,false,false,false,false,false,false,false,false,false,false] rfl rfl (any_of HT_.out (by kernel_rfl)) (fun _ _ _ h => h) (Or.inl ⟨by rfl,?_⟩) ?_ ?_
            rotate_left
            ·intro w'
             go_simp
             with_reducible rfl
            rotate_left
            ·simp only [Act.put,List.setIfInBounds_toArray,List.set_cons_zero,List.set_cons_succ,i64_w,i32_w]
             rfl
            refine pure_ (i := 1) (N := some 67) (v := ?_) (a' := ?_) #[true,true,false,false,false,false,false,false,false,false,false,false,false,false,false,false,false,false,false,false,false,false,false,false,false] rfl rfl (any_of HT_.out (by kernel_rfl)) (fun _ _ _ h => h) (Or.inl ⟨by rfl,?_⟩) ?_ ?_
            rotate_left
            ·intro w'
             go_simp
             with_reducible rfl
            rotate_left
            ·simp only [Act.put,List.setIfInBounds_toArray,List.set_cons_zero,List.set_cons_succ,i64_w,i32_w]
             rfl
            refine pure_ (i := 8) (N := some 74) (v := ?_) (a' := ?_) #[true,true,false,false,false,false,false,false,true,false,false,false,false,false,false,false,false,false,false,false,false,false,false,false,false] rfl rfl (any_of HT_.out (by kernel_rfl)) (fun _ _ _ h => h) (Or.inl ⟨by rfl,?_⟩) ?_ ?_
            rotate_left
            ·intro w'
             go_simp
             with_reducible rfl
            rotate_left
            ·simp only [Act.put,List.setIfInBounds_toArray,List.set_cons_zero,List.set_cons_succ,i64_w,i32_w]
             rfl
            refine pure_ (i := 9) (N := some 75) (v := ?_) (a' := ?_) #[true,true,false,false,false,false,false,false,true,true,false,false,false,false,false,false,false,false,false,false,false,false,false,false,false] rfl rfl (any_of HT_.out (by kernel_rfl)) (fun _ _ _ h => h) (Or.inl ⟨by rfl,?_⟩) ?_ ?_
            rotate_left
            ·intro w'
             go_simp
             with_reducible rfl
            rotate_left
            ·simp only [Act.put,List.setIfInBounds_toArray,List.set_cons_zero,List.set_cons_succ,i64_w,i32_w]
             rfl
            refine take_ (i := 2) (N := some 68) (v := ?_) (a' := ?_) #[true,true,true,false,false,false,false,false,true,true,false,false,false,false,false,false,false,false,false,false,false,false,false,false,false] rfl rfl (take_ofW HT_.out HW_.out (by kernel_rfl)) (fun _ _ _ h => h) (Or.inl ⟨by rfl,?_⟩) hHeld ?_ ?_
            rotate_left
            ·rintro w' ⟨s0,s1,s2,s3,s4,s5,s6,s7,s8,s9,s10,s11⟩
             go_simp
             with_reducible rfl
            rotate_left
            ·simp only [Act.put,List.setIfInBounds_toArray,List.set_cons_zero,List.set_cons_succ,i64_w,i32_w]
             rfl
            refine pure_ (i := 3) (N := some 69) (v := ?_) (a' := ?_) #[true,true,true,true,false,false,false,false,true,true,false,false,false,false,false,false,false,false,false,false,false,false,false,false,false] rfl rfl (any_of HT_.out (by kernel_rfl)) (fun _ _ _ h => h) (Or.inl ⟨by rfl,?_⟩) ?_ ?_
            rotate_left
            ·intro w'
             go_simp
             with_reducible rfl
            rotate_left
            ·simp only [Act.put,List.setIfInBounds_toArray,List.set_cons_zero,List.set_cons_succ,i64_w,i32_w]
             rfl
            refine take_ (i := 4) (N := some 70) (v := ?_) (a' := ?_) #[true,true,true,true,true,false,false,false,true,true,false,false,false,false,false,false,false,false,false,false,false,false,false,false,false] rfl rfl (take_ofW HT_.out HW_.out (by kernel_rfl)) (fun _ _ _ h => h) (Or.inl ⟨by rfl,?_⟩) hHeld ?_ ?_
            rotate_left
            ·rintro w' ⟨s0,s1,s2,s3,s4,s5,s6,s7,s8,s9,s10,s11⟩
             go_simp
             with_reducible rfl
            rotate_left
            ·simp only [Act.put,List.setIfInBounds_toArray,List.set_cons_zero,List.set_cons_succ,i64_w,i32_w]
             rfl
            refine take_ (i := 10) (N := some 76) (v := ?_) (a' := ?_) #[true,true,true,true,true,false,false,false,true,true,true,false,false,false,false,false,false,false,false,false,false,false,false,false,false] rfl rfl (take_ofW HT_.out HW_.out (by kernel_rfl)) (fun _ _ _ h => h) (Or.inl ⟨by rfl,?_⟩) hHeld ?_ ?_
            rotate_left
            ·rintro w' ⟨s0,s1,s2,s3,s4,s5,s6,s7,s8,s9,s10,s11⟩
             go_simp
             with_reducible rfl
            rotate_left
            ·simp only [Act.put,List.setIfInBounds_toArray,List.set_cons_zero,List.set_cons_succ,i64_w,i32_w]
             rfl
            refine pure_ (i := 11) (N := some 77) (v := ?_) (a' := ?_) #[true,true,true,true,true,false,false,false,true,true,true,true,false,false,false,false,false,false,false,false,false,false,false,false,false] rfl rfl (any_of HT_.out (by kernel_rfl)) (fun _ _ _ h => h) (Or.inl ⟨by rfl,?_⟩) ?_ ?_
            rotate_left
            ·intro w'
             go_simp
             with_reducible rfl
            rotate_left
            ·simp only [Act.put,List.setIfInBounds_toArray,List.set_cons_zero,List.set_cons_succ,i64_w,i32_w]
             rfl
            refine take_ (i := 12) (N := some 78) (v := ?_) (a' := ?_) #[true,true,true,true,true,false,false,false,true,true,true,true,true,false,false,false,false,false,false,false,false,false,false,false,false] rfl rfl (take_ofW HT_.out HW_.out (by kernel_rfl)) (fun _ _ _ h => h) (Or.inl ⟨by rfl,?_⟩) hHeld ?_ ?_
            rotate_left
            ·rintro w' ⟨s0,s1,s2,s3,s4,s5,s6,s7,s8,s9,s10,s11⟩
             go_simp
             with_reducible rfl
            rotate_left
            ·simp only [Act.put,List.setIfInBounds_toArray,List.set_cons_zero,List.set_cons_succ,i64_w,i32_w]
             rfl
            refine one_ (i := 5) (N := some 71) #[true,true,true,true,true,true,false,false,true,true,true,true,true,false,false,false,false,false,false,false,false,false,false,false,false] rfl rfl (one_of HT_.out (by kernel_rfl)) (by decide) (fun K hK => ?_)
            refine goes_ Tryd.func23 (by kernel_rfl) rfl #[.agg #[.int .i64 ((rd_T29 l0_3 0).f0),.int .i64 ((rd_T29 l0_3 0).f1),.string ((rd_T29 l0_3 0).f2),.slice A212_3 ((rd_T29 l0_3 0).f3).length c212_3]] (by rfl) rfl rfl (by (try simp only [List.map_toArray,List.map_cons,List.map_nil]);first|done|rfl) ?_
            with_reducible refine (impl_isSum.calls ((rd_T29 l0_3 0).f0) ((rd_T29 l0_3 0).f1) ((rd_T29 l0_3 0).f2) _ _ ((rd_T29 l0_3 0).f3) t213 _ ?side1 ?side2 A49.out).mono ?_
            (case side1 => repeat (first|exact (Kd.C_below HR212_3.out HB.out)|(with_reducible refine cA ?_ _)|(with_reducible refine cN ?_ _)|(with_reducible refine cD ?_)))
            (case side2 => exact HC212_3.out)
            rintro e w63 ⟨rfl,hb⟩
            refine ⟨_,rfl,?_⟩
            have n0_ := mk0 (blk_below (by exact kX BK198.out) hb)
            have n1_ := mk0 (below_step (by repeat (first|(with_reducible first|exact HB.out|apply bA|apply bN|apply bD|refine bS ?_ GE198.out)|exact HB.out)) hb)
            clear BK198
            clear HB
            have BK198 := n0_
            have HB := n1_
            clear n0_ n1_
            (try clear hb)
            (try clear hb2)
            (try clear hk)
            (try clear hi)
            refine hK.out _ _ ⟨(blk_cell BK198.out 0).trans rfl,(blk_cell BK198.out 1).trans rfl,(blk_cell BK198.out 2).trans rfl,(blk_cell BK198.out 3).trans rfl,((HB.out.cell (World.block_lt_of_cell? w _ hw212_0)).trans hw212_0),((HB.out.cell (World.block_lt_of_cell? w _ hw212_1)).trans hw212_1),((HB.out.cell (World.block_lt_of_cell? w _ hw212_2)).trans hw212_2),((HB.out.cell (World.block_lt_of_cell? w _ hw212_3)).trans hw212_3),((HB.out.cell (World.block_lt_of_cell? w _ hw215_0)).trans hw215_0),((HB.out.cell (World.block_lt_of_cell? w _ hw215_1)).trans hw215_1),((HB.out.cell (World.block_lt_of_cell? w _ hw215_2)).trans hw215_2),((HB.out.cell (World.block_lt_of_cell? w _ hw215_3)).trans hw215_3)⟩ (fun hHeld => ?_)
            clear hK K
            refine norm_ (a' := ?_) ?_ ?_
            rotate_left
            ·show Act.put _ (some 71) _ = _
             simp only [Act.put,List.setIfInBounds_toArray,List.set_cons_zero,List.set_cons_succ,i64_w,i32_w]
             rfl
            refine one_ (i := 6) (N := some 72) #[true,true,true,true,true,true,true,false,true,true,true,true,true,false,false,false,false,false,false,false,false,false,false,false,false] rfl rfl (one_of HT_.out (by kernel_rfl)) (by decide) (fun K hK => ?_)
            refine goes_ Tryd.func22 (by kernel_rfl) rfl #[.string t203,.bool t213] (by rfl) rfl rfl (by (try simp only [List.map_toArray,List.map_cons,List.map_nil]);first|done|rfl) ?_
            with_reducible refine (impl_within.calls t203 t213 t214 _ A50.out).mono ?_
            rintro e w' ⟨rfl,⟨nd,rfl⟩⟩
            refine ⟨_,rfl,?_⟩
            refine hK.out _ _ ⟨(blk_cell BK198.out 0).trans rfl,(blk_cell BK198.out 1).trans rfl,(blk_cell BK198.out 2).trans rfl,(blk_cell BK198.out 3).trans rfl,((HB.out.cell (World.block_lt_of_cell? w _ hw212_0)).trans hw212_0),((HB.out.cell (World.block_lt_of_cell? w _ hw212_1)).trans hw212_1),((HB.out.cell (World.block_lt_of_cell? w _ hw212_2)).trans hw212_2),((HB.out.cell (World.block_lt_of_cell? w _ hw212_3)).trans hw212_3),((HB.out.cell (World.block_lt_of_cell? w _ hw215_0)).trans hw215_0),((HB.out.cell (World.block_lt_of_cell? w _ hw215_1)).trans hw215_1),((HB.out.cell (World.block_lt_of_cell? w _ hw215_2)).trans hw215_2),((HB.out.cell (World.block_lt_of_cell? w _ hw215_3)).trans hw215_3)⟩ (fun hHeld => ?_)
            clear hK K
            refine norm_ (a' := ?_) ?_ ?_
            rotate_left
            ·show Act.put _ (some 72) _ = _
             simp only [Act.put,List.setIfInBounds_toArray,List.set_cons_zero,List.set_cons_succ,i64_w,i32_w]
             rfl
            refine pure_ (i := 7) (N := some 73) (v := ?_) (a' := ?_) #[true,true,true,true,true,true,true,true,true,true,true,true,true,false,false,false,false,false,false,false,false,false,false,false,false] rfl rfl (any_of HT_.out (by kernel_rfl)) (fun _ _ _ h => h) (Or.inl ⟨by rfl,?_⟩) ?_ ?_
            rotate_left
            ·intro w'
             go_simp
             with_reducible rfl
            rotate_left
            ·simp only [Act.put,List.setIfInBounds_toArray,List.set_cons_zero,List.set_cons_succ,i64_w,i32_w]
             rfl
            refine one_ (i := 13) (N := some 79) #[true,true,true,true,true,true,true,true,true,true,true,true,true,true,false,false,false,false,false,false,false,false,false,false,false] rfl rfl (one_of HT_.out (by kernel_rfl)) (by decide) (fun K hK => ?_)
            refine goes_ Tryd.func23 (by kernel_rfl) rfl #[.agg #[.int .i64 ((rd_T29 l0_3 1).f0),.int .i64 ((rd_T29 l0_3 1).f1),.string ((rd_T29 l0_3 1).f2),.slice A215_3 ((rd_T29 l0_3 1).f3).length c215_3]] (by rfl) rfl rfl (by (try simp only [List.map_toArray,List.map_cons,List.map_nil]);first|done|rfl) ?_
            with_reducible refine (impl_isSum.calls ((rd_T29 l0_3 1).f0) ((rd_T29 l0_3 1).f1) ((rd_T29 l0_3 1).f2) _ _ ((rd_T29 l0_3 1).f3) true _ ?side1 ?side2 A52.out).mono ?_
            (case side1 => repeat (first|exact (Kd.C_below HR215_3.out (by repeat (first|(with_reducible first|exact HB.out|apply bA|apply bN|apply bD|refine bS ?_ GE198.out)|exact HB.out)))|(with_reducible refine cA ?_ _)|(with_reducible refine cN ?_ _)|(with_reducible refine cD ?_)))
            (case side2 => exact HC215_3.out)
            rintro e w64 ⟨rfl,hb⟩
            refine ⟨_,rfl,?_⟩
            have n0_ := mk0 (blk_below (by exact kX BK198.out) hb)
            have n1_ := mk0 (below_step (by repeat (first|(with_reducible first|exact HB.out|apply bA|apply bN|apply bD|refine bS ?_ GE198.out)|exact HB.out)) hb)
            clear BK198
            clear HB
            have BK198 := n0_
            have HB := n1_
            clear n0_ n1_
            (try clear hb)
            (try clear hb2)
            (try clear hk)
            (try clear hi)
            refine hK.out _ _ ⟨(blk_cell BK198.out 0).trans rfl,(blk_cell BK198.out 1).trans rfl,(blk_cell BK198.out 2).trans rfl,(blk_cell BK198.out 3).trans rfl,((HB.out.cell (World.block_lt_of_cell? w _ hw212_0)).trans hw212_0),((HB.out.cell (World.block_lt_of_cell? w _ hw212_1)).trans hw212_1),((HB.out.cell (World.block_lt_of_cell? w _ hw212_2)).trans hw212_2),((HB.out.cell (World.block_lt_of_cell? w _ hw212_3)).trans hw212_3),((HB.out.cell (World.block_lt_of_cell? w _ hw215_0)).trans hw215_0),((HB.out.cell (World.block_lt_of_cell? w _ hw215_1)).trans hw215_1),((HB.out.cell (World.block_lt_of_cell? w _ hw215_2)).trans hw215_2),((HB.out.cell (World.block_lt_of_cell? w _ hw215_3)).trans hw215_3)⟩ (fun hHeld => ?_)
            clear hK K
            refine norm_ (a' := ?_) ?_ ?_
            rotate_left
            ·show Act.put _ (some 79) _ = _
             simp only [Act.put,List.setIfInBounds_toArray,List.set_cons_zero,List.set_cons_succ,i64_w,i32_w]
             rfl
            refine pure_ (i := 14) (N := some 80) (v := ?_) (a' := ?_) #[true,true,true,true,true,true,true,true,true,true,true,true,true,true,true,false,false,false,false,false,false,false,false,false,false] rfl rfl (any_of HT_.out (by kernel_rfl)) (fun _ _ _ h => h) (Or.inl ⟨by rfl,?_⟩) ?_ ?_
            rotate_left
            ·intro w'
             go_simp
             with_reducible rfl
            rotate_left
            ·simp only [Act.put,List.setIfInBounds_toArray,List.set_cons_zero,List.set_cons_succ,i64_w,i32_w]
             rfl
            refine pure_ (i := 15) (N := some 81) (v := undef) (a' := ?_) #[true,true,true,true,true,true,true,true,true,true,true,true,true,true,true,true,false,false,false,false,false,false,false,false,false] rfl rfl (any_of HT_.out (by kernel_rfl)) (fun _ _ _ h => h) (Or.inr ⟨by rfl,rfl⟩) ?_ ?_
            rotate_left
            ·simp only [Act.put,List.setIfInBounds_toArray,List.set_cons_zero,List.set_cons_succ,i64_w,i32_w]
             rfl
            refine pure_ (i := 16) (N := some 82) (v := undef) (a' := ?_) #[true,true,true,true,true,true,true,true,true,true,true,true,true,true,true,true,true,false,false,false,false,false,false,false,false] rfl rfl (any_of HT_.out (by kernel_rfl)) (fun _ _ _ h => h) (Or.inr ⟨by rfl,rfl⟩) ?_ ?_
            rotate_left
            ·simp only [Act.put,List.setIfInBounds_toArray,List.set_cons_zero,List.set_cons_succ,i64_w,i32_w]
             rfl
            refine pure_ (i := 17) (N := some 83) (v := undef) (a' := ?_) #[true,true,true,true,true,true,true,true,true,true,true,true,true,true,true,true,true,true,false,false,false,false,false,false,false] rfl rfl (any_of HT_.out (by kernel_rfl)) (fun _ _ _ h => h) (Or.inr ⟨by rfl,rfl⟩) ?_ ?_
            rotate_left
            ·simp only [Act.put,List.setIfInBounds_toArray,List.set_cons_zero,List.set_cons_succ,i64_w,i32_w]
             rfl
            refine pure_ (i := 18) (N := some 84) (v := undef) (a' := ?_) #[true,true,true,true,true,true,true,true,true,true,true,true,true,true,true,true,true,true,true,false,false,false,false,false,false] rfl rfl (any_of HT_.out (by kernel_rfl)) (fun _ _ _ h => h) (Or.inr ⟨by rfl,rfl⟩) ?_ ?_
            rotate_left
            ·simp only [Act.put,List.setIfInBounds_toArray,List.set_cons_zero,List.set_cons_succ,i64_w,i32_w]
             rfl
            refine pure_ (i := 19) (N := some 85) (v := undef) (a' := ?_) #[true,true,true,true,true,true,true,true,true,true,true,true,true,true,true,true,true,true,true,true,false,false,false,false,false] rfl rfl (any_of HT_.out (by kernel_rfl)) (fun _ _ _ h => h) (Or.inr ⟨by rfl,rfl⟩) ?_ ?_
            rotate_left
            ·simp only [Act.put,List.setIfInBounds_toArray,List.set_cons_zero,List.set_cons_succ,i64_w,i32_w]
             rfl
            refine pure_ (i := 20) (N := some 86) (v := undef) (a' := ?_) #[true,true,true,true,true,true,true,true,true,true,true,true,true,true,true,true,true,true,true,true,true,false,false,false,false] rfl rfl (any_of HT_.out (by kernel_rfl)) (fun _ _ _ h => h) (Or.inr ⟨by rfl,rfl⟩) ?_ ?_
            rotate_left
            ·simp only [Act.put,List.setIfInBounds_toArray,List.set_cons_zero,List.set_cons_succ,i64_w,i32_w]
             rfl
            refine pure_ (i := 21) (N := some 87) (v := ?_) (a' := ?_) #[true,true,true,true,true,true,true,true,true,true,true,true,true,true,true,true,true,true,true,true,true,true,false,false,false] rfl rfl (any_of HT_.out (by kernel_rfl)) (fun _ _ _ h => h) (Or.inl ⟨by rfl,?_⟩) ?_ ?_
            rotate_left
            ·intro w'
             go_simp
             with_reducible rfl
            rotate_left
            ·simp only [Act.put,List.setIfInBounds_toArray,List.set_cons_zero,List.set_cons_succ,i64_w,i32_w]
             rfl
            refine one_ (i := 22) (N := some 88) #[true,true,true,true,true,true,true,true,true,true,true,true,true,true,true,true,true,true,true,true,true,true,true,false,false] rfl rfl (one_of HT_.out (by kernel_rfl)) (by decide) (fun K hK => ?_)
            refine goes_ Tryd.func22 (by kernel_rfl) rfl #[.string t205,.bool true] (by rfl) rfl rfl (by (try simp only [List.map_toArray,List.map_cons,List.map_nil]);first|done|rfl) ?_
            with_reducible refine (impl_within.calls t205 true t217 _ A54.out).mono ?_
            rintro e w' ⟨rfl,⟨nd,rfl⟩⟩
            refine ⟨_,rfl,?_⟩
            refine hK.out _ _ ⟨(blk_cell BK198.out 0).trans rfl,(blk_cell BK198.out 1).trans rfl,(blk_cell BK198.out 2).trans rfl,(blk_cell BK198.out 3).trans rfl,((HB.out.cell (World.block_lt_of_cell? w _ hw212_0)).trans hw212_0),((HB.out.cell (World.block_lt_of_cell? w _ hw212_1)).trans hw212_1),((HB.out.cell (World.block_lt_of_cell? w _ hw212_2)).trans hw212_2),((HB.out.cell (World.block_lt_of_cell? w _ hw212_3)).trans hw212_3),((HB.out.cell (World.block_lt_of_cell? w _ hw215_0)).trans hw215_0),((HB.out.cell (World.block_lt_of_cell? w _ hw215_1)).trans hw215_1),((HB.out.cell (World.block_lt_of_cell? w _ hw215_2)).trans hw215_2),((HB.out.cell (World.block_lt_of_cell? w _ hw215_3)).trans hw215_3)⟩ (fun hHeld => ?_)
            clear hK K
            refine norm_ (a' := ?_) ?_ ?_
            rotate_left
            ·show Act.put _ (some 88) _ = _
             simp only [Act.put,List.setIfInBounds_toArray,List.set_cons_zero,List.set_cons_succ,i64_w,i32_w]
             rfl
            refine pure_ (i := 23) (N := some 89) (v := ?_) (a' := ?_) #[true,true,true,true,true,true,true,true,true,true,true,true,true,true,true,true,true,true,true,true,true,true,true,true,false] rfl rfl (any_of HT_.out (by kernel_rfl)) (fun _ _ _ h => h) (Or.inl ⟨by rfl,?_⟩) ?_ ?_
            rotate_left
            ·intro w'
             go_simp
             with_reducible rfl
            rotate_left
            ·simp only [Act.put,List.setIfInBounds_toArray,List.set_cons_zero,List.set_cons_succ,i64_w,i32_w]
             rfl
            refine pure_ (i := 24) (N := some 2) (v := ?_) (a' := ?_) #[true,true,true,true,true,true,true,true,true,true,true,true,true,true,true,true,true,true,true,true,true,true,true,true,true] rfl rfl (any_of HT_.out (by kernel_rfl)) (fun _ _ _ h => h) (Or.inl ⟨by rfl,?_⟩) ?_ ?_
            rotate_left
            ·intro w'
             go_simp
             with_reducible rfl
            rotate_left
            ·simp only [Act.put,List.setIfInBounds_toArray,List.set_cons_zero,List.set_cons_succ,i64_w,i32_w]
             rfl
            refine done_ (done_of HT_.out (by kernel_rfl)) ?_
            try go_wp2
            go_ret
            exact ⟨by first|rfl|(simp [errW_none,errW_some] <;> rfl)|(simp [*,errW_none,errW_some] <;> rfl),by repeat (first|(with_reducible first|exact HB.out|apply bA|apply bN|apply bD|refine bS ?_ GE198.out)|exact HB.out)⟩
           ·rw [if_neg c55] at H
            exact absurd H (by simp)
          ·replace c53 := Bool.eq_false_iff.mpr c53
           subst c53
           rw [if_neg (show ¬ (false = true) by decide)] at H
           obtain ⟨t219,A65,H⟩ := bindA H
           by_cases c66 : (t214 ++ (⟨#[32,42,32]⟩ : ByteArray)).size + t219.size ≤ 9223372036854775807
           ·rw [if_pos c66] at H
            have c66b0 := eq_true c66
            have c66b1 : decide ((t214 ++ (⟨#[32,42,32]⟩ : ByteArray)).size + t219.size ≤ 9223372036854775807) = true := decide_eq_true c66
            try have c66b2 : (9223372036854775807 < (t214 ++ (⟨#[32,42,32]⟩ : ByteArray)).size + t219.size) = False := eq_false (Nat.not_lt.2 c66)
            try have c66b9 : (9223372036854775807 < t214.size + 3 + t219.size) = False := eq_false (by have q_ := c66;simp only [ByteArray.size_append] at q_;have z0_ : (⟨#[32,42,32]⟩ : ByteArray).size = 3 := rfl;omega)
            obtain rfl := Option.some.inj H
            go_enter Tryd.func14,Tryd.ntmps14
            try go_wp2_with (first|((with_reducible refine gate_dst (N := 1) rfl ?_);refine box_event ?hg (N := 1) ?hd (cs := #[.int .i64 a0_0,.int .i64 a0_1,.string a0_2,.slice A0_3 l0_3.length c0_3]) (t := 29) ?hr ?_;(case hd => rfl);(case hg => rfl);(case hr => first|(go_simp;done)|(go_simp;rfl));intro gb198 hg w67 hbox hb;have q_ := qB (by repeat (first|(with_reducible first|exact HB.out|apply bA|apply bN|apply bD)|exact HB.out)) hb;have n0_ := mk0 (below_step q_ hb);have n1_ := mk0 (hbox);have n2_ := mk0 (below_size2 q_ hg);have n3_ := n2_;clear HB;have HB := n0_;have BK198 := n1_;have GW198 := n2_;have GE198 := n3_;clear q_ n0_ n1_ n2_ n3_ hb hbox hg;have z68 := bc4 BK198.out))
            have n0_ := mk0 (kD BK198.out)
            have n1_ := mk0 (bD HB.out)
            clear BK198
            clear HB
            have BK198 := n0_
            have HB := n1_
            clear n0_ n1_
            have p202 : 0 ≤ (0 : Int) := (by omega)
            have q202 : 0 < (l0_3.length : Int) := of_decide_eq_true (by first|(with_reducible assumption)|assumption)
            obtain ⟨ad202,A202_3,c202_3,e202,hx202_0,hx202_1,hx202_2,hx202_3,hl202_3,hi202_3⟩ := at_T29 HR0_3.out 0 p202 q202
            have hw202_3 := hx202_3
            (try rw [show ((0 : Int)).toNat = 0 from rfl] at hw202_3)
            (try rw [show 0 * 4 = 0 from rfl] at hw202_3)
            (try rw [Addr.add_zero'] at hw202_3)
            have hw202_2 := hx202_2
            (try rw [show ((0 : Int)).toNat = 0 from rfl] at hw202_2)
            (try rw [show 0 * 4 = 0 from rfl] at hw202_2)
            (try rw [Addr.add_zero'] at hw202_2)
            have hw202_1 := hx202_1
            (try rw [show ((0 : Int)).toNat = 0 from rfl] at hw202_1)
            (try rw [show 0 * 4 = 0 from rfl] at hw202_1)
            (try rw [Addr.add_zero'] at hw202_1)
            have hw202_0 := hx202_0
            (try rw [show ((0 : Int)).toNat = 0 from rfl] at hw202_0)
            (try rw [show 0 * 4 = 0 from rfl] at hw202_0)
            (try rw [Addr.add_zero'] at hw202_0)
            cases e202
            have qi202 : (0 < l0_3.length) = True := eq_true (by omega)
            (try rw [show ((0 : Int)).toNat = 0 from rfl] at hx202_0)
            (try rw [show 0 * 4 = 0 from rfl] at hx202_0)
            (try rw [Addr.add_zero'] at hx202_0)
            (try rw [show ((0 : Int)).toNat = 0 from rfl] at hx202_1)
            (try rw [show 0 * 4 = 0 from rfl] at hx202_1)
            (try rw [Addr.add_zero'] at hx202_1)
            (try rw [show ((0 : Int)).toNat = 0 from rfl] at hx202_2)
            (try rw [show 0 * 4 = 0 from rfl] at hx202_2)
            (try rw [Addr.add_zero'] at hx202_2)
            (try rw [show ((0 : Int)).toNat = 0 from rfl] at hx202_3)
            (try rw [show 0 * 4 = 0 from rfl] at hx202_3)
            (try rw [Addr.add_zero'] at hx202_3)
            replace hx202_0 := hbc HB.out hx202_0
            replace hx202_1 := hbc HB.out hx202_1
            replace hx202_2 := hbc HB.out hx202_2
            have hq202_3 := hx202_3
            replace hx202_3 := hbc HB.out hx202_3
            have HR202_3 := mk0 hi202_3
            have HC202_3 := mk0 hl202_3
            clear hi202_3 hl202_3
            replace p202 := eq_true p202
            replace q202 := eq_true q202
            have p204 : 0 ≤ (1 : Int) := (by omega)
            have q204 : 1 < (l0_3.length : Int) := of_decide_eq_true (by first|(with_reducible assumption)|assumption)
            obtain ⟨ad204,A204_3,c204_3,e204,hx204_0,hx204_1,hx204_2,hx204_3,hl204_3,hi204_3⟩ := at_T29 HR0_3.out 1 p204 q204
            have hw204_3 := hx204_3
            (try rw [show ((1 : Int)).toNat = 1 from rfl] at hw204_3)
            (try rw [show 1 * 4 = 4 from rfl] at hw204_3)
            (try simp only [Nat.reduceMul,Nat.reduceEqDiff,Go.Addr.add,↓reduceIte] at hw204_3)
            have hw204_2 := hx204_2
            (try rw [show ((1 : Int)).toNat = 1 from rfl] at hw204_2)
            (try rw [show 1 * 4 = 4 from rfl] at hw204_2)
            (try simp only [Nat.reduceMul,Nat.reduceEqDiff,Go.Addr.add,↓reduceIte] at hw204_2)
            have hw204_1 := hx204_1
            (try rw [show ((1 : Int)).toNat = 1 from rfl] at hw204_1)
            (try rw [show 1 * 4 = 4 from rfl] at hw204_1)
            (try simp only [Nat.reduceMul,Nat.reduceEqDiff,Go.Addr.add,↓reduceIte] at hw204_1)
            have hw204_0 := hx204_0
            (try rw [show ((1 : Int)).toNat = 1 from rfl] at hw204_0)
            (try rw [show 1 * 4 = 4 from rfl] at hw204_0)
            (try simp only [Nat.reduceMul,Nat.reduceEqDiff,Go.Addr.add,↓reduceIte] at hw204_0)
            obtain rfl : ad202 = ad204 := (by injection e204)
            (try simp only [show (1 : Int).toNat = 1 from rfl,Nat.reduceMul,Nat.reduceEqDiff,Go.Addr.add,↓reduceIte] at hx204_0)
            (try simp only [show (1 : Int).toNat = 1 from rfl,Nat.reduceMul,Nat.reduceEqDiff,Go.Addr.add,↓reduceIte] at hx204_1)
            (try simp only [show (1 : Int).toNat = 1 from rfl,Nat.reduceMul,Nat.reduceEqDiff,Go.Addr.add,↓reduceIte] at hx204_2)
            (try simp only [show (1 : Int).toNat = 1 from rfl,Nat.reduceMul,Nat.reduceEqDiff,Go.Addr.add,↓reduceIte] at hx204_3)
            have qi204 : (1 < l0_3.length) = True := eq_true (by omega)
            (try rw [show ((1 : Int)).toNat = 1 from rfl] at hx204_0)
            (try rw [show 1 * 4 = 4 from rfl] at hx204_0)
            (try rw [show ((1 : Int)).toNat = 1 from rfl] at hx204_1)
            (try rw [show 1 * 4 = 4 from rfl] at hx204_1)
            (try rw [show ((1 : Int)).toNat = 1 from rfl] at hx204_2)
            (try rw [show 1 * 4 = 4 from rfl] at hx204_2)
            (try rw [show ((1 : Int)).toNat = 1 from rfl] at hx204_3)
            (try rw [show 1 * 4 = 4 from rfl] at hx204_3)
            replace hx204_0 := hbc HB.out hx204_0
            replace hx204_1 := hbc HB.out hx204_1
            replace hx204_2 := hbc HB.out hx204_2
            have hq204_3 := hx204_3
            replace hx204_3 := hbc HB.out hx204_3
            have HR204_3 := mk0 hi204_3
            have HC204_3 := mk0 hl204_3
            clear hi204_3 hl204_3
            replace p204 := eq_true p204
            replace q204 := eq_true q204
            refine start_ (n := 12) (S := fun w' => w'.cell? ⟨gb198,0,none⟩ = some (.int .i64 a0_0) ∧ w'.cell? ⟨gb198,1,none⟩ = some (.int .i64 a0_1) ∧ w'.cell? ⟨gb198,2,none⟩ = some (.string a0_2) ∧ w'.cell? ⟨gb198,3,none⟩ = some (.slice (some ad202) l0_3.length c0_3) ∧ w'.cell? ad202 = some (.int .i64 ((rd_T29 l0_3 0).f0)) ∧ w'.cell? ⟨ad202.block,ad202.off + 1,none⟩ = some (.int .i64 ((rd_T29 l0_3 0).f1)) ∧ w'.cell? ⟨ad202.block,ad202.off + 2,none⟩ = some (.string ((rd_T29 l0_3 0).f2)) ∧ w'.cell? ⟨ad202.block,ad202.off + 3,none⟩ = some (.slice A202_3 ((rd_T29 l0_3 0).f3).length c202_3) ∧ w'.cell? ⟨ad202.block,ad202.off + 4,none⟩ = some (.int .i64 ((rd_T29 l0_3 1).f0)) ∧ w'.cell? ⟨ad202.block,ad202.off + 4 + 1,none⟩ = some (.int .i64 ((rd_T29 l0_3 1).f1)) ∧ w'.cell? ⟨ad202.block,ad202.off + 4 + 2,none⟩ = some (.string ((rd_T29 l0_3 1).f2)) ∧ w'.cell? ⟨ad202.block,ad202.off + 4 + 3,none⟩ = some (.slice A204_3 ((rd_T29 l0_3 1).f3).length c204_3)) (ds := []) #[false,false,false,false,false,false,false,false,false,false,false,false] (by kernel_rfl) rfl rfl ⟨(blk_cell BK198.out 0).trans rfl,(blk_cell BK198.out 1).trans rfl,(blk_cell BK198.out 2).trans rfl,(blk_cell BK198.out 3).trans rfl,((HB.out.cell (World.block_lt_of_cell? w _ hw202_0)).trans hw202_0),((HB.out.cell (World.block_lt_of_cell? w _ hw202_1)).trans hw202_1),((HB.out.cell (World.block_lt_of_cell? w _ hw202_2)).trans hw202_2),((HB.out.cell (World.block_lt_of_cell? w _ hw202_3)).trans hw202_3),((HB.out.cell (World.block_lt_of_cell? w _ hw204_0)).trans hw204_0),((HB.out.cell (World.block_lt_of_cell? w _ hw204_1)).trans hw204_1),((HB.out.cell (World.block_lt_of_cell? w _ hw204_2)).trans hw204_2),((HB.out.cell (World.block_lt_of_cell? w _ hw204_3)).trans hw204_3)⟩ (fun hHeld => ?_);refine with_tabW impl_expText.tab8 impl_expText.bits8 (fun HT_ HW_ => ?_)
            generalize w67.drew = w69 at BK198 HB HR202_3 HR204_3 hx202_0 hx202_1 hx202_2 hx202_3 hx204_0 hx204_1 hx204_2 hx204_3 hHeld ⊢
            refine pure_ (i := 0) (N := some 28) (v := ?_) (a' := ?_) #[true,false,false,false,false,false,false,false,false,false,false,false] rfl rfl (any_of HT_.out (by kernel_rfl)) (fun _ _ _ h => h) (Or.inl ⟨by rfl,?_⟩) ?_ ?_
            rotate_left
            ·intro w'
             go_simp
             with_reducible rfl
            rotate_left
            ·simp only [Act.put,List.setIfInBounds_toArray,List.set_cons_zero,List.set_cons_succ,i64_w,i32_w]
             rfl
            refine pure_ (i := 5) (N := some 33) (v := ?_) (a' := ?_) #[true,false,false,false,false,true,false,false,false,false,false,false] rfl rfl (any_of HT_.out (by kernel_rfl)) (fun _ _ _ h => h) (Or.inl ⟨by rfl,?_⟩) ?_ ?_
            rotate_left
            ·intro w'
             go_simp
             with_reducible rfl
            rotate_left
            ·simp only [Act.put,List.setIfInBounds_toArray,List.set_cons_zero,List.set_cons_succ,i64_w,i32_w]
             rfl
            refine take_ (i := 1) (N := some 29) (v := ?_) (a' := ?_) #[true,true,false,false,false,true,false,false,false,false,false,false] rfl rfl (take_ofW HT_.out HW_.out (by kernel_rfl)) (fun _ _ _ h => h) (Or.inl ⟨by rfl,?_⟩) hHeld ?_ ?_
            rotate_left
            ·rintro w' ⟨s0,s1,s2,s3,s4,s5,s6,s7,s8,s9,s10,s11⟩
             go_simp
             with_reducible rfl
            rotate_left
            ·simp only [Act.put,List.setIfInBounds_toArray,List.set_cons_zero,List.set_cons_succ,i64_w,i32_w]
             rfl
            refine pure_ (i := 2) (N := some 30) (v := ?_) (a' := ?_) #[true,true,true,false,false,true,false,false,false,false,false,false] rfl rfl (any_of HT_.out (by kernel_rfl)) (fun _ _ _ h => h) (Or.inl ⟨by rfl,?_⟩) ?_ ?_
            rotate_left
            ·intro w'
             go_simp
             with_reducible rfl
            rotate_left
            ·simp only [Act.put,List.setIfInBounds_toArray,List.set_cons_zero,List.set_cons_succ,i64_w,i32_w]
             rfl
            refine take_ (i := 3) (N := some 31) (v := ?_) (a' := ?_) #[true,true,true,true,false,true,false,false,false,false,false,false] rfl rfl (take_ofW HT_.out HW_.out (by kernel_rfl)) (fun _ _ _ h => h) (Or.inl ⟨by rfl,?_⟩) hHeld ?_ ?_
            rotate_left
            ·rintro w' ⟨s0,s1,s2,s3,s4,s5,s6,s7,s8,s9,s10,s11⟩
             go_simp
             with_reducible rfl
            rotate_left
            ·simp only [Act.put,List.setIfInBounds_toArray,List.set_cons_zero,List.set_cons_succ,i64_w,i32_w]
             rfl
            refine take_ (i := 6) (N := some 34) (v := ?_) (a' := ?_) #[true,true,true,true,false,true,true,false,false,false,false,false] rfl rfl (take_ofW HT_.out HW_.out (by kernel_rfl)) (fun _ _ _ h => h) (Or.inl ⟨by rfl,?_⟩) hHeld ?_ ?_
            rotate_left
            ·rintro w' ⟨s0,s1,s2,s3,s4,s5,s6,s7,s8,s9,s10,s11⟩
             go_simp
             with_reducible rfl
            rotate_left
            ·simp only [Act.put,List.setIfInBounds_toArray,List.set_cons_zero,List.set_cons_succ,i64_w,i32_w]
             rfl
            refine pure_ (i := 7) (N := some 35) (v := ?_) (a' := ?_) #[true,true,true,true,false,true,true,true,false,false,false,false] rfl rfl (any_of HT_.out (by kernel_rfl)) (fun _ _ _ h => h) (Or.inl ⟨by rfl,?_⟩) ?_ ?_
            rotate_left
            ·intro w'
             go_simp
             with_reducible rfl
            rotate_left
            ·simp only [Act.put,List.setIfInBounds_toArray,List.set_cons_zero,List.set_cons_succ,i64_w,i32_w]
             rfl
            refine take_ (i := 8) (N := some 36) (v := ?_) (a' := ?_) #[true,true,true,true,false,true,true,true,true,false,false,false] rfl rfl (take_ofW HT_.out HW_.out (by kernel_rfl)) (fun _ _ _ h => h) (Or.inl ⟨by rfl,?_⟩) hHeld ?_ ?_
            rotate_left
            ·rintro w' ⟨s0,s1,s2,s3,s4,s5,s6,s7,s8,s9,s10,s11⟩
             go_simp
             with_reducible rfl
            rotate_left
            ·simp only [Act.put,List.setIfInBounds_toArray,List.set_cons_zero,List.set_cons_succ,i64_w,i32_w]
             rfl
            refine one_ (i := 4) (N := some 32) #[true,true,true,true,true,true,true,true,true,false,false,false] rfl rfl (one_of HT_.out (by kernel_rfl)) (by decide) (fun K hK => ?_)
            refine goes_ Tryd.func14 (by kernel_rfl) rfl #[.agg #[.int .i64 ((rd_T29 l0_3 0).f0),.int .i64 ((rd_T29 l0_3 0).f1),.string ((rd_T29 l0_3 0).f2),.slice A202_3 ((rd_T29 l0_3 0).f3).length c202_3]] (by rfl) rfl rfl (by (try simp only [List.map_toArray,List.map_cons,List.map_nil]);first|done|rfl) ?_
            with_reducible refine (ih k (by omega) ((rd_T29 l0_3 0).f0) ((rd_T29 l0_3 0).f1) ((rd_T29 l0_3 0).f2) _ _ ((rd_T29 l0_3 0).f3) t203 _ ?hT_ ?side1 ?side2 A21.out).mono ?_
            (case hT_ => exact tabB HT.out (by repeat (first|(with_reducible first|exact HB.out|apply bA|apply bN|apply bD|refine bS ?_ GE198.out)|exact HB.out)))
            (case side1 => repeat (first|exact (Kd.C_below HR202_3.out HB.out)|(with_reducible refine cA ?_ _)|(with_reducible refine cN ?_ _)|(with_reducible refine cD ?_)))
            (case side2 => exact HC202_3.out)
            rintro e w70 ⟨rfl,hb⟩
            refine ⟨_,rfl,?_⟩
            have n0_ := mk0 (blk_below (by exact kX BK198.out) hb)
            have n1_ := mk0 (below_step (by repeat (first|(with_reducible first|exact HB.out|apply bA|apply bN|apply bD|refine bS ?_ GE198.out)|exact HB.out)) hb)
            clear BK198
            clear HB
            have BK198 := n0_
            have HB := n1_
            clear n0_ n1_
            (try clear hb)
            (try clear hb2)
            (try clear hk)
            (try clear hi)
            refine hK.out _ _ ⟨(blk_cell BK198.out 0).trans rfl,(blk_cell BK198.out 1).trans rfl,(blk_cell BK198.out 2).trans rfl,(blk_cell BK198.out 3).trans rfl,((HB.out.cell (World.block_lt_of_cell? w _ hw202_0)).trans hw202_0),((HB.out.cell (World.block_lt_of_cell? w _ hw202_1)).trans hw202_1),((HB.out.cell (World.block_lt_of_cell? w _ hw202_2)).trans hw202_2),((HB.out.cell (World.block_lt_of_cell? w _ hw202_3)).trans hw202_3),((HB.out.cell (World.block_lt_of_cell? w _ hw204_0)).trans hw204_0),((HB.out.cell (World.block_lt_of_cell? w _ hw204_1)).trans hw204_1),((HB.out.cell (World.block_lt_of_cell? w _ hw204_2)).trans hw204_2),((HB.out.cell (World.block_lt_of_cell? w _ hw204_3)).trans hw204_3)⟩ (fun hHeld => ?_)
            clear hK K
            refine norm_ (a' := ?_) ?_ ?_
            rotate_left
            ·show Act.put _ (some 32) _ = _
             simp only [Act.put,List.setIfInBounds_toArray,List.set_cons_zero,List.set_cons_succ,i64_w,i32_w]
             rfl
            refine one_ (i := 9) (N := some 37) #[true,true,true,true,true,true,true,true,true,true,false,false] rfl rfl (one_of HT_.out (by kernel_rfl)) (by decide) (fun K hK => ?_)
            refine goes_ Tryd.func14 (by kernel_rfl) rfl #[.agg #[.int .i64 ((rd_T29 l0_3 1).f0),.int .i64 ((rd_T29 l0_3 1).f1),.string ((rd_T29 l0_3 1).f2),.slice A204_3 ((rd_T29 l0_3 1).f3).length c204_3]] (by rfl) rfl rfl (by (try simp only [List.map_toArray,List.map_cons,List.map_nil]);first|done|rfl) ?_
            with_reducible refine (ih k (by omega) ((rd_T29 l0_3 1).f0) ((rd_T29 l0_3 1).f1) ((rd_T29 l0_3 1).f2) _ _ ((rd_T29 l0_3 1).f3) t205 _ ?hT_ ?side1 ?side2 A23.out).mono ?_
            (case hT_ => exact tabB HT.out (by repeat (first|(with_reducible first|exact HB.out|apply bA|apply bN|apply bD|refine bS ?_ GE198.out)|exact HB.out)))
            (case side1 => repeat (first|exact (Kd.C_below HR204_3.out HB.out)|(with_reducible refine cA ?_ _)|(with_reducible refine cN ?_ _)|(with_reducible refine cD ?_)))
            (case side2 => exact HC204_3.out)
            rintro e w71 ⟨rfl,hb⟩
            refine ⟨_,rfl,?_⟩
            have n0_ := mk0 (blk_below (by exact kX BK198.out) hb)
            have n1_ := mk0 (below_step (by repeat (first|(with_reducible first|exact HB.out|apply bA|apply bN|apply bD|refine bS ?_ GE198.out)|exact HB.out)) hb)
            clear BK198
            clear HB
            have BK198 := n0_
            have HB := n1_
            clear n0_ n1_
            (try clear hb)
            (try clear hb2)
            (try clear hk)
            (try clear hi)
            refine hK.out _ _ ⟨(blk_cell BK198.out 0).trans rfl,(blk_cell BK198.out 1).trans rfl,(blk_cell BK198.out 2).trans rfl,(blk_cell BK198.out 3).trans rfl,((HB.out.cell (World.block_lt_of_cell? w _ hw202_0)).trans hw202_0),((HB.out.cell (World.block_lt_of_cell? w _ hw202_1)).trans hw202_1),((HB.out.cell (World.block_lt_of_cell? w _ hw202_2)).trans hw202_2),((HB.out.cell (World.block_lt_of_cell? w _ hw202_3)).trans hw202_3),((HB.out.cell (World.block_lt_of_cell? w _ hw204_0)).trans hw204_0),((HB.out.cell (World.block_lt_of_cell? w _ hw204_1)).trans hw204_1),((HB.out.cell (World.block_lt_of_cell? w _ hw204_2)).trans hw204_2),((HB.out.cell (World.block_lt_of_cell? w _ hw204_3)).trans hw204_3)⟩ (fun hHeld => ?_)
            clear hK K
            refine norm_ (a' := ?_) ?_ ?_
            rotate_left
            ·show Act.put _ (some 37) _ = _
             simp only [Act.put,List.setIfInBounds_toArray,List.set_cons_zero,List.set_cons_succ,i64_w,i32_w]
             rfl
            refine pure_ (i := 10) (N := some 3) (v := ?_) (a' := ?_) #[true,true,true,true,true,true,true,true,true,true,true,false] rfl rfl (any_of HT_.out (by kernel_rfl)) (fun _ _ _ h => h) (Or.inl ⟨by rfl,?_⟩) ?_ ?_
            rotate_left
            ·intro w'
             go_simp
             with_reducible rfl
            rotate_left
            ·simp only [Act.put,List.setIfInBounds_toArray,List.set_cons_zero,List.set_cons_succ,i64_w,i32_w]
             rfl
            refine pure_ (i := 11) (N := some 4) (v := ?_) (a' := ?_) #[true,true,true,true,true,true,true,true,true,true,true,true] rfl rfl (any_of HT_.out (by kernel_rfl)) (fun _ _ _ h => h) (Or.inl ⟨by rfl,?_⟩) ?_ ?_
            rotate_left
            ·intro w'
             go_simp
             with_reducible rfl
            rotate_left
            ·simp only [Act.put,List.setIfInBounds_toArray,List.set_cons_zero,List.set_cons_succ,i64_w,i32_w]
             rfl
            refine done_ (done_of HT_.out (by kernel_rfl)) ?_
            have z72 := bc4 BK198.out
            try go_wp2
            have n0_ := mk0 (kD BK198.out)
            have n1_ := mk0 (bD HB.out)
            clear BK198
            clear HB
            have BK198 := n0_
            have HB := n1_
            clear n0_ n1_
            have p212 : 0 ≤ (0 : Int) := (by omega)
            have q212 : 0 < (l0_3.length : Int) := of_decide_eq_true (by first|(with_reducible assumption)|assumption)
            obtain ⟨ad212,A212_3,c212_3,e212,hx212_0,hx212_1,hx212_2,hx212_3,hl212_3,hi212_3⟩ := at_T29 HR0_3.out 0 p212 q212
            have hw212_3 := hx212_3
            (try rw [show ((0 : Int)).toNat = 0 from rfl] at hw212_3)
            (try rw [show 0 * 4 = 0 from rfl] at hw212_3)
            (try rw [Addr.add_zero'] at hw212_3)
            have hw212_2 := hx212_2
            (try rw [show ((0 : Int)).toNat = 0 from rfl] at hw212_2)
            (try rw [show 0 * 4 = 0 from rfl] at hw212_2)
            (try rw [Addr.add_zero'] at hw212_2)
            have hw212_1 := hx212_1
            (try rw [show ((0 : Int)).toNat = 0 from rfl] at hw212_1)
            (try rw [show 0 * 4 = 0 from rfl] at hw212_1)
            (try rw [Addr.add_zero'] at hw212_1)
            have hw212_0 := hx212_0
            (try rw [show ((0 : Int)).toNat = 0 from rfl] at hw212_0)
            (try rw [show 0 * 4 = 0 from rfl] at hw212_0)
            (try rw [Addr.add_zero'] at hw212_0)
            obtain rfl : ad202 = ad212 := (by injection e212)
            have qi212 : (0 < l0_3.length) = True := eq_true (by omega)
            (try rw [show ((0 : Int)).toNat = 0 from rfl] at hx212_0)
            (try rw [show 0 * 4 = 0 from rfl] at hx212_0)
            (try rw [Addr.add_zero'] at hx212_0)
            (try rw [show ((0 : Int)).toNat = 0 from rfl] at hx212_1)
            (try rw [show 0 * 4 = 0 from rfl] at hx212_1)
            (try rw [Addr.add_zero'] at hx212_1)
            (try rw [show ((0 : Int)).toNat = 0 from rfl] at hx212_2)
            (try rw [show 0 * 4 = 0 from rfl] at hx212_2)
            (try rw [Addr.add_zero'] at hx212_2)
            (try rw [show ((0 : Int)).toNat = 0 from rfl] at hx212_3)
            (try rw [show 0 * 4 = 0 from rfl] at hx212_3)
            (try rw [Addr.add_zero'] at hx212_3)
            replace hx212_0 := hbc HB.out hx212_0
            replace hx212_1 := hbc HB.out hx212_1
            replace hx212_2 := hbc HB.out hx212_2
            try (have e_ := hx212_3.symm.trans hq202_3;injection e_ with e_;injection e_ with e1_ e2_ e3_;subst e1_;subst e3_)
            replace hx212_3 := hbc HB.out hx212_3
            have HR212_3 := mk0 hi212_3
            have HC212_3 := mk0 hl212_3
            clear hi212_3 hl212_3
            replace p212 := eq_true p212
            replace q212 := eq_true q212
            have p215 : 0 ≤ (1 : Int) := (by omega)
            have q215 : 1 < (l0_3.length : Int) := of_decide_eq_true (by first|(with_reducible assumption)|assumption)
            obtain ⟨ad215,A215_3,c215_3,e215,hx215_0,hx215_1,hx215_2,hx215_3,hl215_3,hi215_3⟩ := at_T29 HR0_3.out 1 p215 q215
            have hw215_3 := hx215_3
            (try rw [show ((1 : Int)).toNat = 1 from rfl] at hw215_3)
            (try rw [show 1 * 4 = 4 from rfl] at hw215_3)
            (try simp only [Nat.reduceMul,Nat.reduceEqDiff,Go.Addr.add,↓reduceIte] at hw215_3)
            have hw215_2 := hx215_2
            (try rw [show ((1 : Int)).toNat = 1 from rfl] at hw215_2)
            (try rw [show 1 * 4 = 4 from rfl] at hw215_2)
            (try simp only [Nat.reduceMul,Nat.reduceEqDiff,Go.Addr.add,↓reduceIte] at hw215_2)
            have hw215_1 := hx215_1
            (try rw [show ((1 : Int)).toNat = 1 from rfl] at hw215_1)
            (try rw [show 1 * 4 = 4 from rfl] at hw215_1)
            (try simp only [Nat.reduceMul,Nat.reduceEqDiff,Go.Addr.add,↓reduceIte] at hw215_1)
            have hw215_0 := hx215_0
            (try rw [show ((1 : Int)).toNat = 1 from rfl] at hw215_0)
            (try rw [show 1 * 4 = 4 from rfl] at hw215_0)
            (try simp only [Nat.reduceMul,Nat.reduceEqDiff,Go.Addr.add,↓reduceIte] at hw215_0)
            obtain rfl : ad202 = ad215 := (by injection e215)
            (try simp only [show (1 : Int).toNat = 1 from rfl,Nat.reduceMul,Nat.reduceEqDiff,Go.Addr.add,↓reduceIte] at hx215_0)
            (try simp only [show (1 : Int).toNat = 1 from rfl,Nat.reduceMul,Nat.reduceEqDiff,Go.Addr.add,↓reduceIte] at hx215_1)
            (try simp only [show (1 : Int).toNat = 1 from rfl,Nat.reduceMul,Nat.reduceEqDiff,Go.Addr.add,↓reduceIte] at hx215_2)
            (try simp only [show (1 : Int).toNat = 1 from rfl,Nat.reduceMul,Nat.reduceEqDiff,Go.Addr.add,↓reduceIte] at hx215_3)
            have qi215 : (1 < l0_3.length) = True := eq_true (by omega)
            (try rw [show ((1 : Int)).toNat = 1 from rfl] at hx215_0)
            (try rw [show 1 * 4 = 4 from rfl] at hx215_0)
            (try rw [show ((1 : Int)).toNat = 1 from rfl] at hx215_1)
            (try rw [show 1 * 4 = 4 from rfl] at hx215_1)
            (try rw [show ((1 : Int)).toNat = 1 from rfl] at hx215_2)
            (try rw [show 1 * 4 = 4 from rfl] at hx215_2)
            (try rw [show ((1 : Int)).toNat = 1 from rfl] at hx215_3)
            (try rw [show 1 * 4 = 4 from rfl] at hx215_3)
            replace hx215_0 := hbc HB.out hx215_0
            replace hx215_1 := hbc HB.out hx215_1
            replace hx215_2 := hbc HB.out hx215_2
            try (have e_ := hx215_3.symm.trans hq204_3;injection e_ with e_;injection e_ with e1_ e2_ e3_;subst e1_;subst e3_)
            have hq215_3 := hx215_3
            replace hx215_3 := hbc HB.out hx215_3
            have HR215_3 := mk0 hi215_3
            have HC215_3 := mk0 hl215_3
            clear hi215_3 hl215_3
            replace p215 := eq_true p215
            replace q215 := eq_true q215
            have p218 : 0 ≤ (1 : Int) := (by omega)
            have q218 : 1 < (l0_3.length : Int) := of_decide_eq_true (by first|(with_reducible assumption)|assumption)
            obtain ⟨ad218,A218_3,c218_3,e218,hx218_0,hx218_1,hx218_2,hx218_3,hl218_3,hi218_3⟩ := at_T29 HR0_3.out 1 p218 q218
            have hw218_3 := hx218_3
            (try rw [show ((1 : Int)).toNat = 1 from rfl] at hw218_3)
            (try rw [show 1 * 4 = 4 from rfl] at hw218_3)
            (try simp only [Nat.reduceMul,Nat.reduceEqDiff,Go.Addr.add,↓reduceIte] at hw218_3)
            have hw218_2 := hx218_2
            (try rw [show ((1 : Int)).toNat = 1 from rfl] at hw218_2)
            (try rw [show 1 * 4 = 4 from rfl] at hw218_2)
            (try simp only [Nat.reduceMul,Nat.reduceEqDiff,Go.Addr.add,↓reduceIte] at hw218_2)
            have hw218_1 := hx218_1
            (try rw [show ((1 : Int)).toNat = 1 from rfl] at hw218_1)
            (try rw [show 1 * 4 = 4 from rfl] at hw218_1)
            (try simp only [Nat.reduceMul,Nat.reduceEqDiff,Go.Addr.add,↓reduceIte] at hw218_1)
            have hw218_0 := hx218_0
            (try rw [show ((1 : Int)).toNat = 1 from rfl] at hw218_0)
            (try rw [show 1 * 4 = 4 from rfl] at hw218_0)
            (try simp only [Nat.reduceMul,Nat.reduceEqDiff,Go.Addr.add,↓reduceIte] at hw218_0)
            obtain rfl : ad202 = ad218 := (by injection e218)
            (try simp only [show (1 : Int).toNat = 1 from rfl,Nat.reduceMul,Nat.reduceEqDiff,Go.Addr.add,↓reduceIte] at hx218_0)
            (try simp only [show (1 : Int).toNat = 1 from rfl,Nat.reduceMul,Nat.reduceEqDiff,Go.Addr.add,↓reduceIte] at hx218_1)
            (try simp only [show (1 : Int).toNat = 1 from rfl,Nat.reduceMul,Nat.reduceEqDiff,Go.Addr.add,↓reduceIte] at hx218_2)
            (try simp only [show (1 : Int).toNat = 1 from rfl,Nat.reduceMul,Nat.reduceEqDiff,Go.Addr.add,↓reduceIte] at hx218_3)
            have qi218 : (1 < l0_3.length) = True := eq_true (by omega)
            (try rw [show ((1 : Int)).toNat = 1 from rfl] at hx218_0)
            (try rw [show 1 * 4 = 4 from rfl] at hx218_0)
            (try rw [show ((1 : Int)).toNat = 1 from rfl] at hx218_1)
            (try rw [show 1 * 4 = 4 from rfl] at hx218_1)
            (try rw [show ((1 : Int)).toNat = 1 from rfl] at hx218_2)
            (try rw [show 1 * 4 = 4 from rfl] at hx218_2)
            (try rw [show ((1 : Int)).toNat = 1 from rfl] at hx218_3)
            (try rw [show 1 * 4 = 4 from rfl] at hx218_3)
            replace hx218_0 := hbc HB.out hx218_0
            replace hx218_1 := hbc HB.out hx218_1
            replace hx218_2 := hbc HB.out hx218_2
            try (have e_ := hx218_3.symm.trans hq204_3;injection e_ with e_;injection e_ with e1_ e2_ e3_;subst e1_;subst e3_)
            try (have e_ := hx218_3.symm.trans hq215_3;injection e_ with e_;injection e_ with e1_ e2_ e3_;subst e1_;subst e3_)
            replace hx218_3 := hbc HB.out hx218_3
            have HR218_3 := mk0 hi218_3
            have HC218_3 := mk0 hl218_3
            clear hi218_3 hl218_3
            replace p218 := eq_true p218
            replace q218 := eq_true q218
            refine start_ (n := 25) (S := fun w' => w'.cell? ⟨gb198,0,none⟩ = some (.int .i64 a0_0) ∧ w'.cell? ⟨gb198,1,none⟩ = some (.int .i64 a0_1) ∧ w'.cell? ⟨gb198,2,none⟩ = some (.string a0_2) ∧ w'.cell? ⟨gb198,3,none⟩ = some (.slice (some ad202) l0_3.length c0_3) ∧ w'.cell? ad202 = some (.int .i64 ((rd_T29 l0_3 0).f0)) ∧ w'.cell? ⟨ad202.block,ad202.off + 1,none⟩ = some (.int .i64 ((rd_T29 l0_3 0).f1)) ∧ w'.cell? ⟨ad202.block,ad202.off + 2,none⟩ = some (.string ((rd_T29 l0_3 0).f2)) ∧ w'.cell? ⟨ad202.block,ad202.off + 3,none⟩ = some (.slice A212_3 ((rd_T29 l0_3 0).f3).length c212_3) ∧ w'.cell? ⟨ad202.block,ad202.off + 4,none⟩ = some (.int .i64 ((rd_T29 l0_3 1).f0)) ∧ w'.cell? ⟨ad202.block,ad202.off + 4 + 1,none⟩ = some (.int .i64 ((rd_T29 l0_3 1).f1)) ∧ w'.cell? ⟨ad202.block,ad202.off + 4 + 2,none⟩ = some (.string ((rd_T29 l0_3 1).f2)) ∧ w'.cell? ⟨ad202.block,ad202.off + 4 + 3,none⟩ = some (.slice A218_3 ((rd_T29 l0_3 1).f3).length c218_3) ∧ w'.cell? ⟨ad202.block,ad202.off + 4,none⟩ = some (.int .i64 ((rd_T29 l0_3 1).f0)) ∧ w'.cell? ⟨ad202.block,ad202.off + 4 + 1,none⟩ = some (.int .i64 ((rd_T29 l0_3 1).f1)) ∧ w'.cell? ⟨ad202.block,ad202.off + 4 + 2,none⟩ = some (.string ((rd_T29 l0_3 1).f2)) ∧ w'.cell? ⟨ad202.block,ad202.off + 4 + 3,none⟩ = some (.slice A218_3 ((rd_T29 l0_3 1).f3).length c218_3)) (ds := []) #[false,false,false,false,false,false,false,false,false,false,false,false,false,false,false,false,false,false,false,false,false,false,false,false,false] (by kernel_rfl) rfl rfl ⟨(blk_cell BK198.out 0).trans rfl,(blk_cell BK198.out 1).trans rfl,(blk_cell BK198.out 2).trans rfl,(blk_cell BK198.out 3).trans rfl,((HB.out.cell (World.block_lt_of_cell? w _ hw212_0)).trans hw212_0),((HB.out.cell (World.block_lt_of_cell? w _ hw212_1)).trans hw212_1),((HB.out.cell (World.block_lt_of_cell? w _ hw212_2)).trans hw212_2),((HB.out.cell (World.block_lt_of_cell? w _ hw212_3)).trans hw212_3),((HB.out.cell (World.block_lt_of_cell? w _ hw215_0)).trans hw215_0),((HB.out.cell (World.block_lt_of_cell? w _ hw215_1)).trans hw215_1),((HB.out.cell (World.block_lt_of_cell? w _ hw215_2)).trans hw215_2),((HB.out.cell (World.block_lt_of_cell? w _ hw215_3)).trans hw215_3),((HB.out.cell (World.block_lt_of_cell? w _ hw218_0)).trans hw218_0),((HB.out.cell (World.block_lt_of_cell? w _ hw218_1)).trans hw218_1),((HB.out.cell (World.block_lt_of_cell? w _ hw218_2)).trans hw218_2),((HB.out.cell (World.block_lt_of_cell? w _ hw218_3)).trans hw218_3)⟩ (fun hHeld => ?_);refine with_tabW impl_expText.tab15 impl_expText.bits15 (fun HT_ HW_ => ?_)
            generalize w71.drew = w73 at BK198 HB HR212_3 HR215_3 HR218_3 hx212_0 hx212_1 hx212_2 hx212_3 hx215_0 hx215_1 hx215_2 hx215_3 hx218_0 hx218_1 hx218_2 hx218_3 hHeld ⊢
            refine pure_ (i := 0) (N := some 66) (v := ?_) (a' := ?_) #[true,false,false,false,false,false,false,false,false,false,false,false,false,false,false,false,false,false,false,false,false,false,false,false,false] rfl rfl (any_of HT_.out (by kernel_rfl)) (fun _ _ _ h => h) (Or.inl ⟨by rfl,?_⟩) ?_ ?_
            rotate_left
            ·intro w'
             go_simp
             with_reducible rfl
            rotate_left
            ·simp only [Act.put,List.setIfInBounds_toArray,List.set_cons_zero,List.set_cons_succ,i64_w,i32_w]
             rfl
            refine pure_ (i := 1) (N := some 67) (v := ?_) (a' := ?_) #[true,true,false,false,false,false,false,false,false,false,false,false,false,false,false,false,false,false,false,false,false,false,false,false,false] rfl rfl (any_of HT_.out (by kernel_rfl)) (fun _ _ _ h => h) (Or.inl ⟨by rfl,?_⟩) ?_ ?_
            rotate_left
            ·intro w'
             go_simp
             with_reducible rfl
            rotate_left
            ·simp only [Act.put,List.setIfInBounds_toArray,List.set_cons_zero,List.set_cons_succ,i64_w,i32_w]
             rfl
            refine pure_ (i := 8) (N := some 74) (v := ?_) (a' := ?_) #[true,true,false,false,false,false,false,false,true,false,false,false,false,false,false,false,false,false,false,false,false,false,false,false,false] rfl rfl (any_of HT_.out (by kernel_rfl)) (fun _ _ _ h => h) (Or.inl ⟨by rfl,?_⟩) ?_ ?_
            rotate_left
            ·intro w'
             go_simp
             with_reducible rfl
            rotate_left
            ·simp only [Act.put,List.setIfInBounds_toArray,List.set_cons_zero,List.set_cons_succ,i64_w,i32_w]
             rfl
            refine pure_ (i := 9) (N := some 75) (v := ?_) (a' := ?_) #[true,true,false,false,false,false,false,false,true,true,false,false,false,false,false,false,false,false,false,false,false,false,false,false,false] rfl rfl (any_of HT_.out (by kernel_rfl)) (fun _ _ _ h => h) (Or.inl ⟨by rfl,?_⟩) ?_ ?_
            rotate_left
            ·intro w'
             go_simp
             with_reducible rfl
            rotate_left
            ·simp only [Act.put,List.setIfInBounds_toArray,List.set_cons_zero,List.set_cons_succ,i64_w,i32_w]
             rfl
            refine take_ (i := 2) (N := some 68) (v := ?_) (a' := ?_) #[true,true,true,false,false,false,false,false,true,true,false,false,false,false,false,false,false,false,false,false,false,false,false,false,false] rfl rfl (take_ofW HT_.out HW_.out (by kernel_rfl)) (fun _ _ _ h => h) (Or.inl ⟨by rfl,?_⟩) hHeld ?_ ?_
            rotate_left
            ·rintro w' ⟨s0,s1,s2,s3,s4,s5,s6,s7,s8,s9,s10,s11,s12,s13,s14,s15⟩
             go_simp
             with_reducible rfl
            rotate_left
            ·simp only [Act.put,List.setIfInBounds_toArray,List.set_cons_zero,List.set_cons_succ,i64_w,i32_w]
             rfl
            refine pure_ (i := 3) (N := some 69) (v := ?_) (a' := ?_) #[true,true,true,true,false,false,false,false,true,true,false,false,false,false,false,false,false,false,false,false,false,false,false,false,false] rfl rfl (any_of HT_.out (by kernel_rfl)) (fun _ _ _ h => h) (Or.inl ⟨by rfl,?_⟩) ?_ ?_
            rotate_left
            ·intro w'
             go_simp
             with_reducible rfl
            rotate_left
            ·simp only [Act.put,List.setIfInBounds_toArray,List.set_cons_zero,List.set_cons_succ,i64_w,i32_w]
             rfl
            refine take_ (i := 4) (N := some 70) (v := ?_) (a' := ?_) #[true,true,true,true,true,false,false,false,true,true,false,false,false,false,false,false,false,false,false,false,false,false,false,false,false] rfl rfl (take_ofW HT_.out HW_.out (by kernel_rfl)) (fun _ _ _ h => h) (Or.inl ⟨by rfl,?_⟩) hHeld ?_ ?_
            rotate_left
            ·rintro w' ⟨s0,s1,s2,s3,s4,s5,s6,s7,s8,s9,s10,s11,s12,s13,s14,s15⟩
             go_simp
             with_reducible rfl
            rotate_left
            ·simp only [Act.put,List.setIfInBounds_toArray,List.set_cons_zero,List.set_cons_succ,i64_w,i32_w]
             rfl
            refine take_ (i := 10) (N := some 76) (v := ?_) (a' := ?_) #[true,true,true,true,true,false,false,false,true,true,true,false,false,false,false,false,false,false,false,false,false,false,false,false,false] rfl rfl (take_ofW HT_.out HW_.out (by kernel_rfl)) (fun _ _ _ h => h) (Or.inl ⟨by rfl,?_⟩) hHeld ?_ ?_
            rotate_left
            ·rintro w' ⟨s0,s1,s2,s3,s4,s5,s6,s7,s8,s9,s10,s11,s12,s13,s14,s15⟩
             go_simp
             with_reducible rfl
            rotate_left
            ·simp only [Act.put,List.setIfInBounds_toArray,List.set_cons_zero,List.set_cons_succ,i64_w,i32_w]
             rfl
            refine pure_ (i := 11) (N := some 77) (v := ?_) (a' := ?_) #[true,true,true,true,true,false,false,false,true,true,true,true,false,false,false,false,false,false,false,false,false,false,false,false,false] rfl rfl (any_of HT_.out (by kernel_rfl)) (fun _ _ _ h => h) (Or.inl ⟨by rfl,?_⟩) ?_ ?_
            rotate_left
            ·intro w'
             go_simp
             with_reducible rfl
            rotate_left
            ·simp only [Act.put,List.setIfInBounds_toArray,List.set_cons_zero,List.set_cons_succ,i64_w,i32_w]
             rfl
            refine take_ (i := 12) (N := some 78) (v := ?_) (a' := ?_) #[true,true,true,true,true,false,false,false,true,true,true,true,true,false,false,false,false,false,false,false,false,false,false,false,false] rfl rfl (take_ofW HT_.out HW_.out (by kernel_rfl)) (fun _ _ _ h => h) (Or.inl ⟨by rfl,?_⟩) hHeld ?_ ?_
            rotate_left
            ·rintro w' ⟨s0,s1,s2,s3,s4,s5,s6,s7,s8,s9,s10,s11,s12,s13,s14,s15⟩
             go_simp
             with_reducible rfl
            rotate_left
            ·simp only [Act.put,List.setIfInBounds_toArray,List.set_cons_zero,List.set_cons_succ,i64_w,i32_w]
             rfl
            refine one_ (i := 5) (N := some 71) #[true,true,true,true,true,true,false,false,true,true,true,true,true,false,false,false,false,false,false,false,false,false,false,false,false] rfl rfl (one_of HT_.out (by kernel_rfl)) (by decide) (fun K hK => ?_)
            refine goes_ Tryd.func23 (by kernel_rfl) rfl #[.agg #[.int .i64 ((rd_T29 l0_3 0).f0),.int .i64 ((rd_T29 l0_3 0).f1),.string ((rd_T29 l0_3 0).f2),.slice A212_3 ((rd_T29 l0_3 0).f3).length c212_3]] (by rfl) rfl rfl (by (try simp only [List.map_toArray,List.map_cons,List.map_nil]);first|done|rfl) ?_
            with_reducible refine (impl_isSum.calls ((rd_T29 l0_3 0).f0) ((rd_T29 l0_3 0).f1) ((rd_T29 l0_3 0).f2) _ _ ((rd_T29 l0_3 0).f3) t213 _ ?side1 ?side2 A49.out).mono ?_
            (case side1 => repeat (first|exact (Kd.C_below HR212_3.out HB.out)|(with_reducible refine cA ?_ _)|(with_reducible refine cN ?_ _)|(with_reducible refine cD ?_)))
            (case side2 => exact HC212_3.out)
            rintro e w74 ⟨rfl,hb⟩
            refine ⟨_,rfl,?_⟩
            have n0_ := mk0 (blk_below (by exact kX BK198.out) hb)
            have n1_ := mk0 (below_step (by repeat (first|(with_reducible first|exact HB.out|apply bA|apply bN|apply bD|refine bS ?_ GE198.out)|exact HB.out)) hb)
            clear BK198
            clear HB
            have BK198 := n0_
            have HB := n1_
            clear n0_ n1_
            (try clear hb)
            (try clear hb2)
            (try clear hk)
            (try clear hi)
            refine hK.out _ _ ⟨(blk_cell BK198.out 0).trans rfl,(blk_cell BK198.out 1).trans rfl,(blk_cell BK198.out 2).trans rfl,(blk_cell BK198.out 3).trans rfl,((HB.out.cell (World.block_lt_of_cell? w _ hw212_0)).trans hw212_0),((HB.out.cell (World.block_lt_of_cell? w _ hw212_1)).trans hw212_1),((HB.out.cell (World.block_lt_of_cell? w _ hw212_2)).trans hw212_2),((HB.out.cell (World.block_lt_of_cell? w _ hw212_3)).trans hw212_3),((HB.out.cell (World.block_lt_of_cell? w _ hw215_0)).trans hw215_0),((HB.out.cell (World.block_lt_of_cell? w _ hw215_1)).trans hw215_1),((HB.out.cell (World.block_lt_of_cell? w _ hw215_2)).trans hw215_2),((HB.out.cell (World.block_lt_of_cell? w _ hw215_3)).trans hw215_3),((HB.out.cell (World.block_lt_of_cell? w _ hw218_0)).trans hw218_0),((HB.out.cell (World.block_lt_of_cell? w _ hw218_1)).trans hw218_1),((HB.out.cell (World.block_lt_of_cell? w _ hw218_2)).trans hw218_2),((HB.out.cell (World.block_lt_of_cell? w _ hw218_3)).trans hw218_3)⟩ (fun hHeld => ?_)
            clear hK K
            refine norm_ (a' := ?_) ?_ ?_
            rotate_left
            ·show Act.put _ (some 71) _ = _
             simp only [Act.put,List.setIfInBounds_toArray,List.set_cons_zero,List.set_cons_succ,i64_w,i32_w]
             rfl
            refine one_ (i := 6) (N := some 72) #[true,true,true,true,true,true,true,false,true,true,true,true,true,false,false,false,false,false,false,false,false,false,false,false,false] rfl rfl (one_of HT_.out (by kernel_rfl)) (by decide) (fun K hK => ?_)
            refine goes_ Tryd.func22 (by kernel_rfl) rfl #[.string t203,.bool t213] (by rfl) rfl rfl (by (try simp only [List.map_toArray,List.map_cons,List.map_nil]);first|done|rfl) ?_
            with_reducible refine (impl_within.calls t203 t213 t214 _ A50.out).mono ?_
            rintro e w' ⟨rfl,⟨nd,rfl⟩⟩
            refine ⟨_,rfl,?_⟩
            refine hK.out _ _ ⟨(blk_cell BK198.out 0).trans rfl,(blk_cell BK198.out 1).trans rfl,(blk_cell BK198.out 2).trans rfl,(blk_cell BK198.out 3).trans rfl,((HB.out.cell (World.block_lt_of_cell? w _ hw212_0)).trans hw212_0),((HB.out.cell (World.block_lt_of_cell? w _ hw212_1)).trans hw212_1),((HB.out.cell (World.block_lt_of_cell? w _ hw212_2)).trans hw212_2),((HB.out.cell (World.block_lt_of_cell? w _ hw212_3)).trans hw212_3),((HB.out.cell (World.block_lt_of_cell? w _ hw215_0)).trans hw215_0),((HB.out.cell (World.block_lt_of_cell? w _ hw215_1)).trans hw215_1),((HB.out.cell (World.block_lt_of_cell? w _ hw215_2)).trans hw215_2),((HB.out.cell (World.block_lt_of_cell? w _ hw215_3)).trans hw215_3),((HB.out.cell (World.block_lt_of_cell? w _ hw218_0)).trans hw218_0),((HB.out.cell (World.block_lt_of_cell? w _ hw218_1)).trans hw218_1),((HB.out.cell (World.block_lt_of_cell? w _ hw218_2)).trans hw218_2),((HB.out.cell (World.block_lt_of_cell? w _ hw218_3)).trans hw218_3)⟩ (fun hHeld => ?_)
            clear hK K
            refine norm_ (a' := ?_) ?_ ?_
            rotate_left
            ·show Act.put _ (some 72) _ = _
             simp only [Act.put,List.setIfInBounds_toArray,List.set_cons_zero,List.set_cons_succ,i64_w,i32_w]
             rfl
            refine pure_ (i := 7) (N := some 73) (v := ?_) (a' := ?_) #[true,true,true,true,true,true,true,true,true,true,true,true,true,false,false,false,false,false,false,false,false,false,false,false,false] rfl rfl (any_of HT_.out (by kernel_rfl)) (fun _ _ _ h => h) (Or.inl ⟨by rfl,?_⟩) ?_ ?_
            rotate_left
            ·intro w'
             go_simp
             with_reducible rfl
            rotate_left
            ·simp only [Act.put,List.setIfInBounds_toArray,List.set_cons_zero,List.set_cons_succ,i64_w,i32_w]
             rfl
            refine one_ (i := 13) (N := some 79) #[true,true,true,true,true,true,true,true,true,true,true,true,true,true,false,false,false,false,false,false,false,false,false,false,false] rfl rfl (one_of HT_.out (by kernel_rfl)) (by decide) (fun K hK => ?_)
            refine goes_ Tryd.func23 (by kernel_rfl) rfl #[.agg #[.int .i64 ((rd_T29 l0_3 1).f0),.int .i64 ((rd_T29 l0_3 1).f1),.string ((rd_T29 l0_3 1).f2),.slice A218_3 ((rd_T29 l0_3 1).f3).length c218_3]] (by rfl) rfl rfl (by (try simp only [List.map_toArray,List.map_cons,List.map_nil]);first|done|rfl) ?_
            with_reducible refine (impl_isSum.calls ((rd_T29 l0_3 1).f0) ((rd_T29 l0_3 1).f1) ((rd_T29 l0_3 1).f2) _ _ ((rd_T29 l0_3 1).f3) false _ ?side1 ?side2 A52.out).mono ?_
            (case side1 => repeat (first|exact (Kd.C_below HR215_3.out (by repeat (first|(with_reducible first|exact HB.out|apply bA|apply bN|apply bD|refine bS ?_ GE198.out)|exact HB.out)))|(with_reducible refine cA ?_ _)|(with_reducible refine cN ?_ _)|(with_reducible refine cD ?_)))
            (case side2 => exact HC215_3.out)
            rintro e w75 ⟨rfl,hb⟩
            refine ⟨_,rfl,?_⟩
            have n0_ := mk0 (blk_below (by exact kX BK198.out) hb)
            have n1_ := mk0 (below_step (by repeat (first|(with_reducible first|exact HB.out|apply bA|apply bN|apply bD|refine bS ?_ GE198.out)|exact HB.out)) hb)
            clear BK198
            clear HB
            have BK198 := n0_
            have HB := n1_
            clear n0_ n1_
            (try clear hb)
            (try clear hb2)
            (try clear hk)
            (try clear hi)
            refine hK.out _ _ ⟨(blk_cell BK198.out 0).trans rfl,(blk_cell BK198.out 1).trans rfl,(blk_cell BK198.out 2).trans rfl,(blk_cell BK198.out 3).trans rfl,((HB.out.cell (World.block_lt_of_cell? w _ hw212_0)).trans hw212_0),((HB.out.cell (World.block_lt_of_cell? w _ hw212_1)).trans hw212_1),((HB.out.cell (World.block_lt_of_cell? w _ hw212_2)).trans hw212_2),((HB.out.cell (World.block_lt_of_cell? w _ hw212_3)).trans hw212_3),((HB.out.cell (World.block_lt_of_cell? w _ hw215_0)).trans hw215_0),((HB.out.cell (World.block_lt_of_cell? w _ hw215_1)).trans hw215_1),((HB.out.cell (World.block_lt_of_cell? w _ hw215_2)).trans hw215_2),((HB.out.cell (World.block_lt_of_cell? w _ hw215_3)).trans hw215_3),((HB.out.cell (World.block_lt_of_cell? w _ hw218_0)).trans hw218_0),((HB.out.cell (World.block_lt_of_cell? w _ hw218_1)).trans hw218_1),((HB.out.cell (World.block_lt_of_cell? w _ hw218_2)).trans hw218_2),((HB.out.cell (World.block_lt_of_cell? w _ hw218_3)).trans hw218_3)⟩ (fun hHeld => ?_)
            clear hK K
            refine norm_ (a' := ?_) ?_ ?_
            rotate_left
            ·show Act.put _ (some 79) _ = _
             simp only [Act.put,List.setIfInBounds_toArray,List.set_cons_zero,List.set_cons_succ,i64_w,i32_w]
             rfl
            refine pure_ (i := 14) (N := some 80) (v := ?_) (a' := ?_) #[true,true,true,true,true,true,true,true,true,true,true,true,true,true,true,false,false,false,false,false,false,false,false,false,false] rfl rfl (any_of HT_.out (by kernel_rfl)) (fun _ _ _ h => h) (Or.inl ⟨by rfl,?_⟩) ?_ ?_
            rotate_left
            ·intro w'
             go_simp
             with_reducible rfl
            rotate_left
            ·simp only [Act.put,List.setIfInBounds_toArray,List.set_cons_zero,List.set_cons_succ,i64_w,i32_w]
             rfl
            refine pure_ (i := 15) (N := some 81) (v := ?_) (a' := ?_) #[true,true,true,true,true,true,true,true,true,true,true,true,true,true,true,true,false,false,false,false,false,false,false,false,false] rfl rfl (any_of HT_.out (by kernel_rfl)) (fun _ _ _ h => h) (Or.inl ⟨by rfl,?_⟩) ?_ ?_
            rotate_left
            ·intro w'
             go_simp
             with_reducible rfl
            rotate_left
            ·simp only [Act.put,List.setIfInBounds_toArray,List.set_cons_zero,List.set_cons_succ,i64_w,i32_w]
             rfl
            refine take_ (i := 16) (N := some 82) (v := ?_) (a' := ?_) #[true,true,true,true,true,true,true,true,true,true,true,true,true,true,true,true,true,false,false,false,false,false,false,false,false] rfl rfl (take_ofW HT_.out HW_.out (by kernel_rfl)) (fun _ _ _ h => h) (Or.inl ⟨by rfl,?_⟩) hHeld ?_ ?_
            rotate_left
            ·rintro w' ⟨s0,s1,s2,s3,s4,s5,s6,s7,s8,s9,s10,s11,s12,s13,s14,s15⟩
             go_simp
             with_reducible rfl
            rotate_left
            ·simp only [Act.put,List.setIfInBounds_toArray,List.set_cons_zero,List.set_cons_succ,i64_w,i32_w]
             rfl
            refine pure_ (i := 17) (N := some 83) (v := ?_) (a' := ?_) #[true,true,true,true,true,true,true,true,true,true,true,true,true,true,true,true,true,true,false,false,false,false,false,false,false] rfl rfl (any_of HT_.out (by kernel_rfl)) (fun _ _ _ h => h) (Or.inl ⟨by rfl,?_⟩) ?_ ?_
            rotate_left
            ·intro w'
             go_simp
             with_reducible rfl
            rotate_left
            ·simp only [Act.put,List.setIfInBounds_toArray,List.set_cons_zero,List.set_cons_succ,i64_w,i32_w]
             rfl
            refine pure_ (i := 18) (N := some 84) (v := ?_) (a' := ?_) #[true,true,true,true,true,true,true,true,true,true,true,true,true,true,true,true,true,true,true,false,false,false,false,false,false] rfl rfl (any_of HT_.out (by kernel_rfl)) (fun _ _ _ h => h) (Or.inl ⟨by rfl,?_⟩) ?_ ?_
            rotate_left
            ·intro w'
             go_simp
             with_reducible rfl
            rotate_left
            ·simp only [Act.put,List.setIfInBounds_toArray,List.set_cons_zero,List.set_cons_succ,i64_w,i32_w]
             rfl
            refine take_ (i := 19) (N := some 85) (v := ?_) (a' := ?_) #[true,true,true,true,true,true,true,true,true,true,true,true,true,true,true,true,true,true,true,true,false,false,false,false,false] rfl rfl (take_ofW HT_.out HW_.out (by kernel_rfl)) (fun _ _ _ h => h) (Or.inl ⟨by rfl,?_⟩) hHeld ?_ ?_
            rotate_left
            ·rintro w' ⟨s0,s1,s2,s3,s4,s5,s6,s7,s8,s9,s10,s11,s12,s13,s14,s15⟩
             go_simp
             with_reducible rfl
            rotate_left
            ·simp only [Act.put,List.setIfInBounds_toArray,List.set_cons_zero,List.set_cons_succ,i64_w,i32_w]
             rfl
            refine pure_ (i := 20) (N := some 86) (v := ?_) (a' := ?_) #[true,true,true,true,true,true,true,true,true,true,true,true,true,true,true,true,true,true,true,true,true,false,false,false,false] rfl rfl (any_of HT_.out (by kernel_rfl)) (fun _ _ _ h => h) (Or.inl ⟨by rfl,?_⟩) ?_ ?_
            rotate_left
            ·intro w'
             go_simp
             with_reducible rfl
            rotate_left
            ·simp only [Act.put,List.setIfInBounds_toArray,List.set_cons_zero,List.set_cons_succ,i64_w,i32_w]
             rfl
            refine pure_ (i := 21) (N := some 87) (v := ?_) (a' := ?_) #[true,true,true,true,true,true,true,true,true,true,true,true,true,true,true,true,true,true,true,true,true,true,false,false,false] rfl rfl (any_of HT_.out (by kernel_rfl)) (fun _ _ _ h => h) (Or.inl ⟨by rfl,?_⟩) ?_ ?_
            rotate_left
            ·intro w'
             go_simp
             with_reducible rfl
            rotate_left
            ·simp only [Act.put,List.setIfInBounds_toArray,List.set_cons_zero,List.set_cons_succ,i64_w,i32_w]
             rfl
            refine one_ (i := 22) (N := some 88) #[true,true,true,true,true,true,true,true,true,true,true,true,true,true,true,true,true,true,true,true,true,true,true,false,false] rfl rfl (one_of HT_.out (by kernel_rfl)) (by decide) (fun K hK => ?_)
            refine goes_ Tryd.func22 (by kernel_rfl) rfl #[.string t205,.bool (((rd_T29 l0_3 1).f0) == 6)] (by rfl) rfl rfl (by (try simp only [List.map_toArray,List.map_cons,List.map_nil]);first|done|rfl) ?_
            with_reducible refine (impl_within.calls t205 (((rd_T29 l0_3 1).f0) == 6) t219 _ A65.out).mono ?_
            rintro e w' ⟨rfl,⟨nd,rfl⟩⟩
            refine ⟨_,rfl,?_⟩
            refine hK.out _ _ ⟨(blk_cell BK198.out 0).trans rfl,(blk_cell BK198.out 1).trans rfl,(blk_cell BK198.out 2).trans rfl,(blk_cell BK198.out 3).trans rfl,((HB.out.cell (World.block_lt_of_cell? w _ hw212_0)).trans hw212_0),((HB.out.cell (World.block_lt_of_cell? w _ hw212_1)).trans hw212_1),((HB.out.cell (World.block_lt_of_cell? w _ hw212_2)).trans hw212_2),((HB.out.cell (World.block_lt_of_cell? w _ hw212_3)).trans hw212_3),((HB.out.cell (World.block_lt_of_cell? w _ hw215_0)).trans hw215_0),((HB.out.cell (World.block_lt_of_cell? w _ hw215_1)).trans hw215_1),((HB.out.cell (World.block_lt_of_cell? w _ hw215_2)).trans hw215_2),((HB.out.cell (World.block_lt_of_cell? w _ hw215_3)).trans hw215_3),((HB.out.cell (World.block_lt_of_cell? w _ hw218_0)).trans hw218_0),((HB.out.cell (World.block_lt_of_cell? w _ hw218_1)).trans hw218_1),((HB.out.cell (World.block_lt_of_cell? w _ hw218_2)).trans hw218_2),((HB.out.cell (World.block_lt_of_cell? w _ hw218_3)).trans hw218_3)⟩ (fun hHeld => ?_)
            clear hK K
            refine norm_ (a' := ?_) ?_ ?_
            rotate_left
            ·show Act.put _ (some 88) _ = _
             simp only [Act.put,List.setIfInBounds_toArray,List.set_cons_zero,List.set_cons_succ,i64_w,i32_w]
             rfl
            refine pure_ (i := 23) (N := some 89) (v := ?_) (a' := ?_) #[true,true,true,true,true,true,true,true,true,true,true,true,true,true,true,true,true,true,true,true,true,true,true,true,false] rfl rfl (any_of HT_.out (by kernel_rfl)) (fun _ _ _ h => h) (Or.inl ⟨by rfl,?_⟩) ?_ ?_
            rotate_left
            ·intro w'
             go_simp
             with_reducible rfl
            rotate_left
            ·simp only [Act.put,List.setIfInBounds_toArray,List.set_cons_zero,List.set_cons_succ,i64_w,i32_w]
             rfl
            refine pure_ (i := 24) (N := some 2) (v := ?_) (a' := ?_) #[true,true,true,true,true,true,true,true,true,true,true,true,true,true,true,true,true,true,true,true,true,true,true,true,true] rfl rfl (any_of HT_.out (by kernel_rfl)) (fun _ _ _ h => h) (Or.inl ⟨by rfl,?_⟩) ?_ ?_
            rotate_left
            ·intro w'
             go_simp
             with_reducible rfl
            rotate_left
            ·simp only [Act.put,List.setIfInBounds_toArray,List.set_cons_zero,List.set_cons_succ,i64_w,i32_w]
             rfl
            refine done_ (done_of HT_.out (by kernel_rfl)) ?_
            try go_wp2
            go_ret
            exact ⟨by first|rfl|(simp [errW_none,errW_some] <;> rfl)|(simp [*,errW_none,errW_some] <;> rfl),by repeat (first|(with_reducible first|exact HB.out|apply bA|apply bN|apply bD|refine bS ?_ GE198.out)|exact HB.out)⟩
           ·rw [if_neg c66] at H
            exact absurd H (by simp)
         ·rw [if_neg c51] at H
          exact absurd H (by simp)
        ·rw [if_neg c48] at H
         have c48b0 : (a0_0 == 6) = false := beq_eq_false_iff_ne.mpr c48
         have c48b1 : (a0_0 != 6) = true := bne_iff_ne.mpr c48
         by_cases c76 : a0_0 = 7
         ·rw [if_pos c76] at H
          have c76b0 : (a0_0 == 7) = true := beq_iff_eq.mpr c76
          have c76b1 : (a0_0 != 7) = false := bne_eq_false_iff_eq.mpr c76
          clear c76
          by_cases c77 : 4 + t203.size ≤ 9223372036854775807
          ·rw [if_pos c77] at H
           have c77b0 := eq_true c77
           have c77b1 : decide (4 + t203.size ≤ 9223372036854775807) = true := decide_eq_true c77
           try have c77b2 : (9223372036854775807 < 4 + t203.size) = False := eq_false (Nat.not_lt.2 c77)
           by_cases c78 : ((⟨#[109,105,110,40]⟩ : ByteArray) ++ t203).size + 2 ≤ 9223372036854775807
           ·rw [if_pos c78] at H
            have c78b0 := eq_true c78
            have c78b1 : decide (((⟨#[109,105,110,40]⟩ : ByteArray) ++ t203).size + 2 ≤ 9223372036854775807) = true := decide_eq_true c78
            try have c78b2 : (9223372036854775807 < ((⟨#[109,105,110,40]⟩ : ByteArray) ++ t203).size + 2) = False := eq_false (Nat.not_lt.2 c78)
            try have c78b9 : (9223372036854775807 < 4 + t203.size + 2) = False := eq_false (by have q_ := c78;simp only [ByteArray.size_append] at q_;have z0_ : (⟨#[109,105,110,40]⟩ : ByteArray).size = 4 := rfl;omega)
            by_cases c79 : (((⟨#[109,105,110,40]⟩ : ByteArray) ++ t203) ++ (⟨#[44,32]⟩ : ByteArray)).size + t205.size ≤ 9223372036854775807
            ·rw [if_pos c79] at H
             have c79b0 := eq_true c79
             have c79b1 : decide ((((⟨#[109,105,110,40]⟩ : ByteArray) ++ t203) ++ (⟨#[44,32]⟩ : ByteArray)).size + t205.size ≤ 9223372036854775807) = true := decide_eq_true c79
             try have c79b2 : (9223372036854775807 < (((⟨#[109,105,110,40]⟩ : ByteArray) ++ t203) ++ (⟨#[44,32]⟩ : ByteArray)).size + t205.size) = False := eq_false (Nat.not_lt.2 c79)
             try have c79b9 : (9223372036854775807 < 4 + t203.size + 2 + t205.size) = False := eq_false (by have q_ := c79;simp only [ByteArray.size_append] at q_;have z0_ : (⟨#[109,105,110,40]⟩ : ByteArray).size = 4 := rfl;have z1_ : (⟨#[44,32]⟩ : ByteArray).size = 2 := rfl;omega)
             by_cases c80 : ((((⟨#[109,105,110,40]⟩ : ByteArray) ++ t203) ++ (⟨#[44,32]⟩ : ByteArray)) ++ t205).size + 1 ≤ 9223372036854775807
             ·rw [if_pos c80] at H
              have c80b0 := eq_true c80
              have c80b1 : decide (((((⟨#[109,105,110,40]⟩ : ByteArray) ++ t203) ++ (⟨#[44,32]⟩ : ByteArray)) ++ t205).size + 1 ≤ 9223372036854775807) = true := decide_eq_true c80
              try have c80b2 : (9223372036854775807 < ((((⟨#[109,105,110,40]⟩ : ByteArray) ++ t203) ++ (⟨#[44,32]⟩ : ByteArray)) ++ t205).size + 1) = False := eq_false (Nat.not_lt.2 c80)
              try have c80b9 : (9223372036854775807 < 4 + t203.size + 2 + t205.size + 1) = False := eq_false (by have q_ := c80;simp only [ByteArray.size_append] at q_;have z0_ : (⟨#[109,105,110,40]⟩ : ByteArray).size = 4 := rfl;have z1_ : (⟨#[44,32]⟩ : ByteArray).size = 2 := rfl;omega)
              obtain rfl := Option.some.inj H
              go_enter Tryd.func14,Tryd.ntmps14
              try go_wp2_with (first|((with_reducible refine gate_dst (N := 1) rfl ?_);refine box_event ?hg (N := 1) ?hd (cs := #[.int .i64 a0_0,.int .i64 a0_1,.string a0_2,.slice A0_3 l0_3.length c0_3]) (t := 29) ?hr ?_;(case hd => rfl);(case hg => rfl);(case hr => first|(go_simp;done)|(go_simp;rfl));intro gb198 hg w81 hbox hb;have q_ := qB (by repeat (first|(with_reducible first|exact HB.out|apply bA|apply bN|apply bD)|exact HB.out)) hb;have n0_ := mk0 (below_step q_ hb);have n1_ := mk0 (hbox);have n2_ := mk0 (below_size2 q_ hg);have n3_ := n2_;clear HB;have HB := n0_;have BK198 := n1_;have GW198 := n2_;have GE198 := n3_;clear q_ n0_ n1_ n2_ n3_ hb hbox hg;have z82 := bc4 BK198.out))
              have n0_ := mk0 (kD BK198.out)
              have n1_ := mk0 (bD HB.out)
              clear BK198
              clear HB
              have BK198 := n0_
              have HB := n1_
              clear n0_ n1_
              have p202 : 0 ≤ (0 : Int) := (by omega)
              have q202 : 0 < (l0_3.length : Int) := of_decide_eq_true (by first|(with_reducible assumption)|assumption)
              obtain ⟨ad202,A202_3,c202_3,e202,hx202_0,hx202_1,hx202_2,hx202_3,hl202_3,hi202_3⟩ := at_T29 HR0_3.out 0 p202 q202
              have hw202_3 := hx202_3
              (try rw [show ((0 : Int)).toNat = 0 from rfl] at hw202_3)
              (try rw [show 0 * 4 = 0 from rfl] at hw202_3)
              (try rw [Addr.add_zero'] at hw202_3)
              have hw202_2 := hx202_2
              (try rw [show ((0 : Int)).toNat = 0 from rfl] at hw202_2)
              (try rw [show 0 * 4 = 0 from rfl] at hw202_2)
              (try rw [Addr.add_zero'] at hw202_2)
              have hw202_1 := hx202_1
              (try rw [show ((0 : Int)).toNat = 0 from rfl] at hw202_1)
              (try rw [show 0 * 4 = 0 from rfl] at hw202_1)
              (try rw [Addr.add_zero'] at hw202_1)
              have hw202_0 := hx202_0
              (try rw [show ((0 : Int)).toNat = 0 from rfl] at hw202_0)
              (try rw [show 0 * 4 = 0 from rfl] at hw202_0)
              (try rw [Addr.add_zero'] at hw202_0)
              cases e202
              have qi202 : (0 < l0_3.length) = True := eq_true (by omega)
              (try rw [show ((0 : Int)).toNat = 0 from rfl] at hx202_0)
              (try rw [show 0 * 4 = 0 from rfl] at hx202_0)
              (try rw [Addr.add_zero'] at hx202_0)
              (try rw [show ((0 : Int)).toNat = 0 from rfl] at hx202_1)
              (try rw [show 0 * 4 = 0 from rfl] at hx202_1)
              (try rw [Addr.add_zero'] at hx202_1)
              (try rw [show ((0 : Int)).toNat = 0 from rfl] at hx202_2)
              (try rw [show 0 * 4 = 0 from rfl] at hx202_2)
              (try rw [Addr.add_zero'] at hx202_2)
              (try rw [show ((0 : Int)).toNat = 0 from rfl] at hx202_3)
              (try rw [show 0 * 4 = 0 from rfl] at hx202_3)
              (try rw [Addr.add_zero'] at hx202_3)
              replace hx202_0 := hbc HB.out hx202_0
              replace hx202_1 := hbc HB.out hx202_1
              replace hx202_2 := hbc HB.out hx202_2
              replace hx202_3 := hbc HB.out hx202_3
              have HR202_3 := mk0 hi202_3
              have HC202_3 := mk0 hl202_3
              clear hi202_3 hl202_3
              replace p202 := eq_true p202
              replace q202 := eq_true q202
              have p204 : 0 ≤ (1 : Int) := (by omega)
              have q204 : 1 < (l0_3.length : Int) := of_decide_eq_true (by first|(with_reducible assumption)|assumption)
              obtain ⟨ad204,A204_3,c204_3,e204,hx204_0,hx204_1,hx204_2,hx204_3,hl204_3,hi204_3⟩ := at_T29 HR0_3.out 1 p204 q204
              have hw204_3 := hx204_3
              (try rw [show ((1 : Int)).toNat = 1 from rfl] at hw204_3)
              (try rw [show 1 * 4 = 4 from rfl] at hw204_3)
              (try simp only [Nat.reduceMul,Nat.reduceEqDiff,Go.Addr.add,↓reduceIte] at hw204_3)
              have hw204_2 := hx204_2
              (try rw [show ((1 : Int)).toNat = 1 from rfl] at hw204_2)
              (try rw [show 1 * 4 = 4 from rfl] at hw204_2)
              (try simp only [Nat.reduceMul,Nat.reduceEqDiff,Go.Addr.add,↓reduceIte] at hw204_2)
              have hw204_1 := hx204_1
              (try rw [show ((1 : Int)).toNat = 1 from rfl] at hw204_1)
              (try rw [show 1 * 4 = 4 from rfl] at hw204_1)
              (try simp only [Nat.reduceMul,Nat.reduceEqDiff,Go.Addr.add,↓reduceIte] at hw204_1)
              have hw204_0 := hx204_0
              (try rw [show ((1 : Int)).toNat = 1 from rfl] at hw204_0)
              (try rw [show 1 * 4 = 4 from rfl] at hw204_0)
              (try simp only [Nat.reduceMul,Nat.reduceEqDiff,Go.Addr.add,↓reduceIte] at hw204_0)
              obtain rfl : ad202 = ad204 := (by injection e204)
              (try simp only [show (1 : Int).toNat = 1 from rfl,Nat.reduceMul,Nat.reduceEqDiff,Go.Addr.add,↓reduceIte] at hx204_0)
              (try simp only [show (1 : Int).toNat = 1 from rfl,Nat.reduceMul,Nat.reduceEqDiff,Go.Addr.add,↓reduceIte] at hx204_1)
              (try simp only [show (1 : Int).toNat = 1 from rfl,Nat.reduceMul,Nat.reduceEqDiff,Go.Addr.add,↓reduceIte] at hx204_2)
              (try simp only [show (1 : Int).toNat = 1 from rfl,Nat.reduceMul,Nat.reduceEqDiff,Go.Addr.add,↓reduceIte] at hx204_3)
              have qi204 : (1 < l0_3.length) = True := eq_true (by omega)
              (try rw [show ((1 : Int)).toNat = 1 from rfl] at hx204_0)
              (try rw [show 1 * 4 = 4 from rfl] at hx204_0)
              (try rw [show ((1 : Int)).toNat = 1 from rfl] at hx204_1)
              (try rw [show 1 * 4 = 4 from rfl] at hx204_1)
              (try rw [show ((1 : Int)).toNat = 1 from rfl] at hx204_2)
              (try rw [show 1 * 4 = 4 from rfl] at hx204_2)
              (try rw [show ((1 : Int)).toNat = 1 from rfl] at hx204_3)
              (try rw [show 1 * 4 = 4 from rfl] at hx204_3)
              replace hx204_0 := hbc HB.out hx204_0
              replace hx204_1 := hbc HB.out hx204_1
              replace hx204_2 := hbc HB.out hx204_2
              replace hx204_3 := hbc HB.out hx204_3
              have HR204_3 := mk0 hi204_3
              have HC204_3 := mk0 hl204_3
              clear hi204_3 hl204_3
              replace p204 := eq_true p204
              replace q204 := eq_true q204
              refine start_ (n := 12) (S := fun w' => w'.cell? ⟨gb198,0,none⟩ = some (.int .i64 a0_0) ∧ w'.cell? ⟨gb198,1,none⟩ = some (.int .i64 a0_1) ∧ w'.cell? ⟨gb198,2,none⟩ = some (.string a0_2) ∧ w'.cell? ⟨gb198,3,none⟩ = some (.slice (some ad202) l0_3.length c0_3) ∧ w'.cell? ad202 = some (.int .i64 ((rd_T29 l0_3 0).f0)) ∧ w'.cell? ⟨ad202.block,ad202.off + 1,none⟩ = some (.int .i64 ((rd_T29 l0_3 0).f1)) ∧ w'.cell? ⟨ad202.block,ad202.off + 2,none⟩ = some (.string ((rd_T29 l0_3 0).f2)) ∧ w'.cell? ⟨ad202.block,ad202.off + 3,none⟩ = some (.slice A202_3 ((rd_T29 l0_3 0).f3).length c202_3) ∧ w'.cell? ⟨ad202.block,ad202.off + 4,none⟩ = some (.int .i64 ((rd_T29 l0_3 1).f0)) ∧ w'.cell? ⟨ad202.block,ad202.off + 4 + 1,none⟩ = some (.int .i64 ((rd_T29 l0_3 1).f1)) ∧ w'.cell? ⟨ad202.block,ad202.off + 4 + 2,none⟩ = some (.string ((rd_T29 l0_3 1).f2)) ∧ w'.cell? ⟨ad202.block,ad202.off + 4 + 3,none⟩ = some (.slice A204_3 ((rd_T29 l0_3 1).f3).length c204_3)) (ds := []) #[false,false,false,false,false,false,false,false,false,false,false,false] (by kernel_rfl) rfl rfl ⟨(blk_cell BK198.out 0).trans rfl,(blk_cell BK198.out 1).trans rfl,(blk_cell BK198.out 2).trans rfl,(blk_cell BK198.out 3).trans rfl,((HB.out.cell (World.block_lt_of_cell? w _ hw202_0)).trans hw202_0),((HB.out.cell (World.block_lt_of_cell? w _ hw202_1)).trans hw202_1),((HB.out.cell (World.block_lt_of_cell? w _ hw202_2)).trans hw202_2),((HB.out.cell (World.block_lt_of_cell? w _ hw202_3)).trans hw202_3),((HB.out.cell (World.block_lt_of_cell? w _ hw204_0)).trans hw204_0),((HB.out.cell (World.block_lt_of_cell? w _ hw204_1)).trans hw204_1),((HB.out.cell (World.block_lt_of_cell? w _ hw204_2)).trans hw204_2),((HB.out.cell (World.block_lt_of_cell? w _ hw204_3)).trans hw204_3)⟩ (fun hHeld => ?_);refine with_tabW impl_expText.tab8 impl_expText.bits8 (fun HT_ HW_ => ?_)
              generalize w81.drew = w83 at BK198 HB HR202_3 HR204_3 hx202_0 hx202_1 hx202_2 hx202_3 hx204_0 hx204_1 hx204_2 hx204_3 hHeld ⊢
              refine pure_ (i := 0) (N := some 28) (v := ?_) (a' := ?_) #[true,false,false,false,false,false,false,false,false,false,false,false] rfl rfl (any_of HT_.out (by kernel_rfl)) (fun _ _ _ h => h) (Or.inl ⟨by rfl,?_⟩) ?_ ?_
              rotate_left
              ·intro w'
               go_simp
               with_reducible rfl
              rotate_left
              ·simp only [Act.put,List.setIfInBounds_toArray,List.set_cons_zero,List.set_cons_succ,i64_w,i32_w]
               rfl
              refine pure_ (i := 5) (N := some 33) (v := ?_) (a' := ?_) #[true,false,false,false,false,true,false,false,false,false,false,false] rfl rfl (any_of HT_.out (by kernel_rfl)) (fun _ _ _ h => h) (Or.inl ⟨by rfl,?_⟩) ?_ ?_
              rotate_left
              ·intro w'
               go_simp
               with_reducible rfl
              rotate_left
              ·simp only [Act.put,List.setIfInBounds_toArray,List.set_cons_zero,List.set_cons_succ,i64_w,i32_w]
               rfl
              refine take_ (i := 1) (N := some 29) (v := ?_) (a' := ?_) #[true,true,false,false,false,true,false,false,false,false,false,false] rfl rfl (take_ofW HT_.out HW_.out (by kernel_rfl)) (fun _ _ _ h => h) (Or.inl ⟨by rfl,?_⟩) hHeld ?_ ?_
              rotate_left
              ·rintro w' ⟨s0,s1,s2,s3,s4,s5,s6,s7,s8,s9,s10,s11⟩
               go_simp
               with_reducible rfl
              rotate_left
              ·simp only [Act.put,List.setIfInBounds_toArray,List.set_cons_zero,List.set_cons_succ,i64_w,i32_w]
               rfl
              refine pure_ (i := 2) (N := some 30) (v := ?_) (a' := ?_) #[true,true,true,false,false,true,false,false,false,false,false,false] rfl rfl (any_of HT_.out (by kernel_rfl)) (fun _ _ _ h => h) (Or.inl ⟨by rfl,?_⟩) ?_ ?_
              rotate_left
              ·intro w'
               go_simp
               with_reducible rfl
              rotate_left
              ·simp only [Act.put,List.setIfInBounds_toArray,List.set_cons_zero,List.set_cons_succ,i64_w,i32_w]
               rfl
              refine take_ (i := 3) (N := some 31) (v := ?_) (a' := ?_) #[true,true,true,true,false,true,false,false,false,false,false,false] rfl rfl (take_ofW HT_.out HW_.out (by kernel_rfl)) (fun _ _ _ h => h) (Or.inl ⟨by rfl,?_⟩) hHeld ?_ ?_
              rotate_left
              ·rintro w' ⟨s0,s1,s2,s3,s4,s5,s6,s7,s8,s9,s10,s11⟩
               go_simp
               with_reducible rfl
              rotate_left
              ·simp only [Act.put,List.setIfInBounds_toArray,List.set_cons_zero,List.set_cons_succ,i64_w,i32_w]
               rfl
              refine take_ (i := 6) (N := some 34) (v := ?_) (a' := ?_) #[true,true,true,true,false,true,true,false,false,false,false,false] rfl rfl (take_ofW HT_.out HW_.out (by kernel_rfl)) (fun _ _ _ h => h) (Or.inl ⟨by rfl,?_⟩) hHeld ?_ ?_
              rotate_left
              ·rintro w' ⟨s0,s1,s2,s3,s4,s5,s6,s7,s8,s9,s10,s11⟩
               go_simp
               with_reducible rfl
              rotate_left
              ·simp only [Act.put,List.setIfInBounds_toArray,List.set_cons_zero,List.set_cons_succ,i64_w,i32_w]
               rfl
              refine pure_ (i := 7) (N := some 35) (v := ?_) (a' := ?_) #[true,true,true,true,false,true,true,true,false,false,false,false] rfl rfl (any_of HT_.out (by kernel_rfl)) (fun _ _ _ h => h) (Or.inl ⟨by rfl,?_⟩) ?_ ?_
              rotate_left
              ·intro w'
               go_simp
               with_reducible rfl
              rotate_left
              ·simp only [Act.put,List.setIfInBounds_toArray,List.set_cons_zero,List.set_cons_succ,i64_w,i32_w]
               rfl
              refine take_ (i := 8) (N := some 36) (v := ?_) (a' := ?_) #[true,true,true,true,false,true,true,true,true,false,false,false] rfl rfl (take_ofW HT_.out HW_.out (by kernel_rfl)) (fun _ _ _ h => h) (Or.inl ⟨by rfl,?_⟩) hHeld ?_ ?_
              rotate_left
              ·rintro w' ⟨s0,s1,s2,s3,s4,s5,s6,s7,s8,s9,s10,s11⟩
               go_simp
               with_reducible rfl
              rotate_left
              ·simp only [Act.put,List.setIfInBounds_toArray,List.set_cons_zero,List.set_cons_succ,i64_w,i32_w]
               rfl
              refine one_ (i := 4) (N := some 32) #[true,true,true,true,true,true,true,true,true,false,false,false] rfl rfl (one_of HT_.out (by kernel_rfl)) (by decide) (fun K hK => ?_)
              refine goes_ Tryd.func14 (by kernel_rfl) rfl #[.agg #[.int .i64 ((rd_T29 l0_3 0).f0),.int .i64 ((rd_T29 l0_3 0).f1),.string ((rd_T29 l0_3 0).f2),.slice A202_3 ((rd_T29 l0_3 0).f3).length c202_3]] (by rfl) rfl rfl (by (try simp only [List.map_toArray,List.map_cons,List.map_nil]);first|done|rfl) ?_
              with_reducible refine (ih k (by omega) ((rd_T29 l0_3 0).f0) ((rd_T29 l0_3 0).f1) ((rd_T29 l0_3 0).f2) _ _ ((rd_T29 l0_3 0).f3) t203 _ ?hT_ ?side1 ?side2 A21.out).mono ?_
              (case hT_ => exact tabB HT.out (by repeat (first|(with_reducible first|exact HB.out|apply bA|apply bN|apply bD|refine bS ?_ GE198.out)|exact HB.out)))
              (case side1 => repeat (first|exact (Kd.C_below HR202_3.out HB.out)|(with_reducible refine cA ?_ _)|(with_reducible refine cN ?_ _)|(with_reducible refine cD ?_)))
              (case side2 => exact HC202_3.out)
              rintro e w84 ⟨rfl,hb⟩
              refine ⟨_,rfl,?_⟩
              have n0_ := mk0 (blk_below (by exact kX BK198.out) hb)
              have n1_ := mk0 (below_step (by repeat (first|(with_reducible first|exact HB.out|apply bA|apply bN|apply bD|refine bS ?_ GE198.out)|exact HB.out)) hb)
              clear BK198
              clear HB
              have BK198 := n0_
              have HB := n1_
              clear n0_ n1_
              (try clear hb)
              (try clear hb2)
              (try clear hk)
              (try clear hi)
              refine hK.out _ _ ⟨(blk_cell BK198.out 0).trans rfl,(blk_cell BK198.out 1).trans rfl,(blk_cell BK198.out 2).trans rfl,(blk_cell BK198.out 3).trans rfl,((HB.out.cell (World.block_lt_of_cell? w _ hw202_0)).trans hw202_0),((HB.out.cell (World.block_lt_of_cell? w _ hw202_1)).trans hw202_1),((HB.out.cell (World.block_lt_of_cell? w _ hw202_2)).trans hw202_2),((HB.out.cell (World.block_lt_of_cell? w _ hw202_3)).trans hw202_3),((HB.out.cell (World.block_lt_of_cell? w _ hw204_0)).trans hw204_0),((HB.out.cell (World.block_lt_of_cell? w _ hw204_1)).trans hw204_1),((HB.out.cell (World.block_lt_of_cell? w _ hw204_2)).trans hw204_2),((HB.out.cell (World.block_lt_of_cell? w _ hw204_3)).trans hw204_3)⟩ (fun hHeld => ?_)
              clear hK K
              refine norm_ (a' := ?_) ?_ ?_
              rotate_left
              ·show Act.put _ (some 32) _ = _
               simp only [Act.put,List.setIfInBounds_toArray,List.set_cons_zero,List.set_cons_succ,i64_w,i32_w]
               rfl
              refine one_ (i := 9) (N := some 37) #[true,true,true,true,true,true,true,true,true,true,false,false] rfl rfl (one_of HT_.out (by kernel_rfl)) (by decide) (fun K hK => ?_)
              refine goes_ Tryd.func14 (by kernel_rfl) rfl #[.agg #[.int .i64 ((rd_T29 l0_3 1).f0),.int .i64 ((rd_T29 l0_3 1).f1),.string ((rd_T29 l0_3 1).f2),.slice A204_3 ((rd_T29 l0_3 1).f3).length c204_3]] (by rfl) rfl rfl (by (try simp only [List.map_toArray,List.map_cons,List.map_nil]);first|done|rfl) ?_
              with_reducible refine (ih k (by omega) ((rd_T29 l0_3 1).f0) ((rd_T29 l0_3 1).f1) ((rd_T29 l0_3 1).f2) _ _ ((rd_T29 l0_3 1).f3) t205 _ ?hT_ ?side1 ?side2 A23.out).mono ?_
              (case hT_ => exact tabB HT.out (by repeat (first|(with_reducible first|exact HB.out|apply bA|apply bN|apply bD|refine bS ?_ GE198.out)|exact HB.out)))
              (case side1 => repeat (first|exact (Kd.C_below HR204_3.out HB.out)|(with_reducible refine cA ?_ _)|(with_reducible refine cN ?_ _)|(with_reducible refine cD ?_)))
              (case side2 => exact HC204_3.out)
              rintro e w85 ⟨rfl,hb⟩
              refine ⟨_,rfl,?_⟩
              have n0_ := mk0 (blk_below (by exact kX BK198.out) hb)
              have n1_ := mk0 (below_step (by repeat (first|(with_reducible first|exact HB.out|apply bA|apply bN|apply bD|refine bS ?_ GE198.out)|exact HB.out)) hb)
              clear BK198
              clear HB
              have BK198 := n0_
              have HB := n1_
              clear n0_ n1_
              (try clear hb)
              (try clear hb2)
              (try clear hk)
              (try clear hi)
              refine hK.out _ _ ⟨(blk_cell BK198.out 0).trans rfl,(blk_cell BK198.out 1).trans rfl,(blk_cell BK198.out 2).trans rfl,(blk_cell BK198.out 3).trans rfl,((HB.out.cell (World.block_lt_of_cell? w _ hw202_0)).trans hw202_0),((HB.out.cell (World.block_lt_of_cell? w _ hw202_1)).trans hw202_1),((HB.out.cell (World.block_lt_of_cell? w _ hw202_2)).trans hw202_2),((HB.out.cell (World.block_lt_of_cell? w _ hw202_3)).trans hw202_3),((HB.out.cell (World.block_lt_of_cell? w _ hw204_0)).trans hw204_0),((HB.out.cell (World.block_lt_of_cell? w _ hw204_1)).trans hw204_1),((HB.out.cell (World.block_lt_of_cell? w _ hw204_2)).trans hw204_2),((HB.out.cell (World.block_lt_of_cell? w _ hw204_3)).trans hw204_3)⟩ (fun hHeld => ?_)
              clear hK K
              refine norm_ (a' := ?_) ?_ ?_
              rotate_left
              ·show Act.put _ (some 37) _ = _
               simp only [Act.put,List.setIfInBounds_toArray,List.set_cons_zero,List.set_cons_succ,i64_w,i32_w]
               rfl
              refine pure_ (i := 10) (N := some 3) (v := ?_) (a' := ?_) #[true,true,true,true,true,true,true,true,true,true,true,false] rfl rfl (any_of HT_.out (by kernel_rfl)) (fun _ _ _ h => h) (Or.inl ⟨by rfl,?_⟩) ?_ ?_
              rotate_left
              ·intro w'
               go_simp
               with_reducible rfl
              rotate_left
              ·simp only [Act.put,List.setIfInBounds_toArray,List.set_cons_zero,List.set_cons_succ,i64_w,i32_w]
               rfl
              refine pure_ (i := 11) (N := some 4) (v := ?_) (a' := ?_) #[true,true,true,true,true,true,true,true,true,true,true,true] rfl rfl (any_of HT_.out (by kernel_rfl)) (fun _ _ _ h => h) (Or.inl ⟨by rfl,?_⟩) ?_ ?_
              rotate_left
              ·intro w'
               go_simp
               with_reducible rfl
              rotate_left
              ·simp only [Act.put,List.setIfInBounds_toArray,List.set_cons_zero,List.set_cons_succ,i64_w,i32_w]
               rfl
              refine done_ (done_of HT_.out (by kernel_rfl)) ?_
              have z86 := bc4 BK198.out
              try go_wp2
              go_ret
              exact ⟨by first|rfl|(simp [errW_none,errW_some] <;> rfl)|(simp [*,errW_none,errW_some] <;> rfl),by repeat (first|(with_reducible first|exact HB.out|apply bA|apply bN|apply bD|refine bS ?_ GE198.out)|exact HB.out)⟩
             ·rw [if_neg c80] at H
              exact absurd H (by simp)
            ·rw [if_neg c79] at H
             exact absurd H (by simp)
           ·rw [if_neg c78] at H
            exact absurd H (by simp)
          ·rw [if_neg c77] at H
           exact absurd H (by simp)
         ·rw [if_neg c76] at H
          have c76b0 : (a0_0 == 7) = false := beq_eq_false_iff_ne.mpr c76
          have c76b1 : (a0_0 != 7) = true := bne_iff_ne.mpr c76
          by_cases c87 : 4 + t203.size ≤ 9223372036854775807
          ·rw [if_pos c87] at H
           have c87b0 := eq_true c87
           have c87b1 : decide (4 + t203.size ≤ 9223372036854775807) = true := decide_eq_true c87
           try have c87b2 : (9223372036854775807 < 4 + t203.size) = False := eq_false (Nat.not_lt.2 c87)
           by_cases c88 : ((⟨#[109,97,120,40]⟩ : ByteArray) ++ t203).size + 2 ≤ 9223372036854775807
           ·rw [if_pos c88] at H
            have c88b0 := eq_true c88
            have c88b1 : decide (((⟨#[109,97,120,40]⟩ : ByteArray) ++ t203).size + 2 ≤ 9223372036854775807) = true := decide_eq_true c88
            try have c88b2 : (9223372036854775807 < ((⟨#[109,97,120,40]⟩ : ByteArray) ++ t203).size + 2) = False := eq_false (Nat.not_lt.2 c88)
            try have c88b9 : (9223372036854775807 < 4 + t203.size + 2) = False := eq_false (by have q_ := c88;simp only [ByteArray.size_append] at q_;have z0_ : (⟨#[109,97,120,40]⟩ : ByteArray).size = 4 := rfl;omega)
            by_cases c89 : (((⟨#[109,97,120,40]⟩ : ByteArray) ++ t203) ++ (⟨#[44,32]⟩ : ByteArray)).size + t205.size ≤ 9223372036854775807
            ·rw [if_pos c89] at H
             have c89b0 := eq_true c89
             have c89b1 : decide ((((⟨#[109,97,120,40]⟩ : ByteArray) ++ t203) ++ (⟨#[44,32]⟩ : ByteArray)).size + t205.size ≤ 9223372036854775807) = true := decide_eq_true c89
             try have c89b2 : (9223372036854775807 < (((⟨#[109,97,120,40]⟩ : ByteArray) ++ t203) ++ (⟨#[44,32]⟩ : ByteArray)).size + t205.size) = False := eq_false (Nat.not_lt.2 c89)
             try have c89b9 : (9223372036854775807 < 4 + t203.size + 2 + t205.size) = False := eq_false (by have q_ := c89;simp only [ByteArray.size_append] at q_;have z0_ : (⟨#[109,97,120,40]⟩ : ByteArray).size = 4 := rfl;have z1_ : (⟨#[44,32]⟩ : ByteArray).size = 2 := rfl;omega)
             by_cases c90 : ((((⟨#[109,97,120,40]⟩ : ByteArray) ++ t203) ++ (⟨#[44,32]⟩ : ByteArray)) ++ t205).size + 1 ≤ 9223372036854775807
             ·rw [if_pos c90] at H
              have c90b0 := eq_true c90
              have c90b1 : decide (((((⟨#[109,97,120,40]⟩ : ByteArray) ++ t203) ++ (⟨#[44,32]⟩ : ByteArray)) ++ t205).size + 1 ≤ 9223372036854775807) = true := decide_eq_true c90
              try have c90b2 : (9223372036854775807 < ((((⟨#[109,97,120,40]⟩ : ByteArray) ++ t203) ++ (⟨#[44,32]⟩ : ByteArray)) ++ t205).size + 1) = False := eq_false (Nat.not_lt.2 c90)
              try have c90b9 : (9223372036854775807 < 4 + t203.size + 2 + t205.size + 1) = False := eq_false (by have q_ := c90;simp only [ByteArray.size_append] at q_;have z0_ : (⟨#[109,97,120,40]⟩ : ByteArray).size = 4 := rfl;have z1_ : (⟨#[44,32]⟩ : ByteArray).size = 2 := rfl;omega)
              obtain rfl := Option.some.inj H
              go_enter Tryd.func14,Tryd.ntmps14
              try go_wp2_with (first|((with_reducible refine gate_dst (N := 1) rfl ?_);refine box_event ?hg (N := 1) ?hd (cs := #[.int .i64 a0_0,.int .i64 a0_1,.string a0_2,.slice A0_3 l0_3.length c0_3]) (t := 29) ?hr ?_;(case hd => rfl);(case hg => rfl);(case hr => first|(go_simp;done)|(go_simp;rfl));intro gb198 hg w91 hbox hb;have q_ := qB (by repeat (first|(with_reducible first|exact HB.out|apply bA|apply bN|apply bD)|exact HB.out)) hb;have n0_ := mk0 (below_step q_ hb);have n1_ := mk0 (hbox);have n2_ := mk0 (below_size2 q_ hg);have n3_ := n2_;clear HB;have HB := n0_;have BK198 := n1_;have GW198 := n2_;have GE198 := n3_;clear q_ n0_ n1_ n2_ n3_ hb hbox hg;have z92 := bc4 BK198.out))
              have n0_ := mk0 (kD BK198.out)
              have n1_ := mk0 (bD HB.out)
              clear BK198
              clear HB
              have BK198 := n0_
              have HB := n1_
              clear n0_ n1_
              have p202 : 0 ≤ (0 : Int) := (by omega)
              have q202 : 0 < (l0_3.length : Int) := of_decide_eq_true (by first|(with_reducible assumption)|assumption)
              obtain ⟨ad202,A202_3,c202_3,e202,hx202_0,hx202_1,hx202_2,hx202_3,hl202_3,hi202_3⟩ := at_T29 HR0_3.out 0 p202 q202
              have hw202_3 := hx202_3
              (try rw [show ((0 : Int)).toNat = 0 from rfl] at hw202_3)
              (try rw [show 0 * 4 = 0 from rfl] at hw202_3)
              (try rw [Addr.add_zero'] at hw202_3)
              have hw202_2 := hx202_2
              (try rw [show ((0 : Int)).toNat = 0 from rfl] at hw202_2)
              (try rw [show 0 * 4 = 0 from rfl] at hw202_2)
              (try rw [Addr.add_zero'] at hw202_2)
              have hw202_1 := hx202_1
              (try rw [show ((0 : Int)).toNat = 0 from rfl] at hw202_1)
              (try rw [show 0 * 4 = 0 from rfl] at hw202_1)
              (try rw [Addr.add_zero'] at hw202_1)
              have hw202_0 := hx202_0
              (try rw [show ((0 : Int)).toNat = 0 from rfl] at hw202_0)
              (try rw [show 0 * 4 = 0 from rfl] at hw202_0)
              (try rw [Addr.add_zero'] at hw202_0)
              cases e202
              have qi202 : (0 < l0_3.length) = True := eq_true (by omega)
              (try rw [show ((0 : Int)).toNat = 0 from rfl] at hx202_0)
              (try rw [show 0 * 4 = 0 from rfl] at hx202_0)
              (try rw [Addr.add_zero'] at hx202_0)
              (try rw [show ((0 : Int)).toNat = 0 from rfl] at hx202_1)
              (try rw [show 0 * 4 = 0 from rfl] at hx202_1)
              (try rw [Addr.add_zero'] at hx202_1)
              (try rw [show ((0 : Int)).toNat = 0 from rfl] at hx202_2)
              (try rw [show 0 * 4 = 0 from rfl] at hx202_2)
              (try rw [Addr.add_zero'] at hx202_2)
              (try rw [show ((0 : Int)).toNat = 0 from rfl] at hx202_3)
              (try rw [show 0 * 4 = 0 from rfl] at hx202_3)
              (try rw [Addr.add_zero'] at hx202_3)
              replace hx202_0 := hbc HB.out hx202_0
              replace hx202_1 := hbc HB.out hx202_1
              replace hx202_2 := hbc HB.out hx202_2
              replace hx202_3 := hbc HB.out hx202_3
              have HR202_3 := mk0 hi202_3
              have HC202_3 := mk0 hl202_3
              clear hi202_3 hl202_3
              replace p202 := eq_true p202
              replace q202 := eq_true q202
              have p204 : 0 ≤ (1 : Int) := (by omega)
              have q204 : 1 < (l0_3.length : Int) := of_decide_eq_true (by first|(with_reducible assumption)|assumption)
              obtain ⟨ad204,A204_3,c204_3,e204,hx204_0,hx204_1,hx204_2,hx204_3,hl204_3,hi204_3⟩ := at_T29 HR0_3.out 1 p204 q204
              have hw204_3 := hx204_3
              (try rw [show ((1 : Int)).toNat = 1 from rfl] at hw204_3)
              (try rw [show 1 * 4 = 4 from rfl] at hw204_3)
              (try simp only [Nat.reduceMul,Nat.reduceEqDiff,Go.Addr.add,↓reduceIte] at hw204_3)
              have hw204_2 := hx204_2
              (try rw [show ((1 : Int)).toNat = 1 from rfl] at hw204_2)
              (try rw [show 1 * 4 = 4 from rfl] at hw204_2)
              (try simp only [Nat.reduceMul,Nat.reduceEqDiff,Go.Addr.add,↓reduceIte] at hw204_2)
              have hw204_1 := hx204_1
              (try rw [show ((1 : Int)).toNat = 1 from rfl] at hw204_1)
              (try rw [show 1 * 4 = 4 from rfl] at hw204_1)
              (try simp only [Nat.reduceMul,Nat.reduceEqDiff,Go.Addr.add,↓reduceIte] at hw204_1)
              have hw204_0 := hx204_0
              (try rw [show ((1 : Int)).toNat = 1 from rfl] at hw204_0)
              (try rw [show 1 * 4 = 4 from rfl] at hw204_0)
              (try simp only [Nat.reduceMul,Nat.reduceEqDiff,Go.Addr.add,↓reduceIte] at hw204_0)
              obtain rfl : ad202 = ad204 := (by injection e204)
              (try simp only [show (1 : Int).toNat = 1 from rfl,Nat.reduceMul,Nat.reduceEqDiff,Go.Addr.add,↓reduceIte] at hx204_0)
              (try simp only [show (1 : Int).toNat = 1 from rfl,Nat.reduceMul,Nat.reduceEqDiff,Go.Addr.add,↓reduceIte] at hx204_1)
              (try simp only [show (1 : Int).toNat = 1 from rfl,Nat.reduceMul,Nat.reduceEqDiff,Go.Addr.add,↓reduceIte] at hx204_2)
              (try simp only [show (1 : Int).toNat = 1 from rfl,Nat.reduceMul,Nat.reduceEqDiff,Go.Addr.add,↓reduceIte] at hx204_3)
              have qi204 : (1 < l0_3.length) = True := eq_true (by omega)
              (try rw [show ((1 : Int)).toNat = 1 from rfl] at hx204_0)
              (try rw [show 1 * 4 = 4 from rfl] at hx204_0)
              (try rw [show ((1 : Int)).toNat = 1 from rfl] at hx204_1)
              (try rw [show 1 * 4 = 4 from rfl] at hx204_1)
              (try rw [show ((1 : Int)).toNat = 1 from rfl] at hx204_2)
              (try rw [show 1 * 4 = 4 from rfl] at hx204_2)
              (try rw [show ((1 : Int)).toNat = 1 from rfl] at hx204_3)
              (try rw [show 1 * 4 = 4 from rfl] at hx204_3)
              replace hx204_0 := hbc HB.out hx204_0
              replace hx204_1 := hbc HB.out hx204_1
              replace hx204_2 := hbc HB.out hx204_2
              replace hx204_3 := hbc HB.out hx204_3
              have HR204_3 := mk0 hi204_3
              have HC204_3 := mk0 hl204_3
              clear hi204_3 hl204_3
              replace p204 := eq_true p204
              replace q204 := eq_true q204
              refine start_ (n := 12) (S := fun w' => w'.cell? ⟨gb198,0,none⟩ = some (.int .i64 a0_0) ∧ w'.cell? ⟨gb198,1,none⟩ = some (.int .i64 a0_1) ∧ w'.cell? ⟨gb198,2,none⟩ = some (.string a0_2) ∧ w'.cell? ⟨gb198,3,none⟩ = some (.slice (some ad202) l0_3.length c0_3) ∧ w'.cell? ad202 = some (.int .i64 ((rd_T29 l0_3 0).f0)) ∧ w'.cell? ⟨ad202.block,ad202.off + 1,none⟩ = some (.int .i64 ((rd_T29 l0_3 0).f1)) ∧ w'.cell? ⟨ad202.block,ad202.off + 2,none⟩ = some (.string ((rd_T29 l0_3 0).f2)) ∧ w'.cell? ⟨ad202.block,ad202.off + 3,none⟩ = some (.slice A202_3 ((rd_T29 l0_3 0).f3).length c202_3) ∧ w'.cell? ⟨ad202.block,ad202.off + 4,none⟩ = some (.int .i64 ((rd_T29 l0_3 1).f0)) ∧ w'.cell? ⟨ad202.block,ad202.off + 4 + 1,none⟩ = some (.int .i64 ((rd_T29 l0_3 1).f1)) ∧ w'.cell? ⟨ad202.block,ad202.off + 4 + 2,none⟩ = some (.string ((rd_T29 l0_3 1).f2)) ∧ w'.cell? ⟨ad202.block,ad202.off + 4 + 3,none⟩ = some (.slice A204_3 ((rd_T29 l0_3 1).f3).length c204_3)) (ds := []) #[false,false,false,false,false,false,false,false,false,false,false,false] (by kernel_rfl) rfl rfl ⟨(blk_cell BK198.out 0).trans rfl,(blk_cell BK198.out 1).trans rfl,(blk_cell BK198.out 2).trans rfl,(blk_cell BK198.out 3).trans rfl,((HB.out.cell (World.block_lt_of_cell? w _ hw202_0)).trans hw202_0),((HB.out.cell (World.block_lt_of_cell? w _ hw202_1)).trans hw202_1),((HB.out.cell (World.block_lt_of_cell? w _ hw202_2)).trans hw202_2),((HB.out.cell (World.block_lt_of_cell? w _ hw202_3)).trans hw202_3),((HB.out.cell (World.block_lt_of_cell? w _ hw204_0)).trans hw204_0),((HB.out.cell (World.block_lt_of_cell? w _ hw204_1)).trans hw204_1),((HB.out.cell (World.block_lt_of_cell? w _ hw204_2)).trans hw204_2),((HB.out.cell (World.block_lt_of_cell? w _ hw204_3)).trans hw204_3)⟩ (fun hHeld => ?_);refine with_tabW impl_expText.tab8 impl_expText.bits8 (fun HT_ HW_ => ?_)
              generalize w91.drew = w93 at BK198 HB HR202_3 HR204_3 hx202_0 hx202_1 hx202_2 hx202_3 hx204_0 hx204_1 hx204_2 hx204_3 hHeld ⊢
              refine pure_ (i := 0) (N := some 28) (v := ?_) (a' := ?_) #[true,false,false,false,false,false,false,false,false,false,false,false] rfl rfl (any_of HT_.out (by kernel_rfl)) (fun _ _ _ h => h) (Or.inl ⟨by rfl,?_⟩) ?_ ?_
              rotate_left
              ·intro w'
               go_simp
               with_reducible rfl
              rotate_left
              ·simp only [Act.put,List.setIfInBounds_toArray,List.set_cons_zero,List.set_cons_succ,i64_w,i32_w]
               rfl
              refine pure_ (i := 5) (N := some 33) (v := ?_) (a' := ?_) #[true,false,false,false,false,true,false,false,false,false,false,false] rfl rfl (any_of HT_.out (by kernel_rfl)) (fun _ _ _ h => h) (Or.inl ⟨by rfl,?_⟩) ?_ ?_
              rotate_left
              ·intro w'
               go_simp
               with_reducible rfl
              rotate_left
              ·simp only [Act.put,List.setIfInBounds_toArray,List.set_cons_zero,List.set_cons_succ,i64_w,i32_w]
               rfl
              refine take_ (i := 1) (N := some 29) (v := ?_) (a' := ?_) #[true,true,false,false,false,true,false,false,false,false,false,false] rfl rfl (take_ofW HT_.out HW_.out (by kernel_rfl)) (fun _ _ _ h => h) (Or.inl ⟨by rfl,?_⟩) hHeld ?_ ?_
              rotate_left
              ·rintro w' ⟨s0,s1,s2,s3,s4,s5,s6,s7,s8,s9,s10,s11⟩
               go_simp
               with_reducible rfl
              rotate_left
              ·simp only [Act.put,List.setIfInBounds_toArray,List.set_cons_zero,List.set_cons_succ,i64_w,i32_w]
               rfl
              refine pure_ (i := 2) (N := some 30) (v := ?_) (a' := ?_) #[true,true,true,false,false,true,false,false,false,false,false,false] rfl rfl (any_of HT_.out (by kernel_rfl)) (fun _ _ _ h => h) (Or.inl ⟨by rfl,?_⟩) ?_ ?_
              rotate_left
              ·intro w'
               go_simp
               with_reducible rfl
              rotate_left
              ·simp only [Act.put,List.setIfInBounds_toArray,List.set_cons_zero,List.set_cons_succ,i64_w,i32_w]
               rfl
              refine take_ (i := 3) (N := some 31) (v := ?_) (a' := ?_) #[true,true,true,true,false,true,false,false,false,false,false,false] rfl rfl (take_ofW HT_.out HW_.out (by kernel_rfl)) (fun _ _ _ h => h) (Or.inl ⟨by rfl,?_⟩) hHeld ?_ ?_
              rotate_left
              ·rintro w' ⟨s0,s1,s2,s3,s4,s5,s6,s7,s8,s9,s10,s11⟩
               go_simp
               with_reducible rfl
              rotate_left
              ·simp only [Act.put,List.setIfInBounds_toArray,List.set_cons_zero,List.set_cons_succ,i64_w,i32_w]
               rfl
              refine take_ (i := 6) (N := some 34) (v := ?_) (a' := ?_) #[true,true,true,true,false,true,true,false,false,false,false,false] rfl rfl (take_ofW HT_.out HW_.out (by kernel_rfl)) (fun _ _ _ h => h) (Or.inl ⟨by rfl,?_⟩) hHeld ?_ ?_
              rotate_left
              ·rintro w' ⟨s0,s1,s2,s3,s4,s5,s6,s7,s8,s9,s10,s11⟩
               go_simp
               with_reducible rfl
              rotate_left
              ·simp only [Act.put,List.setIfInBounds_toArray,List.set_cons_zero,List.set_cons_succ,i64_w,i32_w]
               rfl
              refine pure_ (i := 7) (N := some 35) (v := ?_) (a' := ?_) #[true,true,true,true,false,true,true,true,false,false,false,false] rfl rfl (any_of HT_.out (by kernel_rfl)) (fun _ _ _ h => h) (Or.inl ⟨by rfl,?_⟩) ?_ ?_
              rotate_left
              ·intro w'
               go_simp
               with_reducible rfl
              rotate_left
              ·simp only [Act.put,List.setIfInBounds_toArray,List.set_cons_zero,List.set_cons_succ,i64_w,i32_w]
               rfl
              refine take_ (i := 8) (N := some 36) (v := ?_) (a' := ?_) #[true,true,true,true,false,true,true,true,true,false,false,false] rfl rfl (take_ofW HT_.out HW_.out (by kernel_rfl)) (fun _ _ _ h => h) (Or.inl ⟨by rfl,?_⟩) hHeld ?_ ?_
              rotate_left
              ·rintro w' ⟨s0,s1,s2,s3,s4,s5,s6,s7,s8,s9,s10,s11⟩
               go_simp
               with_reducible rfl
              rotate_left
              ·simp only [Act.put,List.setIfInBounds_toArray,List.set_cons_zero,List.set_cons_succ,i64_w,i32_w]
               rfl
              refine one_ (i := 4) (N := some 32) #[true,true,true,true,true,true,true,true,true,false,false,false] rfl rfl (one_of HT_.out (by kernel_rfl)) (by decide) (fun K hK => ?_)
              refine goes_ Tryd.func14 (by kernel_rfl) rfl #[.agg #[.int .i64 ((rd_T29 l0_3 0).f0),.int .i64 ((rd_T29 l0_3 0).f1),.string ((rd_T29 l0_3 0).f2),.slice A202_3 ((rd_T29 l0_3 0).f3).length c202_3]] (by rfl) rfl rfl (by (try simp only [List.map_toArray,List.map_cons,List.map_nil]);first|done|rfl) ?_
              with_reducible refine (ih k (by omega) ((rd_T29 l0_3 0).f0) ((rd_T29 l0_3 0).f1) ((rd_T29 l0_3 0).f2) _ _ ((rd_T29 l0_3 0).f3) t203 _ ?hT_ ?side1 ?side2 A21.out).mono ?_
              (case hT_ => exact tabB HT.out (by repeat (first|(with_reducible first|exact HB.out|apply bA|apply bN|apply bD|refine bS ?_ GE198.out)|exact HB.out)))
              (case side1 => repeat (first|exact (Kd.C_below HR202_3.out HB.out)|(with_reducible refine cA ?_ _)|(with_reducible refine cN ?_ _)|(with_reducible refine cD ?_)))
              (case side2 => exact HC202_3.out)
              rintro e w94 ⟨rfl,hb⟩
              refine ⟨_,rfl,?_⟩
              have n0_ := mk0 (blk_below (by exact kX BK198.out) hb)
              have n1_ := mk0 (below_step (by repeat (first|(with_reducible first|exact HB.out|apply bA|apply bN|apply bD|refine bS ?_ GE198.out)|exact HB.out)) hb)
              clear BK198
              clear HB
              have BK198 := n0_
              have HB := n1_
              clear n0_ n1_
              (try clear hb)
              (try clear hb2)
              (try clear hk)
              (try clear hi)
              refine hK.out _ _ ⟨(blk_cell BK198.out 0).trans rfl,(blk_cell BK198.out 1).trans rfl,(blk_cell BK198.out 2).trans rfl,(blk_cell BK198.out 3).trans rfl,((HB.out.cell (World.block_lt_of_cell? w _ hw202_0)).trans hw202_0),((HB.out.cell (World.block_lt_of_cell? w _ hw202_1)).trans hw202_1),((HB.out.cell (World.block_lt_of_cell? w _ hw202_2)).trans hw202_2),((HB.out.cell (World.block_lt_of_cell? w _ hw202_3)).trans hw202_3),((HB.out.cell (World.block_lt_of_cell? w _ hw204_0)).trans hw204_0),((HB.out.cell (World.block_lt_of_cell? w _ hw204_1)).trans hw204_1),((HB.out.cell (World.block_lt_of_cell? w _ hw204_2)).trans hw204_2),((HB.out.cell (World.block_lt_of_cell? w _ hw204_3)).trans hw204_3)⟩ (fun hHeld => ?_)
              clear hK K
              refine norm_ (a' := ?_) ?_ ?_
              rotate_left
              ·show Act.put _ (some 32) _ = _
               simp only [Act.put,List.setIfInBounds_toArray,List.set_cons_zero,List.set_cons_succ,i64_w,i32_w]
               rfl
              refine one_ (i := 9) (N := some 37) #[true,true,true,true,true,true,true,true,true,true,false,false] rfl rfl (one_of HT_.out (by kernel_rfl)) (by decide) (fun K hK => ?_)
              refine goes_ Tryd.func14 (by kernel_rfl) rfl #[.agg #[.int .i64 ((rd_T29 l0_3 1).f0),.int .i64 ((rd_T29 l0_3 1).f1),.string ((rd_T29 l0_3 1).f2),.slice A204_3 ((rd_T29 l0_3 1).f3).length c204_3]] (by rfl) rfl rfl (by (try simp only [List.map_toArray,List.map_cons,List.map_nil]);first|done|rfl) ?_
              with_reducible refine (ih k (by omega) ((rd_T29 l0_3 1).f0) ((rd_T29 l0_3 1).f1) ((rd_T29 l0_3 1).f2) _ _ ((rd_T29 l0_3 1).f3) t205 _ ?hT_ ?side1 ?side2 A23.out).mono ?_
              (case hT_ => exact tabB HT.out (by repeat (first|(with_reducible first|exact HB.out|apply bA|apply bN|apply bD|refine bS ?_ GE198.out)|exact HB.out)))
              (case side1 => repeat (first|exact (Kd.C_below HR204_3.out HB.out)|(with_reducible refine cA ?_ _)|(with_reducible refine cN ?_ _)|(with_reducible refine cD ?_)))
              (case side2 => exact HC204_3.out)
              rintro e w95 ⟨rfl,hb⟩
              refine ⟨_,rfl,?_⟩
              have n0_ := mk0 (blk_below (by exact kX BK198.out) hb)
              have n1_ := mk0 (below_step (by repeat (first|(with_reducible first|exact HB.out|apply bA|apply bN|apply bD|refine bS ?_ GE198.out)|exact HB.out)) hb)
              clear BK198
              clear HB
              have BK198 := n0_
              have HB := n1_
              clear n0_ n1_
              (try clear hb)
              (try clear hb2)
              (try clear hk)
              (try clear hi)
              refine hK.out _ _ ⟨(blk_cell BK198.out 0).trans rfl,(blk_cell BK198.out 1).trans rfl,(blk_cell BK198.out 2).trans rfl,(blk_cell BK198.out 3).trans rfl,((HB.out.cell (World.block_lt_of_cell? w _ hw202_0)).trans hw202_0),((HB.out.cell (World.block_lt_of_cell? w _ hw202_1)).trans hw202_1),((HB.out.cell (World.block_lt_of_cell? w _ hw202_2)).trans hw202_2),((HB.out.cell (World.block_lt_of_cell? w _ hw202_3)).trans hw202_3),((HB.out.cell (World.block_lt_of_cell? w _ hw204_0)).trans hw204_0),((HB.out.cell (World.block_lt_of_cell? w _ hw204_1)).trans hw204_1),((HB.out.cell (World.block_lt_of_cell? w _ hw204_2)).trans hw204_2),((HB.out.cell (World.block_lt_of_cell? w _ hw204_3)).trans hw204_3)⟩ (fun hHeld => ?_)
              clear hK K
              refine norm_ (a' := ?_) ?_ ?_
              rotate_left
              ·show Act.put _ (some 37) _ = _
               simp only [Act.put,List.setIfInBounds_toArray,List.set_cons_zero,List.set_cons_succ,i64_w,i32_w]
               rfl
              refine pure_ (i := 10) (N := some 3) (v := ?_) (a' := ?_) #[true,true,true,true,true,true,true,true,true,true,true,false] rfl rfl (any_of HT_.out (by kernel_rfl)) (fun _ _ _ h => h) (Or.inl ⟨by rfl,?_⟩) ?_ ?_
              rotate_left
              ·intro w'
               go_simp
               with_reducible rfl
              rotate_left
              ·simp only [Act.put,List.setIfInBounds_toArray,List.set_cons_zero,List.set_cons_succ,i64_w,i32_w]
               rfl
              refine pure_ (i := 11) (N := some 4) (v := ?_) (a' := ?_) #[true,true,true,true,true,true,true,true,true,true,true,true] rfl rfl (any_of HT_.out (by kernel_rfl)) (fun _ _ _ h => h) (Or.inl ⟨by rfl,?_⟩) ?_ ?_
              rotate_left
              ·intro w'
               go_simp
               with_reducible rfl
              rotate_left
              ·simp only [Act.put,List.setIfInBounds_toArray,List.set_cons_zero,List.set_cons_succ,i64_w,i32_w]
               rfl
              refine done_ (done_of HT_.out (by kernel_rfl)) ?_
              have z96 := bc4 BK198.out
              try go_wp2
              go_ret
              exact ⟨by first|rfl|(simp [errW_none,errW_some] <;> rfl)|(simp [*,errW_none,errW_some] <;> rfl),by repeat (first|(with_reducible first|exact HB.out|apply bA|apply bN|apply bD|refine bS ?_ GE198.out)|exact HB.out)⟩
             ·rw [if_neg c90] at H
              exact absurd H (by simp)
            ·rw [if_neg c89] at H
             exact absurd H (by simp)
           ·rw [if_neg c88] at H
            exact absurd H (by simp)
          ·rw [if_neg c87] at H
           exact absurd H (by simp)
     ·rw [if_neg c22] at H
      exact absurd H (by simp)
    ·rw [if_neg c20] at H
     exact absurd H (by simp)
 all_goals
  go_enter Tryd.func14,Tryd.ntmps14
  go_wp2_with (first|((with_reducible refine gate_dst (N := 1) rfl ?_);refine box_event ?hg (N := 1) ?hd (cs := #[.int .i64 a0_0,.int .i64 a0_1,.string a0_2,.slice A0_3 l0_3.length c0_3]) (t := 29) ?hr ?_;(case hd => rfl);(case hg => rfl);(case hr => first|(go_simp;done)|(go_simp;rfl));intro gb198 hg w4 hbox hb;have q_ := qB (by repeat (first|(with_reducible first|exact HB.out|apply bA|apply bN|apply bD)|exact HB.out)) hb;have n0_ := mk0 (below_step q_ hb);have n1_ := mk0 (hbox);have n2_ := mk0 (below_size2 q_ hg);have n3_ := n2_;clear HB;have HB := n0_;have BK198 := n1_;have GW198 := n2_;have GE198 := n3_;clear q_ n0_ n1_ n2_ n3_ hb hbox hg;have z5 := bc4 BK198.out)|((with_reducible refine gate_callee (f := 21) rfl ?_);refine goesL_ (some 11) rfl rfl Tryd.func21 (by kernel_rfl) rfl #[.int .i64 a0_1] rfl (by (try simp only [List.map_toArray,List.map_cons,List.map_nil]);first|done|rfl) ?_;(with_reducible refine (impl_NumText.calls (hT := ?hT_) a0_1 t199 _ A3.out).mono ?_);(case hT_ => exact tabB HT.out (by repeat (first|(with_reducible first|exact HB.out|apply bA|apply bN|apply bD|refine bS ?_ GE198.out)|exact HB.out)));rintro e w6 ⟨rfl,hb⟩;refine ⟨_,rfl,?_⟩;have n0_ := mk0 (blk_below (by exact kX BK198.out) hb);have n1_ := mk0 (below_step (by repeat (first|(with_reducible first|exact HB.out|apply bA|apply bN|apply bD|refine bS ?_ GE198.out)|exact HB.out)) hb);clear BK198 HB;have BK198 := n0_;have HB := n1_;clear n0_ n1_;(try clear hb);(try clear hb2);(try clear hk);(try clear hi)))
  go_ret
  exact ⟨by first|rfl|(simp [errW_none,errW_some] <;> rfl)|(simp [*,errW_none,errW_some] <;> rfl),by repeat (first|(with_reducible first|exact HB.out|apply bA|apply bN|apply bD|refine bS ?_ GE198.out)|exact HB.out)⟩
end Go.Proofs.YtmmdgciefehbcaaDoor.PFnExactExpText
