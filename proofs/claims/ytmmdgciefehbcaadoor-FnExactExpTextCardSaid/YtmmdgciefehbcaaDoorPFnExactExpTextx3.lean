-- The functions of a law as plain Lean functions, each with its contract: written by a program of this session.
import Derived.Test.YtmmdgciefehbcaaDoorPFnExactExpTextx0
import Derived.Test.YtmmdgciefehbcaaDoorPFnExactExpTextx2
namespace Go.Proofs.YtmmdgciefehbcaaDoor.PFnExactExpText
open Go.RowKit Go.Proofs.YtmmdgciefehbcaaDoorW.PrintWords Go.Proofs.YtmmdgciefehbcaaDoorW.PrintLast Go.Proofs.YtmmdgciefehbcaaDoorW.PrintMore
attribute [local go_sem] max2_int min2_int max_two min_two max_three min_three max_four min_four   -- for this text's walks alone
set_option linter.unusedVariables false
set_option linter.unusedSimpArgs false

/-! ### spec_l6At: function 18 -/

/-! ### spec_l6Exp: function 11 -/
def spec_l6Exp.T7 : Bool × List (List Nat × List Nat) := (true, [([], []), ([0], [0]), ([1], [1]), ([], []), ([3], [3]), ([4], [4]), ([5], [5]), ([6], [6]), ([2, 7], [2, 7]), ([8], [8]), ([9, 7, 0, 1, 2, 3, 4, 5, 6, 7, 8, 9], [9])])
def spec_l6Exp.B7 : List Nat := [0, 1, 3, 0, 8, 24, 56, 120, 255, 511, 1023]
theorem spec_l6Exp.tab7 : rtab .any (opsOf Tryd.f11 7) = spec_l6Exp.T7 := by kernel_rfl
theorem spec_l6Exp.bits7 : waitsOk spec_l6Exp.T7.2 spec_l6Exp.B7 = true := by kernel_rfl
def spec_l6Exp.T9 : Bool × List (List Nat × List Nat) := (true, [([], []), ([0], [0]), ([1], [1]), ([2], [2]), ([3], [3]), ([4], [4]), ([], []), ([6], [6]), ([7], [7]), ([8], [8]), ([9, 4], [9]), ([5, 10], [5, 10]), ([11, 10, 0, 1, 2, 3, 4, 5, 6, 7, 8, 9, 10, 11], [11])])
def spec_l6Exp.B9 : List Nat := [0, 1, 3, 7, 15, 31, 0, 64, 192, 448, 991, 2047, 4095]
theorem spec_l6Exp.tab9 : rtab .any (opsOf Tryd.f11 9) = spec_l6Exp.T9 := by kernel_rfl
theorem spec_l6Exp.bits9 : waitsOk spec_l6Exp.T9.2 spec_l6Exp.B9 = true := by kernel_rfl
def spec_l6Exp.T11 : Bool × List (List Nat × List Nat) := (true, [([], []), ([0], [0]), ([1], [1]), ([2], [2]), ([3], [3]), ([4], [4]), ([], []), ([6], [6]), ([7], [7]), ([8], [8]), ([9, 4], [9]), ([5, 10], [5, 10]), ([11, 10, 0, 1, 2, 3, 4, 5, 6, 7, 8, 9, 10, 11], [11])])
def spec_l6Exp.B11 : List Nat := [0, 1, 3, 7, 15, 31, 0, 64, 192, 448, 991, 2047, 4095]
theorem spec_l6Exp.tab11 : rtab .any (opsOf Tryd.f11 11) = spec_l6Exp.T11 := by kernel_rfl
theorem spec_l6Exp.bits11 : waitsOk spec_l6Exp.T11.2 spec_l6Exp.B11 = true := by kernel_rfl
def spec_l6Exp.T13 : Bool × List (List Nat × List Nat) := (true, [([], []), ([0], [0]), ([1], [1]), ([2], [2]), ([3], [3]), ([4], [4]), ([], []), ([6], [6]), ([7], [7]), ([8], [8]), ([9, 4], [9]), ([5, 10], [5, 10]), ([11, 10, 0, 1, 2, 3, 4, 5, 6, 7, 8, 9, 10, 11], [11])])
def spec_l6Exp.B13 : List Nat := [0, 1, 3, 7, 15, 31, 0, 64, 192, 448, 991, 2047, 4095]
theorem spec_l6Exp.tab13 : rtab .any (opsOf Tryd.f11 13) = spec_l6Exp.T13 := by kernel_rfl
theorem spec_l6Exp.bits13 : waitsOk spec_l6Exp.T13.2 spec_l6Exp.B13 = true := by kernel_rfl
def spec_l6Exp.T15 : Bool × List (List Nat × List Nat) := (true, [([], []), ([0], [0]), ([1], [1]), ([2], [2]), ([3], [3]), ([4], [4]), ([5], [5]), ([], []), ([7], [7]), ([8], [8]), ([9], [9]), ([10, 4], [10]), ([6, 11], [6, 11]), ([12], [12]), ([13, 11, 0, 1, 2, 3, 4, 5, 6, 7, 8, 9, 10, 11, 12, 13], [13])])
def spec_l6Exp.B15 : List Nat := [0, 1, 3, 7, 15, 31, 63, 0, 128, 384, 896, 1951, 4095, 8191, 16383]
theorem spec_l6Exp.tab15 : rtab .any (opsOf Tryd.f11 15) = spec_l6Exp.T15 := by kernel_rfl
theorem spec_l6Exp.bits15 : waitsOk spec_l6Exp.T15.2 spec_l6Exp.B15 = true := by kernel_rfl
def spec_l6Exp.T16 : Bool × List (List Nat × List Nat) := (true, [([], []), ([0], [0]), ([1], [1]), ([2], [2]), ([3], [3]), ([4], [4]), ([5], [5]), ([], []), ([7], [7]), ([8], [8]), ([9], [9]), ([10, 4], [10]), ([6, 11], [6, 11]), ([12], [12]), ([13, 11, 0, 1, 2, 3, 4, 5, 6, 7, 8, 9, 10, 11, 12, 13], [13])])
def spec_l6Exp.B16 : List Nat := [0, 1, 3, 7, 15, 31, 63, 0, 128, 384, 896, 1951, 4095, 8191, 16383]
theorem spec_l6Exp.tab16 : rtab .any (opsOf Tryd.f11 16) = spec_l6Exp.T16 := by kernel_rfl
theorem spec_l6Exp.bits16 : waitsOk spec_l6Exp.T16.2 spec_l6Exp.B16 = true := by kernel_rfl

mutual
def spec_l6Exp.f : Nat → Int → Int → ByteArray → List (S29) → Option (ByteArray)
 | 0, _, _, _, _ => none
 | k + 1, a0_0, a0_1, a0_2, l0_3 => if a0_0 = 1 then ((spec_NumText.f k a0_1).bind fun t136 => (some t136)) else (if a0_0 = 2 then (some a0_2) else (if a0_0 = 3 then (if a0_2.size + 1 ≤ 9223372036854775807 then (if 0 < (l0_3.length : Int) then ((spec_l6Exp.f k ((rd_T29 l0_3 0).f0) ((rd_T29 l0_3 0).f1) ((rd_T29 l0_3 0).f2) ((rd_T29 l0_3 0).f3)).bind fun t138 => (if (a0_2 ++ (⟨#[91]⟩ : ByteArray)).size + t138.size ≤ 9223372036854775807 then (if ((a0_2 ++ (⟨#[91]⟩ : ByteArray)) ++ t138).size + 1 ≤ 9223372036854775807 then (some (((a0_2 ++ (⟨#[91]⟩ : ByteArray)) ++ t138) ++ (⟨#[93]⟩ : ByteArray))) else (none)) else (none))) else (none)) else (none)) else (if a0_0 = 4 then (if 0 < (l0_3.length : Int) then ((spec_l6At.f k ((rd_T29 l0_3 0).f0) ((rd_T29 l0_3 0).f1) ((rd_T29 l0_3 0).f2) ((rd_T29 l0_3 0).f3) 1).bind fun t140 => (if t140.size + 3 ≤ 9223372036854775807 then (if 1 < (l0_3.length : Int) then ((spec_l6At.f k ((rd_T29 l0_3 1).f0) ((rd_T29 l0_3 1).f1) ((rd_T29 l0_3 1).f2) ((rd_T29 l0_3 1).f3) 2).bind fun t142 => (if (t140 ++ (⟨#[32, 43, 32]⟩ : ByteArray)).size + t142.size ≤ 9223372036854775807 then (some ((t140 ++ (⟨#[32, 43, 32]⟩ : ByteArray)) ++ t142)) else (none))) else (none)) else (none))) else (none)) else (if a0_0 = 5 then (if 0 < (l0_3.length : Int) then ((spec_l6At.f k ((rd_T29 l0_3 0).f0) ((rd_T29 l0_3 0).f1) ((rd_T29 l0_3 0).f2) ((rd_T29 l0_3 0).f3) 1).bind fun t144 => (if t144.size + 3 ≤ 9223372036854775807 then (if 1 < (l0_3.length : Int) then ((spec_l6At.f k ((rd_T29 l0_3 1).f0) ((rd_T29 l0_3 1).f1) ((rd_T29 l0_3 1).f2) ((rd_T29 l0_3 1).f3) 2).bind fun t146 => (if (t144 ++ (⟨#[32, 45, 32]⟩ : ByteArray)).size + t146.size ≤ 9223372036854775807 then (some ((t144 ++ (⟨#[32, 45, 32]⟩ : ByteArray)) ++ t146)) else (none))) else (none)) else (none))) else (none)) else (if a0_0 = 6 then (if 0 < (l0_3.length : Int) then ((spec_l6At.f k ((rd_T29 l0_3 0).f0) ((rd_T29 l0_3 0).f1) ((rd_T29 l0_3 0).f2) ((rd_T29 l0_3 0).f3) 2).bind fun t148 => (if t148.size + 3 ≤ 9223372036854775807 then (if 1 < (l0_3.length : Int) then ((spec_l6At.f k ((rd_T29 l0_3 1).f0) ((rd_T29 l0_3 1).f1) ((rd_T29 l0_3 1).f2) ((rd_T29 l0_3 1).f3) 3).bind fun t150 => (if (t148 ++ (⟨#[32, 42, 32]⟩ : ByteArray)).size + t150.size ≤ 9223372036854775807 then (some ((t148 ++ (⟨#[32, 42, 32]⟩ : ByteArray)) ++ t150)) else (none))) else (none)) else (none))) else (none)) else (if a0_0 = 7 then (if 0 < (l0_3.length : Int) then ((spec_l6Exp.f k ((rd_T29 l0_3 0).f0) ((rd_T29 l0_3 0).f1) ((rd_T29 l0_3 0).f2) ((rd_T29 l0_3 0).f3)).bind fun t152 => (if 4 + t152.size ≤ 9223372036854775807 then (if ((⟨#[109, 105, 110, 40]⟩ : ByteArray) ++ t152).size + 2 ≤ 9223372036854775807 then (if 1 < (l0_3.length : Int) then ((spec_l6Exp.f k ((rd_T29 l0_3 1).f0) ((rd_T29 l0_3 1).f1) ((rd_T29 l0_3 1).f2) ((rd_T29 l0_3 1).f3)).bind fun t154 => (if (((⟨#[109, 105, 110, 40]⟩ : ByteArray) ++ t152) ++ (⟨#[44, 32]⟩ : ByteArray)).size + t154.size ≤ 9223372036854775807 then (if ((((⟨#[109, 105, 110, 40]⟩ : ByteArray) ++ t152) ++ (⟨#[44, 32]⟩ : ByteArray)) ++ t154).size + 1 ≤ 9223372036854775807 then (some (((((⟨#[109, 105, 110, 40]⟩ : ByteArray) ++ t152) ++ (⟨#[44, 32]⟩ : ByteArray)) ++ t154) ++ (⟨#[41]⟩ : ByteArray))) else (none)) else (none))) else (none)) else (none)) else (none))) else (none)) else (if 0 < (l0_3.length : Int) then ((spec_l6Exp.f k ((rd_T29 l0_3 0).f0) ((rd_T29 l0_3 0).f1) ((rd_T29 l0_3 0).f2) ((rd_T29 l0_3 0).f3)).bind fun t156 => (if 4 + t156.size ≤ 9223372036854775807 then (if ((⟨#[109, 97, 120, 40]⟩ : ByteArray) ++ t156).size + 2 ≤ 9223372036854775807 then (if 1 < (l0_3.length : Int) then ((spec_l6Exp.f k ((rd_T29 l0_3 1).f0) ((rd_T29 l0_3 1).f1) ((rd_T29 l0_3 1).f2) ((rd_T29 l0_3 1).f3)).bind fun t158 => (if (((⟨#[109, 97, 120, 40]⟩ : ByteArray) ++ t156) ++ (⟨#[44, 32]⟩ : ByteArray)).size + t158.size ≤ 9223372036854775807 then (if ((((⟨#[109, 97, 120, 40]⟩ : ByteArray) ++ t156) ++ (⟨#[44, 32]⟩ : ByteArray)) ++ t158).size + 1 ≤ 9223372036854775807 then (some (((((⟨#[109, 97, 120, 40]⟩ : ByteArray) ++ t156) ++ (⟨#[44, 32]⟩ : ByteArray)) ++ t158) ++ (⟨#[41]⟩ : ByteArray))) else (none)) else (none))) else (none)) else (none)) else (none))) else (none))))))))
def spec_l6At.f : Nat → (Int) → (Int) → (ByteArray) → (List (S29)) → (Int) → Option (ByteArray)
 | 0, _, _, _, _, _ => none
 | k + 1, a0_0, a0_1, a0_2, l0_3, a1 => (spec_l6Exp.f k a0_0 a0_1 a0_2 l0_3).bind fun t133 => ((spec_l6Level.f k a0_0 a0_1 a0_2 l0_3).bind fun t134 => (if t134 < a1 then (if 1 + t133.size ≤ 9223372036854775807 then (if ((⟨#[40]⟩ : ByteArray) ++ t133).size + 1 ≤ 9223372036854775807 then (some (((⟨#[40]⟩ : ByteArray) ++ t133) ++ (⟨#[41]⟩ : ByteArray))) else (none)) else (none)) else (some t133)))
end

theorem spec_l6Exp_l6At_both.mono : ∀ k, (∀ y0 y1 y2 y3, LeO (spec_l6Exp.f k y0 y1 y2 y3) (spec_l6Exp.f (k + 1) y0 y1 y2 y3)) ∧ (∀ y0 y1 y2 y3 y4, LeO (spec_l6At.f k y0 y1 y2 y3 y4) (spec_l6At.f (k + 1) y0 y1 y2 y3 y4))
 | 0 => ⟨fun _ _ _ _ r h => by simp [spec_l6Exp.f] at h, fun _ _ _ _ _ r h => by simp [spec_l6At.f] at h⟩
 | k + 1 => by
  have ih := spec_l6Exp_l6At_both.mono k
  refine ⟨?_, ?_⟩
  ·intro y0 y1 y2 y3
   rw [spec_l6Exp.f, spec_l6Exp.f]
   repeat' first
   | (with_reducible exact ih.1 _ _ _ _)
   | (with_reducible exact ih.2 _ _ _ _ _)
   | (with_reducible exact spec_NumText.mono _ _)
   | (with_reducible exact spec_l6Level.mono _ _ _ _ _)
   | (with_reducible exact LeO.refl _)
   | (with_reducible exact LeO.none _)
   | (with_reducible refine LeO.ite ?_ ?_)
   | (with_reducible refine LeO.bind ?_ (fun _ => ?_))
  ·intro y0 y1 y2 y3 y4
   rw [spec_l6At.f, spec_l6At.f]
   repeat' first
   | (with_reducible exact ih.1 _ _ _ _)
   | (with_reducible exact ih.2 _ _ _ _ _)
   | (with_reducible exact spec_NumText.mono _ _)
   | (with_reducible exact spec_l6Level.mono _ _ _ _ _)
   | (with_reducible exact LeO.refl _)
   | (with_reducible exact LeO.none _)
   | (with_reducible refine LeO.ite ?_ ?_)
   | (with_reducible refine LeO.bind ?_ (fun _ => ?_))

theorem spec_l6Exp.mono : ∀ a0 a1 a2 a3 k, LeO (spec_l6Exp.f k a0 a1 a2 a3) (spec_l6Exp.f (k + 1) a0 a1 a2 a3) := fun a0 a1 a2 a3 k => (spec_l6Exp_l6At_both.mono k).1 a0 a1 a2 a3

theorem spec_l6At.mono : ∀ a0 a1 a2 a3 a4 k, LeO (spec_l6At.f k a0 a1 a2 a3 a4) (spec_l6At.f (k + 1) a0 a1 a2 a3 a4) := fun a0 a1 a2 a3 a4 k => (spec_l6Exp_l6At_both.mono k).2 a0 a1 a2 a3 a4

set_option maxHeartbeats 8000000 in
set_option maxRecDepth 100000 in
theorem spec_l6Exp.callsG (K : Nat) (IH : Aside0 (∀ m, m < K → ∀ (a0_0 : Int) (a0_1 : Int) (a0_2 : ByteArray) (A0_3 : Option Addr) (c0_3 : Nat) (l0_3 : List (S29)) (a1 : Int) (r : ByteArray) (w : World) (hr0_3 : Kd.C k29 w A0_3 l0_3.length l0_3) (hc0_3 : l0_3.length ≤ c0_3) (h : spec_l6At.f m a0_0 a0_1 a0_2 l0_3 a1 = some r),
   Calls Tryd.prog 18 #[.agg #[.int .i64 a0_0, .int .i64 a0_1, .string a0_2, .slice A0_3 l0_3.length c0_3], .int .i64 a1] w fun e w' => e = .returned (.string r) ∧ Below w.heap.size w w')) (IHS : Aside0 (∀ m, m < K → ∀ (a0_0 : Int) (a0_1 : Int) (a0_2 : ByteArray) (A0_3 : Option Addr) (c0_3 : Nat) (l0_3 : List (S29)) (r : ByteArray) (w : World) (hr0_3 : Kd.C k29 w A0_3 l0_3.length l0_3) (hc0_3 : l0_3.length ≤ c0_3) (h : spec_l6Exp.f m a0_0 a0_1 a0_2 l0_3 = some r),
   Calls Tryd.prog 11 #[.agg #[.int .i64 a0_0, .int .i64 a0_1, .string a0_2, .slice A0_3 l0_3.length c0_3]] w fun e w' => e = .returned (.string r) ∧ Below w.heap.size w w')) (a0_0 : Int) (a0_1 : Int) (a0_2 : ByteArray) (A0_3 : Option Addr) (c0_3 : Nat) (l0_3 : List (S29)) (r : ByteArray) (w : World) (hr0_3 : Kd.C k29 w A0_3 l0_3.length l0_3) (hc0_3 : l0_3.length ≤ c0_3) (h : spec_l6Exp.f K a0_0 a0_1 a0_2 l0_3 = some r) :
  Calls Tryd.prog 11 #[.agg #[.int .i64 a0_0, .int .i64 a0_1, .string a0_2, .slice A0_3 l0_3.length c0_3]] w fun e w' => e = .returned (.string r) ∧ Below w.heap.size w w' := by
 cases K with
 |zero => exact absurd h (by simp [spec_l6Exp.f])
 |succ k =>
 have hu29 := Tryd.underlying29
 have HR0_3 := mk0 hr0_3
 have HC0_3 := mk0 hc0_3
 clear hr0_3 hc0_3
 have HB := mk0 (Below.refl w.heap.size w)
 have H : (if a0_0 = 1 then ((spec_NumText.f k a0_1).bind fun t136 => (some t136)) else (if a0_0 = 2 then (some a0_2) else (if a0_0 = 3 then (if a0_2.size + 1 ≤ 9223372036854775807 then (if 0 < (l0_3.length : Int) then ((spec_l6Exp.f k ((rd_T29 l0_3 0).f0) ((rd_T29 l0_3 0).f1) ((rd_T29 l0_3 0).f2) ((rd_T29 l0_3 0).f3)).bind fun t138 => (if (a0_2 ++ (⟨#[91]⟩ : ByteArray)).size + t138.size ≤ 9223372036854775807 then (if ((a0_2 ++ (⟨#[91]⟩ : ByteArray)) ++ t138).size + 1 ≤ 9223372036854775807 then (some (((a0_2 ++ (⟨#[91]⟩ : ByteArray)) ++ t138) ++ (⟨#[93]⟩ : ByteArray))) else (none)) else (none))) else (none)) else (none)) else (if a0_0 = 4 then (if 0 < (l0_3.length : Int) then ((spec_l6At.f k ((rd_T29 l0_3 0).f0) ((rd_T29 l0_3 0).f1) ((rd_T29 l0_3 0).f2) ((rd_T29 l0_3 0).f3) 1).bind fun t140 => (if t140.size + 3 ≤ 9223372036854775807 then (if 1 < (l0_3.length : Int) then ((spec_l6At.f k ((rd_T29 l0_3 1).f0) ((rd_T29 l0_3 1).f1) ((rd_T29 l0_3 1).f2) ((rd_T29 l0_3 1).f3) 2).bind fun t142 => (if (t140 ++ (⟨#[32,43,32]⟩ : ByteArray)).size + t142.size ≤ 9223372036854775807 then (some ((t140 ++ (⟨#[32,43,32]⟩ : ByteArray)) ++ t142)) else (none))) else (none)) else (none))) else (none)) else (if a0_0 = 5 then (if 0 < (l0_3.length : Int) then ((spec_l6At.f k ((rd_T29 l0_3 0).f0) ((rd_T29 l0_3 0).f1) ((rd_T29 l0_3 0).f2) ((rd_T29 l0_3 0).f3) 1).bind fun t144 => (if t144.size + 3 ≤ 9223372036854775807 then (if 1 < (l0_3.length : Int) then ((spec_l6At.f k ((rd_T29 l0_3 1).f0) ((rd_T29 l0_3 1).f1) ((rd_T29 l0_3 1).f2) ((rd_T29 l0_3 1).f3) 2).bind fun t146 => (if (t144 ++ (⟨#[32,45,32]⟩ : ByteArray)).size + t146.size ≤ 9223372036854775807 then (some ((t144 ++ (⟨#[32,45,32]⟩ : ByteArray)) ++ t146)) else (none))) else (none)) else (none))) else (none)) else (if a0_0 = 6 then (if 0 < (l0_3.length : Int) then ((spec_l6At.f k ((rd_T29 l0_3 0).f0) ((rd_T29 l0_3 0).f1) ((rd_T29 l0_3 0).f2) ((rd_T29 l0_3 0).f3) 2).bind fun t148 => (if t148.size + 3 ≤ 9223372036854775807 then (if 1 < (l0_3.length : Int) then ((spec_l6At.f k ((rd_T29 l0_3 1).f0) ((rd_T29 l0_3 1).f1) ((rd_T29 l0_3 1).f2) ((rd_T29 l0_3 1).f3) 3).bind fun t150 => (if (t148 ++ (⟨#[32,42,32]⟩ : ByteArray)).size + t150.size ≤ 9223372036854775807 then (some ((t148 ++ (⟨#[32,42,32]⟩ : ByteArray)) ++ t150)) else (none))) else (none)) else (none))) else (none)) else (if a0_0 = 7 then (if 0 < (l0_3.length : Int) then ((spec_l6Exp.f k ((rd_T29 l0_3 0).f0) ((rd_T29 l0_3 0).f1) ((rd_T29 l0_3 0).f2) ((rd_T29 l0_3 0).f3)).bind fun t152 => (if 4 + t152.size ≤ 9223372036854775807 then (if ((⟨#[109,105,110,40]⟩ : ByteArray) ++ t152).size + 2 ≤ 9223372036854775807 then (if 1 < (l0_3.length : Int) then ((spec_l6Exp.f k ((rd_T29 l0_3 1).f0) ((rd_T29 l0_3 1).f1) ((rd_T29 l0_3 1).f2) ((rd_T29 l0_3 1).f3)).bind fun t154 => (if (((⟨#[109,105,110,40]⟩ : ByteArray) ++ t152) ++ (⟨#[44,32]⟩ : ByteArray)).size + t154.size ≤ 9223372036854775807 then (if ((((⟨#[109,105,110,40]⟩ : ByteArray) ++ t152) ++ (⟨#[44,32]⟩ : ByteArray)) ++ t154).size + 1 ≤ 9223372036854775807 then (some (((((⟨#[109,105,110,40]⟩ : ByteArray) ++ t152) ++ (⟨#[44,32]⟩ : ByteArray)) ++ t154) ++ (⟨#[41]⟩ : ByteArray))) else (none)) else (none))) else (none)) else (none)) else (none))) else (none)) else (if 0 < (l0_3.length : Int) then ((spec_l6Exp.f k ((rd_T29 l0_3 0).f0) ((rd_T29 l0_3 0).f1) ((rd_T29 l0_3 0).f2) ((rd_T29 l0_3 0).f3)).bind fun t156 => (if 4 + t156.size ≤ 9223372036854775807 then (if ((⟨#[109,97,120,40]⟩ : ByteArray) ++ t156).size + 2 ≤ 9223372036854775807 then (if 1 < (l0_3.length : Int) then ((spec_l6Exp.f k ((rd_T29 l0_3 1).f0) ((rd_T29 l0_3 1).f1) ((rd_T29 l0_3 1).f2) ((rd_T29 l0_3 1).f3)).bind fun t158 => (if (((⟨#[109,97,120,40]⟩ : ByteArray) ++ t156) ++ (⟨#[44,32]⟩ : ByteArray)).size + t158.size ≤ 9223372036854775807 then (if ((((⟨#[109,97,120,40]⟩ : ByteArray) ++ t156) ++ (⟨#[44,32]⟩ : ByteArray)) ++ t158).size + 1 ≤ 9223372036854775807 then (some (((((⟨#[109,97,120,40]⟩ : ByteArray) ++ t156) ++ (⟨#[44,32]⟩ : ByteArray)) ++ t158) ++ (⟨#[41]⟩ : ByteArray))) else (none)) else (none))) else (none)) else (none)) else (none))) else (none))))))))) = some r := by rw [spec_l6Exp.f] at h;exact h
 clear h
 refine Or.elim (Classical.em (a0_0 = 1)) (fun c2 => ?yes6) (fun c2 => ?no6)
 case' yes6 =>
  rw [if_pos c2] at H
  have c2b0 : (a0_0 == 1) = true := beq_iff_eq.mpr c2
  have c2b1 : (a0_0 != 1) = false := bne_eq_false_iff_eq.mpr c2
  clear c2
  obtain ⟨t136,A3,H⟩ := bindA H
  obtain rfl := Option.some.inj H
 case' no6 =>
  rw [if_neg c2] at H
  have c2b0 : (a0_0 == 1) = false := beq_eq_false_iff_ne.mpr c2
  have c2b1 : (a0_0 != 1) = true := bne_iff_ne.mpr c2
  refine Or.elim (Classical.em (a0_0 = 2)) (fun c7 => ?yes7) (fun c7 => ?no7)
  case' yes7 =>
   rw [if_pos c7] at H
   have c7b0 : (a0_0 == 2) = true := beq_iff_eq.mpr c7
   have c7b1 : (a0_0 != 2) = false := bne_eq_false_iff_eq.mpr c7
   clear c7
   obtain rfl := Option.some.inj H
  case' no7 =>
   rw [if_neg c7] at H
   have c7b0 : (a0_0 == 2) = false := beq_eq_false_iff_ne.mpr c7
   have c7b1 : (a0_0 != 2) = true := bne_iff_ne.mpr c7
   by_cases c10 : a0_0 = 3
   ·rw [if_pos c10] at H
    have c10b0 : (a0_0 == 3) = true := beq_iff_eq.mpr c10
    have c10b1 : (a0_0 != 3) = false := bne_eq_false_iff_eq.mpr c10
    clear c10
    by_cases c11 : a0_2.size + 1 ≤ 9223372036854775807
    ·rw [if_pos c11] at H
     have c11b0 := eq_true c11
     have c11b1 : decide (a0_2.size + 1 ≤ 9223372036854775807) = true := decide_eq_true c11
     try have c11b2 : (9223372036854775807 < a0_2.size + 1) = False := eq_false (Nat.not_lt.2 c11)
     by_cases c12 : 0 < (l0_3.length : Int)
     ·rw [if_pos c12] at H
      have c12b0 : decide (0 < (l0_3.length : Int)) = true := decide_eq_true c12
      have c12b1 : decide (0 < l0_3.length) = true := decide_eq_true (by omega)
      clear c12
      obtain ⟨t138,A13,H⟩ := bindA H
      by_cases c14 : (a0_2 ++ (⟨#[91]⟩ : ByteArray)).size + t138.size ≤ 9223372036854775807
      ·rw [if_pos c14] at H
       have c14b0 := eq_true c14
       have c14b1 : decide ((a0_2 ++ (⟨#[91]⟩ : ByteArray)).size + t138.size ≤ 9223372036854775807) = true := decide_eq_true c14
       try have c14b2 : (9223372036854775807 < (a0_2 ++ (⟨#[91]⟩ : ByteArray)).size + t138.size) = False := eq_false (Nat.not_lt.2 c14)
       try have c14b9 : (9223372036854775807 < a0_2.size + 1 + t138.size) = False := eq_false (by have q_ := c14;simp only [ByteArray.size_append] at q_;have z0_ : (⟨#[91]⟩ : ByteArray).size = 1 := rfl;omega)
       by_cases c15 : ((a0_2 ++ (⟨#[91]⟩ : ByteArray)) ++ t138).size + 1 ≤ 9223372036854775807
       ·rw [if_pos c15] at H
        have c15b0 := eq_true c15
        have c15b1 : decide (((a0_2 ++ (⟨#[91]⟩ : ByteArray)) ++ t138).size + 1 ≤ 9223372036854775807) = true := decide_eq_true c15
        try have c15b2 : (9223372036854775807 < ((a0_2 ++ (⟨#[91]⟩ : ByteArray)) ++ t138).size + 1) = False := eq_false (Nat.not_lt.2 c15)
        try have c15b9 : (9223372036854775807 < a0_2.size + 1 + t138.size + 1) = False := eq_false (by have q_ := c15;simp only [ByteArray.size_append] at q_;have z0_ : (⟨#[91]⟩ : ByteArray).size = 1 := rfl;omega)
        obtain rfl := Option.some.inj H
        go_enter Tryd.func11,Tryd.ntmps11
        try go_wp2_with (first|((with_reducible refine gate_dst (N := 1) rfl ?_);refine box_event ?hg (N := 1) ?hd (cs := #[.int .i64 a0_0,.int .i64 a0_1,.string a0_2,.slice A0_3 l0_3.length c0_3]) (t := 29) ?hr ?_;(case hd => rfl);(case hg => rfl);(case hr => first|(go_simp;done)|(go_simp;rfl));intro gb135 hg w16 hbox hb;have q_ := qB (by repeat (first|(with_reducible first|exact HB.out|apply bA|apply bN|apply bD)|exact HB.out)) hb;have n0_ := mk0 (below_step q_ hb);have n1_ := mk0 (hbox);have n2_ := mk0 (below_size2 q_ hg);have n3_ := n2_;clear HB;have HB := n0_;have BK135 := n1_;have GW135 := n2_;have GE135 := n3_;clear q_ n0_ n1_ n2_ n3_ hb hbox hg;have z17 := bc4 BK135.out))
        have n0_ := mk0 (kD BK135.out)
        have n1_ := mk0 (bD HB.out)
        clear BK135
        clear HB
        have BK135 := n0_
        have HB := n1_
        clear n0_ n1_
        have p137 : 0 ≤ (0 : Int) := (by omega)
        have q137 : 0 < (l0_3.length : Int) := of_decide_eq_true (by first|(with_reducible assumption)|assumption)
        obtain ⟨ad137,A137_3,c137_3,e137,hx137_0,hx137_1,hx137_2,hx137_3,hl137_3,hi137_3⟩ := at_T29 HR0_3.out 0 p137 q137
        have hw137_3 := hx137_3
        (try rw [show ((0 : Int)).toNat = 0 from rfl] at hw137_3)
        (try rw [show 0 * 4 = 0 from rfl] at hw137_3)
        (try rw [Addr.add_zero'] at hw137_3)
        have hw137_2 := hx137_2
        (try rw [show ((0 : Int)).toNat = 0 from rfl] at hw137_2)
        (try rw [show 0 * 4 = 0 from rfl] at hw137_2)
        (try rw [Addr.add_zero'] at hw137_2)
        have hw137_1 := hx137_1
        (try rw [show ((0 : Int)).toNat = 0 from rfl] at hw137_1)
        (try rw [show 0 * 4 = 0 from rfl] at hw137_1)
        (try rw [Addr.add_zero'] at hw137_1)
        have hw137_0 := hx137_0
        (try rw [show ((0 : Int)).toNat = 0 from rfl] at hw137_0)
        (try rw [show 0 * 4 = 0 from rfl] at hw137_0)
        (try rw [Addr.add_zero'] at hw137_0)
        cases e137
        have qi137 : (0 < l0_3.length) = True := eq_true (by omega)
        (try rw [show ((0 : Int)).toNat = 0 from rfl] at hx137_0)
        (try rw [show 0 * 4 = 0 from rfl] at hx137_0)
        (try rw [Addr.add_zero'] at hx137_0)
        (try rw [show ((0 : Int)).toNat = 0 from rfl] at hx137_1)
        (try rw [show 0 * 4 = 0 from rfl] at hx137_1)
        (try rw [Addr.add_zero'] at hx137_1)
        (try rw [show ((0 : Int)).toNat = 0 from rfl] at hx137_2)
        (try rw [show 0 * 4 = 0 from rfl] at hx137_2)
        (try rw [Addr.add_zero'] at hx137_2)
        (try rw [show ((0 : Int)).toNat = 0 from rfl] at hx137_3)
        (try rw [show 0 * 4 = 0 from rfl] at hx137_3)
        (try rw [Addr.add_zero'] at hx137_3)
        replace hx137_0 := hbc HB.out hx137_0
        replace hx137_1 := hbc HB.out hx137_1
        replace hx137_2 := hbc HB.out hx137_2
        replace hx137_3 := hbc HB.out hx137_3
        have HR137_3 := mk0 hi137_3
        have HC137_3 := mk0 hl137_3
        clear hi137_3 hl137_3
        replace p137 := eq_true p137
        replace q137 := eq_true q137
        refine start_ (n := 11) (S := fun w' => w'.cell? ⟨gb135,0,none⟩ = some (.int .i64 a0_0) ∧ w'.cell? ⟨gb135,1,none⟩ = some (.int .i64 a0_1) ∧ w'.cell? ⟨gb135,2,none⟩ = some (.string a0_2) ∧ w'.cell? ⟨gb135,3,none⟩ = some (.slice (some ad137) l0_3.length c0_3) ∧ w'.cell? ad137 = some (.int .i64 ((rd_T29 l0_3 0).f0)) ∧ w'.cell? ⟨ad137.block,ad137.off + 1,none⟩ = some (.int .i64 ((rd_T29 l0_3 0).f1)) ∧ w'.cell? ⟨ad137.block,ad137.off + 2,none⟩ = some (.string ((rd_T29 l0_3 0).f2)) ∧ w'.cell? ⟨ad137.block,ad137.off + 3,none⟩ = some (.slice A137_3 ((rd_T29 l0_3 0).f3).length c137_3)) (ds := []) #[false,false,false,false,false,false,false,false,false,false,false] (by kernel_rfl) rfl rfl ⟨(blk_cell BK135.out 0).trans rfl,(blk_cell BK135.out 1).trans rfl,(blk_cell BK135.out 2).trans rfl,(blk_cell BK135.out 3).trans rfl,((HB.out.cell (World.block_lt_of_cell? w _ hw137_0)).trans hw137_0),((HB.out.cell (World.block_lt_of_cell? w _ hw137_1)).trans hw137_1),((HB.out.cell (World.block_lt_of_cell? w _ hw137_2)).trans hw137_2),((HB.out.cell (World.block_lt_of_cell? w _ hw137_3)).trans hw137_3)⟩ (fun hHeld => ?_);refine with_tabW spec_l6Exp.tab7 spec_l6Exp.bits7 (fun HT_ HW_ => ?_)
        generalize w16.drew = w18 at BK135 HB HR137_3 hx137_0 hx137_1 hx137_2 hx137_3 hHeld ⊢
        refine pure_ (i := 0) (N := some 16) (v := ?_) (a' := ?_) #[true,false,false,false,false,false,false,false,false,false,false] rfl rfl (any_of HT_.out (by kernel_rfl)) (fun _ _ _ h => h) (Or.inl ⟨by rfl,?_⟩) ?_ ?_
        rotate_left
        ·intro w'
         go_simp
         with_reducible rfl
        rotate_left
        ·simp only [Act.put,List.setIfInBounds_toArray,List.set_cons_zero,List.set_cons_succ,i64_w,i32_w]
         rfl
        refine pure_ (i := 3) (N := some 19) (v := ?_) (a' := ?_) #[true,false,false,true,false,false,false,false,false,false,false] rfl rfl (any_of HT_.out (by kernel_rfl)) (fun _ _ _ h => h) (Or.inl ⟨by rfl,?_⟩) ?_ ?_
        rotate_left
        ·intro w'
         go_simp
         with_reducible rfl
        rotate_left
        ·simp only [Act.put,List.setIfInBounds_toArray,List.set_cons_zero,List.set_cons_succ,i64_w,i32_w]
         rfl
        refine take_ (i := 1) (N := some 17) (v := ?_) (a' := ?_) #[true,true,false,true,false,false,false,false,false,false,false] rfl rfl (take_ofW HT_.out HW_.out (by kernel_rfl)) (fun _ _ _ h => h) (Or.inl ⟨by rfl,?_⟩) hHeld ?_ ?_
        rotate_left
        ·rintro w' ⟨s0,s1,s2,s3,s4,s5,s6,s7⟩
         go_simp
         with_reducible rfl
        rotate_left
        ·simp only [Act.put,List.setIfInBounds_toArray,List.set_cons_zero,List.set_cons_succ,i64_w,i32_w]
         rfl
        refine pure_ (i := 2) (N := some 18) (v := ?_) (a' := ?_) #[true,true,true,true,false,false,false,false,false,false,false] rfl rfl (any_of HT_.out (by kernel_rfl)) (fun _ _ _ h => h) (Or.inl ⟨by rfl,?_⟩) ?_ ?_
        rotate_left
        ·intro w'
         go_simp
         with_reducible rfl
        rotate_left
        ·simp only [Act.put,List.setIfInBounds_toArray,List.set_cons_zero,List.set_cons_succ,i64_w,i32_w]
         rfl
        refine take_ (i := 4) (N := some 20) (v := ?_) (a' := ?_) #[true,true,true,true,true,false,false,false,false,false,false] rfl rfl (take_ofW HT_.out HW_.out (by kernel_rfl)) (fun _ _ _ h => h) (Or.inl ⟨by rfl,?_⟩) hHeld ?_ ?_
        rotate_left
        ·rintro w' ⟨s0,s1,s2,s3,s4,s5,s6,s7⟩
         go_simp
         with_reducible rfl
        rotate_left
        ·simp only [Act.put,List.setIfInBounds_toArray,List.set_cons_zero,List.set_cons_succ,i64_w,i32_w]
         rfl
        refine pure_ (i := 5) (N := some 21) (v := ?_) (a' := ?_) #[true,true,true,true,true,true,false,false,false,false,false] rfl rfl (any_of HT_.out (by kernel_rfl)) (fun _ _ _ h => h) (Or.inl ⟨by rfl,?_⟩) ?_ ?_
        rotate_left
        ·intro w'
         go_simp
         with_reducible rfl
        rotate_left
        ·simp only [Act.put,List.setIfInBounds_toArray,List.set_cons_zero,List.set_cons_succ,i64_w,i32_w]
         rfl
        refine take_ (i := 6) (N := some 22) (v := ?_) (a' := ?_) #[true,true,true,true,true,true,true,false,false,false,false] rfl rfl (take_ofW HT_.out HW_.out (by kernel_rfl)) (fun _ _ _ h => h) (Or.inl ⟨by rfl,?_⟩) hHeld ?_ ?_
        rotate_left
        ·rintro w' ⟨s0,s1,s2,s3,s4,s5,s6,s7⟩
         go_simp
         with_reducible rfl
        rotate_left
        ·simp only [Act.put,List.setIfInBounds_toArray,List.set_cons_zero,List.set_cons_succ,i64_w,i32_w]
         rfl
        refine one_ (i := 7) (N := some 23) #[true,true,true,true,true,true,true,true,false,false,false] rfl rfl (one_of HT_.out (by kernel_rfl)) (by decide) (fun K hK => ?_)
        refine goes_ Tryd.func11 (by kernel_rfl) rfl #[.agg #[.int .i64 ((rd_T29 l0_3 0).f0),.int .i64 ((rd_T29 l0_3 0).f1),.string ((rd_T29 l0_3 0).f2),.slice A137_3 ((rd_T29 l0_3 0).f3).length c137_3]] (by rfl) rfl rfl (by (try simp only [List.map_toArray,List.map_cons,List.map_nil]);first|done|rfl) ?_
        with_reducible refine (IHS.out k (by omega) ((rd_T29 l0_3 0).f0) ((rd_T29 l0_3 0).f1) ((rd_T29 l0_3 0).f2) _ _ ((rd_T29 l0_3 0).f3) t138 _ ?side1 ?side2 A13.out).mono ?_
        (case side1 => repeat (first|exact (Kd.C_below HR137_3.out HB.out)|(with_reducible refine cA ?_ _)|(with_reducible refine cN ?_ _)|(with_reducible refine cD ?_)))
        (case side2 => exact HC137_3.out)
        rintro e w19 ⟨rfl,hb⟩
        refine ⟨_,rfl,?_⟩
        have n0_ := mk0 (blk_below (by exact kX BK135.out) hb)
        have n1_ := mk0 (below_step (by repeat (first|(with_reducible first|exact HB.out|apply bA|apply bN|apply bD|refine bS ?_ GE135.out)|exact HB.out)) hb)
        clear BK135
        clear HB
        have BK135 := n0_
        have HB := n1_
        clear n0_ n1_
        (try clear hb)
        (try clear hb2)
        (try clear hk)
        (try clear hi)
        refine hK.out _ _ ⟨(blk_cell BK135.out 0).trans rfl,(blk_cell BK135.out 1).trans rfl,(blk_cell BK135.out 2).trans rfl,(blk_cell BK135.out 3).trans rfl,((HB.out.cell (World.block_lt_of_cell? w _ hw137_0)).trans hw137_0),((HB.out.cell (World.block_lt_of_cell? w _ hw137_1)).trans hw137_1),((HB.out.cell (World.block_lt_of_cell? w _ hw137_2)).trans hw137_2),((HB.out.cell (World.block_lt_of_cell? w _ hw137_3)).trans hw137_3)⟩ (fun hHeld => ?_)
        clear hK K
        refine norm_ (a' := ?_) ?_ ?_
        rotate_left
        ·show Act.put _ (some 23) _ = _
         simp only [Act.put,List.setIfInBounds_toArray,List.set_cons_zero,List.set_cons_succ,i64_w,i32_w]
         rfl
        refine pure_ (i := 8) (N := some 24) (v := ?_) (a' := ?_) #[true,true,true,true,true,true,true,true,true,false,false] rfl rfl (any_of HT_.out (by kernel_rfl)) (fun _ _ _ h => h) (Or.inl ⟨by rfl,?_⟩) ?_ ?_
        rotate_left
        ·intro w'
         go_simp
         with_reducible rfl
        rotate_left
        ·simp only [Act.put,List.setIfInBounds_toArray,List.set_cons_zero,List.set_cons_succ,i64_w,i32_w]
         rfl
        refine pure_ (i := 9) (N := some 25) (v := ?_) (a' := ?_) #[true,true,true,true,true,true,true,true,true,true,false] rfl rfl (any_of HT_.out (by kernel_rfl)) (fun _ _ _ h => h) (Or.inl ⟨by rfl,?_⟩) ?_ ?_
        rotate_left
        ·intro w'
         go_simp
         with_reducible rfl
        rotate_left
        ·simp only [Act.put,List.setIfInBounds_toArray,List.set_cons_zero,List.set_cons_succ,i64_w,i32_w]
         rfl
        refine pure_ (i := 10) (N := some 2) (v := ?_) (a' := ?_) #[true,true,true,true,true,true,true,true,true,true,true] rfl rfl (any_of HT_.out (by kernel_rfl)) (fun _ _ _ h => h) (Or.inl ⟨by rfl,?_⟩) ?_ ?_
        rotate_left
        ·intro w'
         go_simp
         with_reducible rfl
        rotate_left
        ·simp only [Act.put,List.setIfInBounds_toArray,List.set_cons_zero,List.set_cons_succ,i64_w,i32_w]
         rfl
        refine done_ (done_of HT_.out (by kernel_rfl)) ?_
        try go_wp2
        go_ret
        exact ⟨by first|rfl|(simp [errW_none,errW_some] <;> rfl)|(simp [*,errW_none,errW_some] <;> rfl),by repeat (first|(with_reducible first|exact HB.out|apply bA|apply bN|apply bD|refine bS ?_ GE135.out)|exact HB.out)⟩
       ·rw [if_neg c15] at H
        exact absurd H (by simp)
      ·rw [if_neg c14] at H
       exact absurd H (by simp)
     ·rw [if_neg c12] at H
      exact absurd H (by simp)
    ·rw [if_neg c11] at H
     exact absurd H (by simp)
   ·rw [if_neg c10] at H
    have c10b0 : (a0_0 == 3) = false := beq_eq_false_iff_ne.mpr c10
    have c10b1 : (a0_0 != 3) = true := bne_iff_ne.mpr c10
    by_cases c20 : a0_0 = 4
    ·rw [if_pos c20] at H
     have c20b0 : (a0_0 == 4) = true := beq_iff_eq.mpr c20
     have c20b1 : (a0_0 != 4) = false := bne_eq_false_iff_eq.mpr c20
     clear c20
     by_cases c21 : 0 < (l0_3.length : Int)
     ·rw [if_pos c21] at H
      have c21b0 : decide (0 < (l0_3.length : Int)) = true := decide_eq_true c21
      have c21b1 : decide (0 < l0_3.length) = true := decide_eq_true (by omega)
      clear c21
      obtain ⟨t140,A22,H⟩ := bindA H
      by_cases c23 : t140.size + 3 ≤ 9223372036854775807
      ·rw [if_pos c23] at H
       have c23b0 := eq_true c23
       have c23b1 : decide (t140.size + 3 ≤ 9223372036854775807) = true := decide_eq_true c23
       try have c23b2 : (9223372036854775807 < t140.size + 3) = False := eq_false (Nat.not_lt.2 c23)
       by_cases c24 : 1 < (l0_3.length : Int)
       ·rw [if_pos c24] at H
        have c24b0 : decide (1 < (l0_3.length : Int)) = true := decide_eq_true c24
        have c24b1 : decide (1 < l0_3.length) = true := decide_eq_true (by omega)
        clear c24
        obtain ⟨t142,A25,H⟩ := bindA H
        by_cases c26 : (t140 ++ (⟨#[32,43,32]⟩ : ByteArray)).size + t142.size ≤ 9223372036854775807
        ·rw [if_pos c26] at H
         have c26b0 := eq_true c26
         have c26b1 : decide ((t140 ++ (⟨#[32,43,32]⟩ : ByteArray)).size + t142.size ≤ 9223372036854775807) = true := decide_eq_true c26
         try have c26b2 : (9223372036854775807 < (t140 ++ (⟨#[32,43,32]⟩ : ByteArray)).size + t142.size) = False := eq_false (Nat.not_lt.2 c26)
         try have c26b9 : (9223372036854775807 < t140.size + 3 + t142.size) = False := eq_false (by have q_ := c26;simp only [ByteArray.size_append] at q_;have z0_ : (⟨#[32,43,32]⟩ : ByteArray).size = 3 := rfl;omega)
         obtain rfl := Option.some.inj H
         go_enter Tryd.func11,Tryd.ntmps11
         try go_wp2_with (first|((with_reducible refine gate_dst (N := 1) rfl ?_);refine box_event ?hg (N := 1) ?hd (cs := #[.int .i64 a0_0,.int .i64 a0_1,.string a0_2,.slice A0_3 l0_3.length c0_3]) (t := 29) ?hr ?_;(case hd => rfl);(case hg => rfl);(case hr => first|(go_simp;done)|(go_simp;rfl));intro gb135 hg w27 hbox hb;have q_ := qB (by repeat (first|(with_reducible first|exact HB.out|apply bA|apply bN|apply bD)|exact HB.out)) hb;have n0_ := mk0 (below_step q_ hb);have n1_ := mk0 (hbox);have n2_ := mk0 (below_size2 q_ hg);have n3_ := n2_;clear HB;have HB := n0_;have BK135 := n1_;have GW135 := n2_;have GE135 := n3_;clear q_ n0_ n1_ n2_ n3_ hb hbox hg;have z28 := bc4 BK135.out))
         have n0_ := mk0 (kD BK135.out)
         have n1_ := mk0 (bD HB.out)
         clear BK135
         clear HB
         have BK135 := n0_
         have HB := n1_
         clear n0_ n1_
         have p139 : 0 ≤ (0 : Int) := (by omega)
         have q139 : 0 < (l0_3.length : Int) := of_decide_eq_true (by first|(with_reducible assumption)|assumption)
         obtain ⟨ad139,A139_3,c139_3,e139,hx139_0,hx139_1,hx139_2,hx139_3,hl139_3,hi139_3⟩ := at_T29 HR0_3.out 0 p139 q139
         have hw139_3 := hx139_3
         (try rw [show ((0 : Int)).toNat = 0 from rfl] at hw139_3)
         (try rw [show 0 * 4 = 0 from rfl] at hw139_3)
         (try rw [Addr.add_zero'] at hw139_3)
         have hw139_2 := hx139_2
         (try rw [show ((0 : Int)).toNat = 0 from rfl] at hw139_2)
         (try rw [show 0 * 4 = 0 from rfl] at hw139_2)
         (try rw [Addr.add_zero'] at hw139_2)
         have hw139_1 := hx139_1
         (try rw [show ((0 : Int)).toNat = 0 from rfl] at hw139_1)
         (try rw [show 0 * 4 = 0 from rfl] at hw139_1)
         (try rw [Addr.add_zero'] at hw139_1)
         have hw139_0 := hx139_0
         (try rw [show ((0 : Int)).toNat = 0 from rfl] at hw139_0)
         (try rw [show 0 * 4 = 0 from rfl] at hw139_0)
         (try rw [Addr.add_zero'] at hw139_0)
         cases e139
         have qi139 : (0 < l0_3.length) = True := eq_true (by omega)
         (try rw [show ((0 : Int)).toNat = 0 from rfl] at hx139_0)
         (try rw [show 0 * 4 = 0 from rfl] at hx139_0)
         (try rw [Addr.add_zero'] at hx139_0)
         (try rw [show ((0 : Int)).toNat = 0 from rfl] at hx139_1)
         (try rw [show 0 * 4 = 0 from rfl] at hx139_1)
         (try rw [Addr.add_zero'] at hx139_1)
         (try rw [show ((0 : Int)).toNat = 0 from rfl] at hx139_2)
         (try rw [show 0 * 4 = 0 from rfl] at hx139_2)
         (try rw [Addr.add_zero'] at hx139_2)
         (try rw [show ((0 : Int)).toNat = 0 from rfl] at hx139_3)
         (try rw [show 0 * 4 = 0 from rfl] at hx139_3)
         (try rw [Addr.add_zero'] at hx139_3)
         replace hx139_0 := hbc HB.out hx139_0
         replace hx139_1 := hbc HB.out hx139_1
         replace hx139_2 := hbc HB.out hx139_2
         replace hx139_3 := hbc HB.out hx139_3
         have HR139_3 := mk0 hi139_3
         have HC139_3 := mk0 hl139_3
         clear hi139_3 hl139_3
         replace p139 := eq_true p139
         replace q139 := eq_true q139
         have p141 : 0 ≤ (1 : Int) := (by omega)
         have q141 : 1 < (l0_3.length : Int) := of_decide_eq_true (by first|(with_reducible assumption)|assumption)
         obtain ⟨ad141,A141_3,c141_3,e141,hx141_0,hx141_1,hx141_2,hx141_3,hl141_3,hi141_3⟩ := at_T29 HR0_3.out 1 p141 q141
         have hw141_3 := hx141_3
         (try rw [show ((1 : Int)).toNat = 1 from rfl] at hw141_3)
         (try rw [show 1 * 4 = 4 from rfl] at hw141_3)
         (try simp only [Nat.reduceMul,Nat.reduceEqDiff,Go.Addr.add,↓reduceIte] at hw141_3)
         have hw141_2 := hx141_2
         (try rw [show ((1 : Int)).toNat = 1 from rfl] at hw141_2)
         (try rw [show 1 * 4 = 4 from rfl] at hw141_2)
         (try simp only [Nat.reduceMul,Nat.reduceEqDiff,Go.Addr.add,↓reduceIte] at hw141_2)
         have hw141_1 := hx141_1
         (try rw [show ((1 : Int)).toNat = 1 from rfl] at hw141_1)
         (try rw [show 1 * 4 = 4 from rfl] at hw141_1)
         (try simp only [Nat.reduceMul,Nat.reduceEqDiff,Go.Addr.add,↓reduceIte] at hw141_1)
         have hw141_0 := hx141_0
         (try rw [show ((1 : Int)).toNat = 1 from rfl] at hw141_0)
         (try rw [show 1 * 4 = 4 from rfl] at hw141_0)
         (try simp only [Nat.reduceMul,Nat.reduceEqDiff,Go.Addr.add,↓reduceIte] at hw141_0)
         obtain rfl : ad139 = ad141 := (by injection e141)
         (try simp only [show (1 : Int).toNat = 1 from rfl,Nat.reduceMul,Nat.reduceEqDiff,Go.Addr.add,↓reduceIte] at hx141_0)
         (try simp only [show (1 : Int).toNat = 1 from rfl,Nat.reduceMul,Nat.reduceEqDiff,Go.Addr.add,↓reduceIte] at hx141_1)
         (try simp only [show (1 : Int).toNat = 1 from rfl,Nat.reduceMul,Nat.reduceEqDiff,Go.Addr.add,↓reduceIte] at hx141_2)
         (try simp only [show (1 : Int).toNat = 1 from rfl,Nat.reduceMul,Nat.reduceEqDiff,Go.Addr.add,↓reduceIte] at hx141_3)
         have qi141 : (1 < l0_3.length) = True := eq_true (by omega)
         (try rw [show ((1 : Int)).toNat = 1 from rfl] at hx141_0)
         (try rw [show 1 * 4 = 4 from rfl] at hx141_0)
         (try rw [show ((1 : Int)).toNat = 1 from rfl] at hx141_1)
         (try rw [show 1 * 4 = 4 from rfl] at hx141_1)
         (try rw [show ((1 : Int)).toNat = 1 from rfl] at hx141_2)
         (try rw [show 1 * 4 = 4 from rfl] at hx141_2)
         (try rw [show ((1 : Int)).toNat = 1 from rfl] at hx141_3)
         (try rw [show 1 * 4 = 4 from rfl] at hx141_3)
         replace hx141_0 := hbc HB.out hx141_0
         replace hx141_1 := hbc HB.out hx141_1
         replace hx141_2 := hbc HB.out hx141_2
         replace hx141_3 := hbc HB.out hx141_3
         have HR141_3 := mk0 hi141_3
         have HC141_3 := mk0 hl141_3
         clear hi141_3 hl141_3
         replace p141 := eq_true p141
         replace q141 := eq_true q141
         refine start_ (n := 13) (S := fun w' => w'.cell? ⟨gb135,0,none⟩ = some (.int .i64 a0_0) ∧ w'.cell? ⟨gb135,1,none⟩ = some (.int .i64 a0_1) ∧ w'.cell? ⟨gb135,2,none⟩ = some (.string a0_2) ∧ w'.cell? ⟨gb135,3,none⟩ = some (.slice (some ad139) l0_3.length c0_3) ∧ w'.cell? ad139 = some (.int .i64 ((rd_T29 l0_3 0).f0)) ∧ w'.cell? ⟨ad139.block,ad139.off + 1,none⟩ = some (.int .i64 ((rd_T29 l0_3 0).f1)) ∧ w'.cell? ⟨ad139.block,ad139.off + 2,none⟩ = some (.string ((rd_T29 l0_3 0).f2)) ∧ w'.cell? ⟨ad139.block,ad139.off + 3,none⟩ = some (.slice A139_3 ((rd_T29 l0_3 0).f3).length c139_3) ∧ w'.cell? ⟨ad139.block,ad139.off + 4,none⟩ = some (.int .i64 ((rd_T29 l0_3 1).f0)) ∧ w'.cell? ⟨ad139.block,ad139.off + 4 + 1,none⟩ = some (.int .i64 ((rd_T29 l0_3 1).f1)) ∧ w'.cell? ⟨ad139.block,ad139.off + 4 + 2,none⟩ = some (.string ((rd_T29 l0_3 1).f2)) ∧ w'.cell? ⟨ad139.block,ad139.off + 4 + 3,none⟩ = some (.slice A141_3 ((rd_T29 l0_3 1).f3).length c141_3)) (ds := []) #[false,false,false,false,false,false,false,false,false,false,false,false,false] (by kernel_rfl) rfl rfl ⟨(blk_cell BK135.out 0).trans rfl,(blk_cell BK135.out 1).trans rfl,(blk_cell BK135.out 2).trans rfl,(blk_cell BK135.out 3).trans rfl,((HB.out.cell (World.block_lt_of_cell? w _ hw139_0)).trans hw139_0),((HB.out.cell (World.block_lt_of_cell? w _ hw139_1)).trans hw139_1),((HB.out.cell (World.block_lt_of_cell? w _ hw139_2)).trans hw139_2),((HB.out.cell (World.block_lt_of_cell? w _ hw139_3)).trans hw139_3),((HB.out.cell (World.block_lt_of_cell? w _ hw141_0)).trans hw141_0),((HB.out.cell (World.block_lt_of_cell? w _ hw141_1)).trans hw141_1),((HB.out.cell (World.block_lt_of_cell? w _ hw141_2)).trans hw141_2),((HB.out.cell (World.block_lt_of_cell? w _ hw141_3)).trans hw141_3)⟩ (fun hHeld => ?_);refine with_tabW spec_l6Exp.tab9 spec_l6Exp.bits9 (fun HT_ HW_ => ?_)
         generalize w27.drew = w29 at BK135 HB HR139_3 HR141_3 hx139_0 hx139_1 hx139_2 hx139_3 hx141_0 hx141_1 hx141_2 hx141_3 hHeld ⊢
         refine pure_ (i := 0) (N := some 28) (v := ?_) (a' := ?_) #[true,false,false,false,false,false,false,false,false,false,false,false,false] rfl rfl (any_of HT_.out (by kernel_rfl)) (fun _ _ _ h => h) (Or.inl ⟨by rfl,?_⟩) ?_ ?_
         rotate_left
         ·intro w'
          go_simp
          with_reducible rfl
         rotate_left
         ·simp only [Act.put,List.setIfInBounds_toArray,List.set_cons_zero,List.set_cons_succ,i64_w,i32_w]
          rfl
         refine pure_ (i := 6) (N := some 34) (v := ?_) (a' := ?_) #[true,false,false,false,false,false,true,false,false,false,false,false,false] rfl rfl (any_of HT_.out (by kernel_rfl)) (fun _ _ _ h => h) (Or.inl ⟨by rfl,?_⟩) ?_ ?_
         rotate_left
         ·intro w'
          go_simp
          with_reducible rfl
         rotate_left
         ·simp only [Act.put,List.setIfInBounds_toArray,List.set_cons_zero,List.set_cons_succ,i64_w,i32_w]
          rfl
         refine take_ (i := 1) (N := some 29) (v := ?_) (a' := ?_) #[true,true,false,false,false,false,true,false,false,false,false,false,false] rfl rfl (take_ofW HT_.out HW_.out (by kernel_rfl)) (fun _ _ _ h => h) (Or.inl ⟨by rfl,?_⟩) hHeld ?_ ?_
         rotate_left
         ·rintro w' ⟨s0,s1,s2,s3,s4,s5,s6,s7,s8,s9,s10,s11⟩
          go_simp
          with_reducible rfl
         rotate_left
         ·simp only [Act.put,List.setIfInBounds_toArray,List.set_cons_zero,List.set_cons_succ,i64_w,i32_w]
          rfl
         refine pure_ (i := 2) (N := some 30) (v := ?_) (a' := ?_) #[true,true,true,false,false,false,true,false,false,false,false,false,false] rfl rfl (any_of HT_.out (by kernel_rfl)) (fun _ _ _ h => h) (Or.inl ⟨by rfl,?_⟩) ?_ ?_
         rotate_left
         ·intro w'
          go_simp
          with_reducible rfl
         rotate_left
         ·simp only [Act.put,List.setIfInBounds_toArray,List.set_cons_zero,List.set_cons_succ,i64_w,i32_w]
          rfl
         refine take_ (i := 3) (N := some 31) (v := ?_) (a' := ?_) #[true,true,true,true,false,false,true,false,false,false,false,false,false] rfl rfl (take_ofW HT_.out HW_.out (by kernel_rfl)) (fun _ _ _ h => h) (Or.inl ⟨by rfl,?_⟩) hHeld ?_ ?_
         rotate_left
         ·rintro w' ⟨s0,s1,s2,s3,s4,s5,s6,s7,s8,s9,s10,s11⟩
          go_simp
          with_reducible rfl
         rotate_left
         ·simp only [Act.put,List.setIfInBounds_toArray,List.set_cons_zero,List.set_cons_succ,i64_w,i32_w]
          rfl
         refine take_ (i := 7) (N := some 35) (v := ?_) (a' := ?_) #[true,true,true,true,false,false,true,true,false,false,false,false,false] rfl rfl (take_ofW HT_.out HW_.out (by kernel_rfl)) (fun _ _ _ h => h) (Or.inl ⟨by rfl,?_⟩) hHeld ?_ ?_
         rotate_left
         ·rintro w' ⟨s0,s1,s2,s3,s4,s5,s6,s7,s8,s9,s10,s11⟩
          go_simp
          with_reducible rfl
         rotate_left
         ·simp only [Act.put,List.setIfInBounds_toArray,List.set_cons_zero,List.set_cons_succ,i64_w,i32_w]
          rfl
         refine pure_ (i := 8) (N := some 36) (v := ?_) (a' := ?_) #[true,true,true,true,false,false,true,true,true,false,false,false,false] rfl rfl (any_of HT_.out (by kernel_rfl)) (fun _ _ _ h => h) (Or.inl ⟨by rfl,?_⟩) ?_ ?_
         rotate_left
         ·intro w'
          go_simp
          with_reducible rfl
         rotate_left
         ·simp only [Act.put,List.setIfInBounds_toArray,List.set_cons_zero,List.set_cons_succ,i64_w,i32_w]
          rfl
         refine take_ (i := 9) (N := some 37) (v := ?_) (a' := ?_) #[true,true,true,true,false,false,true,true,true,true,false,false,false] rfl rfl (take_ofW HT_.out HW_.out (by kernel_rfl)) (fun _ _ _ h => h) (Or.inl ⟨by rfl,?_⟩) hHeld ?_ ?_
         rotate_left
         ·rintro w' ⟨s0,s1,s2,s3,s4,s5,s6,s7,s8,s9,s10,s11⟩
          go_simp
          with_reducible rfl
         rotate_left
         ·simp only [Act.put,List.setIfInBounds_toArray,List.set_cons_zero,List.set_cons_succ,i64_w,i32_w]
          rfl
         refine one_ (i := 4) (N := some 32) #[true,true,true,true,true,false,true,true,true,true,false,false,false] rfl rfl (one_of HT_.out (by kernel_rfl)) (by decide) (fun K hK => ?_)
         refine goes_ Tryd.func18 (by kernel_rfl) rfl #[.agg #[.int .i64 ((rd_T29 l0_3 0).f0),.int .i64 ((rd_T29 l0_3 0).f1),.string ((rd_T29 l0_3 0).f2),.slice A139_3 ((rd_T29 l0_3 0).f3).length c139_3],.int .i64 1] (by rfl) rfl rfl (by (try simp only [List.map_toArray,List.map_cons,List.map_nil]);first|done|rfl) ?_
         with_reducible refine (IH.out k (by omega) ((rd_T29 l0_3 0).f0) ((rd_T29 l0_3 0).f1) ((rd_T29 l0_3 0).f2) _ _ ((rd_T29 l0_3 0).f3) 1 t140 _ ?side1 ?side2 A22.out).mono ?_
         (case side1 => repeat (first|exact (Kd.C_below HR139_3.out HB.out)|(with_reducible refine cA ?_ _)|(with_reducible refine cN ?_ _)|(with_reducible refine cD ?_)))
         (case side2 => exact HC139_3.out)
         rintro e w30 ⟨rfl,hb⟩
         refine ⟨_,rfl,?_⟩
         have n0_ := mk0 (blk_below (by exact kX BK135.out) hb)
         have n1_ := mk0 (below_step (by repeat (first|(with_reducible first|exact HB.out|apply bA|apply bN|apply bD|refine bS ?_ GE135.out)|exact HB.out)) hb)
         clear BK135
         clear HB
         have BK135 := n0_
         have HB := n1_
         clear n0_ n1_
         (try clear hb)
         (try clear hb2)
         (try clear hk)
         (try clear hi)
         refine hK.out _ _ ⟨(blk_cell BK135.out 0).trans rfl,(blk_cell BK135.out 1).trans rfl,(blk_cell BK135.out 2).trans rfl,(blk_cell BK135.out 3).trans rfl,((HB.out.cell (World.block_lt_of_cell? w _ hw139_0)).trans hw139_0),((HB.out.cell (World.block_lt_of_cell? w _ hw139_1)).trans hw139_1),((HB.out.cell (World.block_lt_of_cell? w _ hw139_2)).trans hw139_2),((HB.out.cell (World.block_lt_of_cell? w _ hw139_3)).trans hw139_3),((HB.out.cell (World.block_lt_of_cell? w _ hw141_0)).trans hw141_0),((HB.out.cell (World.block_lt_of_cell? w _ hw141_1)).trans hw141_1),((HB.out.cell (World.block_lt_of_cell? w _ hw141_2)).trans hw141_2),((HB.out.cell (World.block_lt_of_cell? w _ hw141_3)).trans hw141_3)⟩ (fun hHeld => ?_)
         clear hK K
         refine norm_ (a' := ?_) ?_ ?_
         rotate_left
         ·show Act.put _ (some 32) _ = _
          simp only [Act.put,List.setIfInBounds_toArray,List.set_cons_zero,List.set_cons_succ,i64_w,i32_w]
          rfl
         refine pure_ (i := 5) (N := some 33) (v := ?_) (a' := ?_) #[true,true,true,true,true,true,true,true,true,true,false,false,false] rfl rfl (any_of HT_.out (by kernel_rfl)) (fun _ _ _ h => h) (Or.inl ⟨by rfl,?_⟩) ?_ ?_
         rotate_left
         ·intro w'
          go_simp
          with_reducible rfl
         rotate_left
         ·simp only [Act.put,List.setIfInBounds_toArray,List.set_cons_zero,List.set_cons_succ,i64_w,i32_w]
          rfl
         refine one_ (i := 10) (N := some 38) #[true,true,true,true,true,true,true,true,true,true,true,false,false] rfl rfl (one_of HT_.out (by kernel_rfl)) (by decide) (fun K hK => ?_)
         refine goes_ Tryd.func18 (by kernel_rfl) rfl #[.agg #[.int .i64 ((rd_T29 l0_3 1).f0),.int .i64 ((rd_T29 l0_3 1).f1),.string ((rd_T29 l0_3 1).f2),.slice A141_3 ((rd_T29 l0_3 1).f3).length c141_3],.int .i64 2] (by rfl) rfl rfl (by (try simp only [List.map_toArray,List.map_cons,List.map_nil]);first|done|rfl) ?_
         with_reducible refine (IH.out k (by omega) ((rd_T29 l0_3 1).f0) ((rd_T29 l0_3 1).f1) ((rd_T29 l0_3 1).f2) _ _ ((rd_T29 l0_3 1).f3) 2 t142 _ ?side1 ?side2 A25.out).mono ?_
         (case side1 => repeat (first|exact (Kd.C_below HR141_3.out HB.out)|(with_reducible refine cA ?_ _)|(with_reducible refine cN ?_ _)|(with_reducible refine cD ?_)))
         (case side2 => exact HC141_3.out)
         rintro e w31 ⟨rfl,hb⟩
         refine ⟨_,rfl,?_⟩
         have n0_ := mk0 (blk_below (by exact kX BK135.out) hb)
         have n1_ := mk0 (below_step (by repeat (first|(with_reducible first|exact HB.out|apply bA|apply bN|apply bD|refine bS ?_ GE135.out)|exact HB.out)) hb)
         clear BK135
         clear HB
         have BK135 := n0_
         have HB := n1_
         clear n0_ n1_
         (try clear hb)
         (try clear hb2)
         (try clear hk)
         (try clear hi)
         refine hK.out _ _ ⟨(blk_cell BK135.out 0).trans rfl,(blk_cell BK135.out 1).trans rfl,(blk_cell BK135.out 2).trans rfl,(blk_cell BK135.out 3).trans rfl,((HB.out.cell (World.block_lt_of_cell? w _ hw139_0)).trans hw139_0),((HB.out.cell (World.block_lt_of_cell? w _ hw139_1)).trans hw139_1),((HB.out.cell (World.block_lt_of_cell? w _ hw139_2)).trans hw139_2),((HB.out.cell (World.block_lt_of_cell? w _ hw139_3)).trans hw139_3),((HB.out.cell (World.block_lt_of_cell? w _ hw141_0)).trans hw141_0),((HB.out.cell (World.block_lt_of_cell? w _ hw141_1)).trans hw141_1),((HB.out.cell (World.block_lt_of_cell? w _ hw141_2)).trans hw141_2),((HB.out.cell (World.block_lt_of_cell? w _ hw141_3)).trans hw141_3)⟩ (fun hHeld => ?_)
         clear hK K
         refine norm_ (a' := ?_) ?_ ?_
         rotate_left
         ·show Act.put _ (some 38) _ = _
          simp only [Act.put,List.setIfInBounds_toArray,List.set_cons_zero,List.set_cons_succ,i64_w,i32_w]
          rfl
         refine pure_ (i := 11) (N := some 39) (v := ?_) (a' := ?_) #[true,true,true,true,true,true,true,true,true,true,true,true,false] rfl rfl (any_of HT_.out (by kernel_rfl)) (fun _ _ _ h => h) (Or.inl ⟨by rfl,?_⟩) ?_ ?_
         rotate_left
         ·intro w'
          go_simp
          with_reducible rfl
         rotate_left
         ·simp only [Act.put,List.setIfInBounds_toArray,List.set_cons_zero,List.set_cons_succ,i64_w,i32_w]
          rfl
         refine pure_ (i := 12) (N := some 2) (v := ?_) (a' := ?_) #[true,true,true,true,true,true,true,true,true,true,true,true,true] rfl rfl (any_of HT_.out (by kernel_rfl)) (fun _ _ _ h => h) (Or.inl ⟨by rfl,?_⟩) ?_ ?_
         rotate_left
         ·intro w'
          go_simp
          with_reducible rfl
         rotate_left
         ·simp only [Act.put,List.setIfInBounds_toArray,List.set_cons_zero,List.set_cons_succ,i64_w,i32_w]
          rfl
         refine done_ (done_of HT_.out (by kernel_rfl)) ?_
         try go_wp2
         go_ret
         exact ⟨by first|rfl|(simp [errW_none,errW_some] <;> rfl)|(simp [*,errW_none,errW_some] <;> rfl),by repeat (first|(with_reducible first|exact HB.out|apply bA|apply bN|apply bD|refine bS ?_ GE135.out)|exact HB.out)⟩
        ·rw [if_neg c26] at H
         exact absurd H (by simp)
       ·rw [if_neg c24] at H
        exact absurd H (by simp)
      ·rw [if_neg c23] at H
       exact absurd H (by simp)
     ·rw [if_neg c21] at H
      exact absurd H (by simp)
    ·rw [if_neg c20] at H
     have c20b0 : (a0_0 == 4) = false := beq_eq_false_iff_ne.mpr c20
     have c20b1 : (a0_0 != 4) = true := bne_iff_ne.mpr c20
     by_cases c32 : a0_0 = 5
     ·rw [if_pos c32] at H
      have c32b0 : (a0_0 == 5) = true := beq_iff_eq.mpr c32
      have c32b1 : (a0_0 != 5) = false := bne_eq_false_iff_eq.mpr c32
      clear c32
      by_cases c33 : 0 < (l0_3.length : Int)
      ·rw [if_pos c33] at H
       have c33b0 : decide (0 < (l0_3.length : Int)) = true := decide_eq_true c33
       have c33b1 : decide (0 < l0_3.length) = true := decide_eq_true (by omega)
       clear c33
       obtain ⟨t144,A34,H⟩ := bindA H
       by_cases c35 : t144.size + 3 ≤ 9223372036854775807
       ·rw [if_pos c35] at H
        have c35b0 := eq_true c35
        have c35b1 : decide (t144.size + 3 ≤ 9223372036854775807) = true := decide_eq_true c35
        try have c35b2 : (9223372036854775807 < t144.size + 3) = False := eq_false (Nat.not_lt.2 c35)
        by_cases c36 : 1 < (l0_3.length : Int)
        ·rw [if_pos c36] at H
         have c36b0 : decide (1 < (l0_3.length : Int)) = true := decide_eq_true c36
         have c36b1 : decide (1 < l0_3.length) = true := decide_eq_true (by omega)
         clear c36
         obtain ⟨t146,A37,H⟩ := bindA H
         by_cases c38 : (t144 ++ (⟨#[32,45,32]⟩ : ByteArray)).size + t146.size ≤ 9223372036854775807
         ·rw [if_pos c38] at H
          have c38b0 := eq_true c38
          have c38b1 : decide ((t144 ++ (⟨#[32,45,32]⟩ : ByteArray)).size + t146.size ≤ 9223372036854775807) = true := decide_eq_true c38
          try have c38b2 : (9223372036854775807 < (t144 ++ (⟨#[32,45,32]⟩ : ByteArray)).size + t146.size) = False := eq_false (Nat.not_lt.2 c38)
          try have c38b9 : (9223372036854775807 < t144.size + 3 + t146.size) = False := eq_false (by have q_ := c38;simp only [ByteArray.size_append] at q_;have z0_ : (⟨#[32,45,32]⟩ : ByteArray).size = 3 := rfl;omega)
          obtain rfl := Option.some.inj H
          go_enter Tryd.func11,Tryd.ntmps11
          try go_wp2_with (first|((with_reducible refine gate_dst (N := 1) rfl ?_);refine box_event ?hg (N := 1) ?hd (cs := #[.int .i64 a0_0,.int .i64 a0_1,.string a0_2,.slice A0_3 l0_3.length c0_3]) (t := 29) ?hr ?_;(case hd => rfl);(case hg => rfl);(case hr => first|(go_simp;done)|(go_simp;rfl));intro gb135 hg w39 hbox hb;have q_ := qB (by repeat (first|(with_reducible first|exact HB.out|apply bA|apply bN|apply bD)|exact HB.out)) hb;have n0_ := mk0 (below_step q_ hb);have n1_ := mk0 (hbox);have n2_ := mk0 (below_size2 q_ hg);have n3_ := n2_;clear HB;have HB := n0_;have BK135 := n1_;have GW135 := n2_;have GE135 := n3_;clear q_ n0_ n1_ n2_ n3_ hb hbox hg;have z40 := bc4 BK135.out))
          have n0_ := mk0 (kD BK135.out)
          have n1_ := mk0 (bD HB.out)
          clear BK135
          clear HB
          have BK135 := n0_
          have HB := n1_
          clear n0_ n1_
          have p143 : 0 ≤ (0 : Int) := (by omega)
          have q143 : 0 < (l0_3.length : Int) := of_decide_eq_true (by first|(with_reducible assumption)|assumption)
          obtain ⟨ad143,A143_3,c143_3,e143,hx143_0,hx143_1,hx143_2,hx143_3,hl143_3,hi143_3⟩ := at_T29 HR0_3.out 0 p143 q143
          have hw143_3 := hx143_3
          (try rw [show ((0 : Int)).toNat = 0 from rfl] at hw143_3)
          (try rw [show 0 * 4 = 0 from rfl] at hw143_3)
          (try rw [Addr.add_zero'] at hw143_3)
          have hw143_2 := hx143_2
          (try rw [show ((0 : Int)).toNat = 0 from rfl] at hw143_2)
          (try rw [show 0 * 4 = 0 from rfl] at hw143_2)
          (try rw [Addr.add_zero'] at hw143_2)
          have hw143_1 := hx143_1
          (try rw [show ((0 : Int)).toNat = 0 from rfl] at hw143_1)
          (try rw [show 0 * 4 = 0 from rfl] at hw143_1)
          (try rw [Addr.add_zero'] at hw143_1)
          have hw143_0 := hx143_0
          (try rw [show ((0 : Int)).toNat = 0 from rfl] at hw143_0)
          (try rw [show 0 * 4 = 0 from rfl] at hw143_0)
          (try rw [Addr.add_zero'] at hw143_0)
          cases e143
          have qi143 : (0 < l0_3.length) = True := eq_true (by omega)
          (try rw [show ((0 : Int)).toNat = 0 from rfl] at hx143_0)
          (try rw [show 0 * 4 = 0 from rfl] at hx143_0)
          (try rw [Addr.add_zero'] at hx143_0)
          (try rw [show ((0 : Int)).toNat = 0 from rfl] at hx143_1)
          (try rw [show 0 * 4 = 0 from rfl] at hx143_1)
          (try rw [Addr.add_zero'] at hx143_1)
          (try rw [show ((0 : Int)).toNat = 0 from rfl] at hx143_2)
          (try rw [show 0 * 4 = 0 from rfl] at hx143_2)
          (try rw [Addr.add_zero'] at hx143_2)
          (try rw [show ((0 : Int)).toNat = 0 from rfl] at hx143_3)
          (try rw [show 0 * 4 = 0 from rfl] at hx143_3)
          (try rw [Addr.add_zero'] at hx143_3)
          replace hx143_0 := hbc HB.out hx143_0
          replace hx143_1 := hbc HB.out hx143_1
          replace hx143_2 := hbc HB.out hx143_2
          replace hx143_3 := hbc HB.out hx143_3
          have HR143_3 := mk0 hi143_3
          have HC143_3 := mk0 hl143_3
          clear hi143_3 hl143_3
          replace p143 := eq_true p143
          replace q143 := eq_true q143
          have p145 : 0 ≤ (1 : Int) := (by omega)
          have q145 : 1 < (l0_3.length : Int) := of_decide_eq_true (by first|(with_reducible assumption)|assumption)
          obtain ⟨ad145,A145_3,c145_3,e145,hx145_0,hx145_1,hx145_2,hx145_3,hl145_3,hi145_3⟩ := at_T29 HR0_3.out 1 p145 q145
          have hw145_3 := hx145_3
          (try rw [show ((1 : Int)).toNat = 1 from rfl] at hw145_3)
          (try rw [show 1 * 4 = 4 from rfl] at hw145_3)
          (try simp only [Nat.reduceMul,Nat.reduceEqDiff,Go.Addr.add,↓reduceIte] at hw145_3)
          have hw145_2 := hx145_2
          (try rw [show ((1 : Int)).toNat = 1 from rfl] at hw145_2)
          (try rw [show 1 * 4 = 4 from rfl] at hw145_2)
          (try simp only [Nat.reduceMul,Nat.reduceEqDiff,Go.Addr.add,↓reduceIte] at hw145_2)
          have hw145_1 := hx145_1
          (try rw [show ((1 : Int)).toNat = 1 from rfl] at hw145_1)
          (try rw [show 1 * 4 = 4 from rfl] at hw145_1)
          (try simp only [Nat.reduceMul,Nat.reduceEqDiff,Go.Addr.add,↓reduceIte] at hw145_1)
          have hw145_0 := hx145_0
          (try rw [show ((1 : Int)).toNat = 1 from rfl] at hw145_0)
          (try rw [show 1 * 4 = 4 from rfl] at hw145_0)
          (try simp only [Nat.reduceMul,Nat.reduceEqDiff,Go.Addr.add,↓reduceIte] at hw145_0)
          obtain rfl : ad143 = ad145 := (by injection e145)
          (try simp only [show (1 : Int).toNat = 1 from rfl,Nat.reduceMul,Nat.reduceEqDiff,Go.Addr.add,↓reduceIte] at hx145_0)
          (try simp only [show (1 : Int).toNat = 1 from rfl,Nat.reduceMul,Nat.reduceEqDiff,Go.Addr.add,↓reduceIte] at hx145_1)
          (try simp only [show (1 : Int).toNat = 1 from rfl,Nat.reduceMul,Nat.reduceEqDiff,Go.Addr.add,↓reduceIte] at hx145_2)
          (try simp only [show (1 : Int).toNat = 1 from rfl,Nat.reduceMul,Nat.reduceEqDiff,Go.Addr.add,↓reduceIte] at hx145_3)
          have qi145 : (1 < l0_3.length) = True := eq_true (by omega)
          (try rw [show ((1 : Int)).toNat = 1 from rfl] at hx145_0)
          (try rw [show 1 * 4 = 4 from rfl] at hx145_0)
          (try rw [show ((1 : Int)).toNat = 1 from rfl] at hx145_1)
          (try rw [show 1 * 4 = 4 from rfl] at hx145_1)
          (try rw [show ((1 : Int)).toNat = 1 from rfl] at hx145_2)
          (try rw [show 1 * 4 = 4 from rfl] at hx145_2)
          (try rw [show ((1 : Int)).toNat = 1 from rfl] at hx145_3)
          (try rw [show 1 * 4 = 4 from rfl] at hx145_3)
          replace hx145_0 := hbc HB.out hx145_0
          replace hx145_1 := hbc HB.out hx145_1
          replace hx145_2 := hbc HB.out hx145_2
          replace hx145_3 := hbc HB.out hx145_3
          have HR145_3 := mk0 hi145_3
          have HC145_3 := mk0 hl145_3
          clear hi145_3 hl145_3
          replace p145 := eq_true p145
          replace q145 := eq_true q145
          refine start_ (n := 13) (S := fun w' => w'.cell? ⟨gb135,0,none⟩ = some (.int .i64 a0_0) ∧ w'.cell? ⟨gb135,1,none⟩ = some (.int .i64 a0_1) ∧ w'.cell? ⟨gb135,2,none⟩ = some (.string a0_2) ∧ w'.cell? ⟨gb135,3,none⟩ = some (.slice (some ad143) l0_3.length c0_3) ∧ w'.cell? ad143 = some (.int .i64 ((rd_T29 l0_3 0).f0)) ∧ w'.cell? ⟨ad143.block,ad143.off + 1,none⟩ = some (.int .i64 ((rd_T29 l0_3 0).f1)) ∧ w'.cell? ⟨ad143.block,ad143.off + 2,none⟩ = some (.string ((rd_T29 l0_3 0).f2)) ∧ w'.cell? ⟨ad143.block,ad143.off + 3,none⟩ = some (.slice A143_3 ((rd_T29 l0_3 0).f3).length c143_3) ∧ w'.cell? ⟨ad143.block,ad143.off + 4,none⟩ = some (.int .i64 ((rd_T29 l0_3 1).f0)) ∧ w'.cell? ⟨ad143.block,ad143.off + 4 + 1,none⟩ = some (.int .i64 ((rd_T29 l0_3 1).f1)) ∧ w'.cell? ⟨ad143.block,ad143.off + 4 + 2,none⟩ = some (.string ((rd_T29 l0_3 1).f2)) ∧ w'.cell? ⟨ad143.block,ad143.off + 4 + 3,none⟩ = some (.slice A145_3 ((rd_T29 l0_3 1).f3).length c145_3)) (ds := []) #[false,false,false,false,false,false,false,false,false,false,false,false,false] (by kernel_rfl) rfl rfl ⟨(blk_cell BK135.out 0).trans rfl,(blk_cell BK135.out 1).trans rfl,(blk_cell BK135.out 2).trans rfl,(blk_cell BK135.out 3).trans rfl,((HB.out.cell (World.block_lt_of_cell? w _ hw143_0)).trans hw143_0),((HB.out.cell (World.block_lt_of_cell? w _ hw143_1)).trans hw143_1),((HB.out.cell (World.block_lt_of_cell? w _ hw143_2)).trans hw143_2),((HB.out.cell (World.block_lt_of_cell? w _ hw143_3)).trans hw143_3),((HB.out.cell (World.block_lt_of_cell? w _ hw145_0)).trans hw145_0),((HB.out.cell (World.block_lt_of_cell? w _ hw145_1)).trans hw145_1),((HB.out.cell (World.block_lt_of_cell? w _ hw145_2)).trans hw145_2),((HB.out.cell (World.block_lt_of_cell? w _ hw145_3)).trans hw145_3)⟩ (fun hHeld => ?_);refine with_tabW spec_l6Exp.tab11 spec_l6Exp.bits11 (fun HT_ HW_ => ?_)
          generalize w39.drew = w41 at BK135 HB HR143_3 HR145_3 hx143_0 hx143_1 hx143_2 hx143_3 hx145_0 hx145_1 hx145_2 hx145_3 hHeld ⊢
          refine pure_ (i := 0) (N := some 42) (v := ?_) (a' := ?_) #[true,false,false,false,false,false,false,false,false,false,false,false,false] rfl rfl (any_of HT_.out (by kernel_rfl)) (fun _ _ _ h => h) (Or.inl ⟨by rfl,?_⟩) ?_ ?_
          rotate_left
          ·intro w'
           go_simp
           with_reducible rfl
          rotate_left
          ·simp only [Act.put,List.setIfInBounds_toArray,List.set_cons_zero,List.set_cons_succ,i64_w,i32_w]
           rfl
          refine pure_ (i := 6) (N := some 48) (v := ?_) (a' := ?_) #[true,false,false,false,false,false,true,false,false,false,false,false,false] rfl rfl (any_of HT_.out (by kernel_rfl)) (fun _ _ _ h => h) (Or.inl ⟨by rfl,?_⟩) ?_ ?_
          rotate_left
          ·intro w'
           go_simp
           with_reducible rfl
          rotate_left
          ·simp only [Act.put,List.setIfInBounds_toArray,List.set_cons_zero,List.set_cons_succ,i64_w,i32_w]
           rfl
          refine take_ (i := 1) (N := some 43) (v := ?_) (a' := ?_) #[true,true,false,false,false,false,true,false,false,false,false,false,false] rfl rfl (take_ofW HT_.out HW_.out (by kernel_rfl)) (fun _ _ _ h => h) (Or.inl ⟨by rfl,?_⟩) hHeld ?_ ?_
          rotate_left
          ·rintro w' ⟨s0,s1,s2,s3,s4,s5,s6,s7,s8,s9,s10,s11⟩
           go_simp
           with_reducible rfl
          rotate_left
          ·simp only [Act.put,List.setIfInBounds_toArray,List.set_cons_zero,List.set_cons_succ,i64_w,i32_w]
           rfl
          refine pure_ (i := 2) (N := some 44) (v := ?_) (a' := ?_) #[true,true,true,false,false,false,true,false,false,false,false,false,false] rfl rfl (any_of HT_.out (by kernel_rfl)) (fun _ _ _ h => h) (Or.inl ⟨by rfl,?_⟩) ?_ ?_
          rotate_left
          ·intro w'
           go_simp
           with_reducible rfl
          rotate_left
          ·simp only [Act.put,List.setIfInBounds_toArray,List.set_cons_zero,List.set_cons_succ,i64_w,i32_w]
           rfl
          refine take_ (i := 3) (N := some 45) (v := ?_) (a' := ?_) #[true,true,true,true,false,false,true,false,false,false,false,false,false] rfl rfl (take_ofW HT_.out HW_.out (by kernel_rfl)) (fun _ _ _ h => h) (Or.inl ⟨by rfl,?_⟩) hHeld ?_ ?_
          rotate_left
          ·rintro w' ⟨s0,s1,s2,s3,s4,s5,s6,s7,s8,s9,s10,s11⟩
           go_simp
           with_reducible rfl
          rotate_left
          ·simp only [Act.put,List.setIfInBounds_toArray,List.set_cons_zero,List.set_cons_succ,i64_w,i32_w]
           rfl
          refine take_ (i := 7) (N := some 49) (v := ?_) (a' := ?_) #[true,true,true,true,false,false,true,true,false,false,false,false,false] rfl rfl (take_ofW HT_.out HW_.out (by kernel_rfl)) (fun _ _ _ h => h) (Or.inl ⟨by rfl,?_⟩) hHeld ?_ ?_
          rotate_left
          ·rintro w' ⟨s0,s1,s2,s3,s4,s5,s6,s7,s8,s9,s10,s11⟩
           go_simp
           with_reducible rfl
          rotate_left
          ·simp only [Act.put,List.setIfInBounds_toArray,List.set_cons_zero,List.set_cons_succ,i64_w,i32_w]
           rfl
          refine pure_ (i := 8) (N := some 50) (v := ?_) (a' := ?_) #[true,true,true,true,false,false,true,true,true,false,false,false,false] rfl rfl (any_of HT_.out (by kernel_rfl)) (fun _ _ _ h => h) (Or.inl ⟨by rfl,?_⟩) ?_ ?_
          rotate_left
          ·intro w'
           go_simp
           with_reducible rfl
          rotate_left
          ·simp only [Act.put,List.setIfInBounds_toArray,List.set_cons_zero,List.set_cons_succ,i64_w,i32_w]
           rfl
          refine take_ (i := 9) (N := some 51) (v := ?_) (a' := ?_) #[true,true,true,true,false,false,true,true,true,true,false,false,false] rfl rfl (take_ofW HT_.out HW_.out (by kernel_rfl)) (fun _ _ _ h => h) (Or.inl ⟨by rfl,?_⟩) hHeld ?_ ?_
          rotate_left
          ·rintro w' ⟨s0,s1,s2,s3,s4,s5,s6,s7,s8,s9,s10,s11⟩
           go_simp
           with_reducible rfl
          rotate_left
          ·simp only [Act.put,List.setIfInBounds_toArray,List.set_cons_zero,List.set_cons_succ,i64_w,i32_w]
           rfl
          refine one_ (i := 4) (N := some 46) #[true,true,true,true,true,false,true,true,true,true,false,false,false] rfl rfl (one_of HT_.out (by kernel_rfl)) (by decide) (fun K hK => ?_)
          refine goes_ Tryd.func18 (by kernel_rfl) rfl #[.agg #[.int .i64 ((rd_T29 l0_3 0).f0),.int .i64 ((rd_T29 l0_3 0).f1),.string ((rd_T29 l0_3 0).f2),.slice A143_3 ((rd_T29 l0_3 0).f3).length c143_3],.int .i64 1] (by rfl) rfl rfl (by (try simp only [List.map_toArray,List.map_cons,List.map_nil]);first|done|rfl) ?_
          with_reducible refine (IH.out k (by omega) ((rd_T29 l0_3 0).f0) ((rd_T29 l0_3 0).f1) ((rd_T29 l0_3 0).f2) _ _ ((rd_T29 l0_3 0).f3) 1 t144 _ ?side1 ?side2 A34.out).mono ?_
          (case side1 => repeat (first|exact (Kd.C_below HR143_3.out HB.out)|(with_reducible refine cA ?_ _)|(with_reducible refine cN ?_ _)|(with_reducible refine cD ?_)))
          (case side2 => exact HC143_3.out)
          rintro e w42 ⟨rfl,hb⟩
          refine ⟨_,rfl,?_⟩
          have n0_ := mk0 (blk_below (by exact kX BK135.out) hb)
          have n1_ := mk0 (below_step (by repeat (first|(with_reducible first|exact HB.out|apply bA|apply bN|apply bD|refine bS ?_ GE135.out)|exact HB.out)) hb)
          clear BK135
          clear HB
          have BK135 := n0_
          have HB := n1_
          clear n0_ n1_
          (try clear hb)
          (try clear hb2)
          (try clear hk)
          (try clear hi)
          refine hK.out _ _ ⟨(blk_cell BK135.out 0).trans rfl,(blk_cell BK135.out 1).trans rfl,(blk_cell BK135.out 2).trans rfl,(blk_cell BK135.out 3).trans rfl,((HB.out.cell (World.block_lt_of_cell? w _ hw143_0)).trans hw143_0),((HB.out.cell (World.block_lt_of_cell? w _ hw143_1)).trans hw143_1),((HB.out.cell (World.block_lt_of_cell? w _ hw143_2)).trans hw143_2),((HB.out.cell (World.block_lt_of_cell? w _ hw143_3)).trans hw143_3),((HB.out.cell (World.block_lt_of_cell? w _ hw145_0)).trans hw145_0),((HB.out.cell (World.block_lt_of_cell? w _ hw145_1)).trans hw145_1),((HB.out.cell (World.block_lt_of_cell? w _ hw145_2)).trans hw145_2),((HB.out.cell (World.block_lt_of_cell? w _ hw145_3)).trans hw145_3)⟩ (fun hHeld => ?_)
          clear hK K
          refine norm_ (a' := ?_) ?_ ?_
          rotate_left
          ·show Act.put _ (some 46) _ = _
           simp only [Act.put,List.setIfInBounds_toArray,List.set_cons_zero,List.set_cons_succ,i64_w,i32_w]
           rfl
          refine pure_ (i := 5) (N := some 47) (v := ?_) (a' := ?_) #[true,true,true,true,true,true,true,true,true,true,false,false,false] rfl rfl (any_of HT_.out (by kernel_rfl)) (fun _ _ _ h => h) (Or.inl ⟨by rfl,?_⟩) ?_ ?_
          rotate_left
          ·intro w'
           go_simp
           with_reducible rfl
          rotate_left
          ·simp only [Act.put,List.setIfInBounds_toArray,List.set_cons_zero,List.set_cons_succ,i64_w,i32_w]
           rfl
          refine one_ (i := 10) (N := some 52) #[true,true,true,true,true,true,true,true,true,true,true,false,false] rfl rfl (one_of HT_.out (by kernel_rfl)) (by decide) (fun K hK => ?_)
          refine goes_ Tryd.func18 (by kernel_rfl) rfl #[.agg #[.int .i64 ((rd_T29 l0_3 1).f0),.int .i64 ((rd_T29 l0_3 1).f1),.string ((rd_T29 l0_3 1).f2),.slice A145_3 ((rd_T29 l0_3 1).f3).length c145_3],.int .i64 2] (by rfl) rfl rfl (by (try simp only [List.map_toArray,List.map_cons,List.map_nil]);first|done|rfl) ?_
          with_reducible refine (IH.out k (by omega) ((rd_T29 l0_3 1).f0) ((rd_T29 l0_3 1).f1) ((rd_T29 l0_3 1).f2) _ _ ((rd_T29 l0_3 1).f3) 2 t146 _ ?side1 ?side2 A37.out).mono ?_
          (case side1 => repeat (first|exact (Kd.C_below HR145_3.out HB.out)|(with_reducible refine cA ?_ _)|(with_reducible refine cN ?_ _)|(with_reducible refine cD ?_)))
          (case side2 => exact HC145_3.out)
          rintro e w43 ⟨rfl,hb⟩
          refine ⟨_,rfl,?_⟩
          have n0_ := mk0 (blk_below (by exact kX BK135.out) hb)
          have n1_ := mk0 (below_step (by repeat (first|(with_reducible first|exact HB.out|apply bA|apply bN|apply bD|refine bS ?_ GE135.out)|exact HB.out)) hb)
          clear BK135
          clear HB
          have BK135 := n0_
          have HB := n1_
          clear n0_ n1_
          (try clear hb)
          (try clear hb2)
          (try clear hk)
          (try clear hi)
          refine hK.out _ _ ⟨(blk_cell BK135.out 0).trans rfl,(blk_cell BK135.out 1).trans rfl,(blk_cell BK135.out 2).trans rfl,(blk_cell BK135.out 3).trans rfl,((HB.out.cell (World.block_lt_of_cell? w _ hw143_0)).trans hw143_0),((HB.out.cell (World.block_lt_of_cell? w _ hw143_1)).trans hw143_1),((HB.out.cell (World.block_lt_of_cell? w _ hw143_2)).trans hw143_2),((HB.out.cell (World.block_lt_of_cell? w _ hw143_3)).trans hw143_3),((HB.out.cell (World.block_lt_of_cell? w _ hw145_0)).trans hw145_0),((HB.out.cell (World.block_lt_of_cell? w _ hw145_1)).trans hw145_1),((HB.out.cell (World.block_lt_of_cell? w _ hw145_2)).trans hw145_2),((HB.out.cell (World.block_lt_of_cell? w _ hw145_3)).trans hw145_3)⟩ (fun hHeld => ?_)
          clear hK K
          refine norm_ (a' := ?_) ?_ ?_
          rotate_left
          ·show Act.put _ (some 52) _ = _
           simp only [Act.put,List.setIfInBounds_toArray,List.set_cons_zero,List.set_cons_succ,i64_w,i32_w]
           rfl
          refine pure_ (i := 11) (N := some 53) (v := ?_) (a' := ?_) #[true,true,true,true,true,true,true,true,true,true,true,true,false] rfl rfl (any_of HT_.out (by kernel_rfl)) (fun _ _ _ h => h) (Or.inl ⟨by rfl,?_⟩) ?_ ?_
          rotate_left
          ·intro w'
           go_simp
           with_reducible rfl
          rotate_left
          ·simp only [Act.put,List.setIfInBounds_toArray,List.set_cons_zero,List.set_cons_succ,i64_w,i32_w]
           rfl
          refine pure_ (i := 12) (N := some 2) (v := ?_) (a' := ?_) #[true,true,true,true,true,true,true,true,true,true,true,true,true] rfl rfl (any_of HT_.out (by kernel_rfl)) (fun _ _ _ h => h) (Or.inl ⟨by rfl,?_⟩) ?_ ?_
          rotate_left
          ·intro w'
           go_simp
           with_reducible rfl
          rotate_left
          ·simp only [Act.put,List.setIfInBounds_toArray,List.set_cons_zero,List.set_cons_succ,i64_w,i32_w]
           rfl
          refine done_ (done_of HT_.out (by kernel_rfl)) ?_
          try go_wp2
          go_ret
          exact ⟨by first|rfl|(simp [errW_none,errW_some] <;> rfl)|(simp [*,errW_none,errW_some] <;> rfl),by repeat (first|(with_reducible first|exact HB.out|apply bA|apply bN|apply bD|refine bS ?_ GE135.out)|exact HB.out)⟩
         ·rw [if_neg c38] at H
          exact absurd H (by simp)
        ·rw [if_neg c36] at H
         exact absurd H (by simp)
       ·rw [if_neg c35] at H
        exact absurd H (by simp)
      ·rw [if_neg c33] at H
       exact absurd H (by simp)
     ·rw [if_neg c32] at H
      have c32b0 : (a0_0 == 5) = false := beq_eq_false_iff_ne.mpr c32
      have c32b1 : (a0_0 != 5) = true := bne_iff_ne.mpr c32
      by_cases c44 : a0_0 = 6
      ·rw [if_pos c44] at H
       have c44b0 : (a0_0 == 6) = true := beq_iff_eq.mpr c44
       have c44b1 : (a0_0 != 6) = false := bne_eq_false_iff_eq.mpr c44
       clear c44
       by_cases c45 : 0 < (l0_3.length : Int)
       ·rw [if_pos c45] at H
        have c45b0 : decide (0 < (l0_3.length : Int)) = true := decide_eq_true c45
        have c45b1 : decide (0 < l0_3.length) = true := decide_eq_true (by omega)
        clear c45
        obtain ⟨t148,A46,H⟩ := bindA H
        by_cases c47 : t148.size + 3 ≤ 9223372036854775807
        ·rw [if_pos c47] at H
         have c47b0 := eq_true c47
         have c47b1 : decide (t148.size + 3 ≤ 9223372036854775807) = true := decide_eq_true c47
         try have c47b2 : (9223372036854775807 < t148.size + 3) = False := eq_false (Nat.not_lt.2 c47)
         by_cases c48 : 1 < (l0_3.length : Int)
         ·rw [if_pos c48] at H
          have c48b0 : decide (1 < (l0_3.length : Int)) = true := decide_eq_true c48
          have c48b1 : decide (1 < l0_3.length) = true := decide_eq_true (by omega)
          clear c48
          obtain ⟨t150,A49,H⟩ := bindA H
          by_cases c50 : (t148 ++ (⟨#[32,42,32]⟩ : ByteArray)).size + t150.size ≤ 9223372036854775807
          ·rw [if_pos c50] at H
           have c50b0 := eq_true c50
           have c50b1 : decide ((t148 ++ (⟨#[32,42,32]⟩ : ByteArray)).size + t150.size ≤ 9223372036854775807) = true := decide_eq_true c50
           try have c50b2 : (9223372036854775807 < (t148 ++ (⟨#[32,42,32]⟩ : ByteArray)).size + t150.size) = False := eq_false (Nat.not_lt.2 c50)
           try have c50b9 : (9223372036854775807 < t148.size + 3 + t150.size) = False := eq_false (by have q_ := c50;simp only [ByteArray.size_append] at q_;have z0_ : (⟨#[32,42,32]⟩ : ByteArray).size = 3 := rfl;omega)
           obtain rfl := Option.some.inj H
           go_enter Tryd.func11,Tryd.ntmps11
           try go_wp2_with (first|((with_reducible refine gate_dst (N := 1) rfl ?_);refine box_event ?hg (N := 1) ?hd (cs := #[.int .i64 a0_0,.int .i64 a0_1,.string a0_2,.slice A0_3 l0_3.length c0_3]) (t := 29) ?hr ?_;(case hd => rfl);(case hg => rfl);(case hr => first|(go_simp;done)|(go_simp;rfl));intro gb135 hg w51 hbox hb;have q_ := qB (by repeat (first|(with_reducible first|exact HB.out|apply bA|apply bN|apply bD)|exact HB.out)) hb;have n0_ := mk0 (below_step q_ hb);have n1_ := mk0 (hbox);have n2_ := mk0 (below_size2 q_ hg);have n3_ := n2_;clear HB;have HB := n0_;have BK135 := n1_;have GW135 := n2_;have GE135 := n3_;clear q_ n0_ n1_ n2_ n3_ hb hbox hg;have z52 := bc4 BK135.out))
           have n0_ := mk0 (kD BK135.out)
           have n1_ := mk0 (bD HB.out)
           clear BK135
           clear HB
           have BK135 := n0_
           have HB := n1_
           clear n0_ n1_
           have p147 : 0 ≤ (0 : Int) := (by omega)
           have q147 : 0 < (l0_3.length : Int) := of_decide_eq_true (by first|(with_reducible assumption)|assumption)
           obtain ⟨ad147,A147_3,c147_3,e147,hx147_0,hx147_1,hx147_2,hx147_3,hl147_3,hi147_3⟩ := at_T29 HR0_3.out 0 p147 q147
           have hw147_3 := hx147_3
           (try rw [show ((0 : Int)).toNat = 0 from rfl] at hw147_3)
           (try rw [show 0 * 4 = 0 from rfl] at hw147_3)
           (try rw [Addr.add_zero'] at hw147_3)
           have hw147_2 := hx147_2
           (try rw [show ((0 : Int)).toNat = 0 from rfl] at hw147_2)
           (try rw [show 0 * 4 = 0 from rfl] at hw147_2)
           (try rw [Addr.add_zero'] at hw147_2)
           have hw147_1 := hx147_1
           (try rw [show ((0 : Int)).toNat = 0 from rfl] at hw147_1)
           (try rw [show 0 * 4 = 0 from rfl] at hw147_1)
           (try rw [Addr.add_zero'] at hw147_1)
           have hw147_0 := hx147_0
           (try rw [show ((0 : Int)).toNat = 0 from rfl] at hw147_0)
           (try rw [show 0 * 4 = 0 from rfl] at hw147_0)
           (try rw [Addr.add_zero'] at hw147_0)
           cases e147
           have qi147 : (0 < l0_3.length) = True := eq_true (by omega)
           (try rw [show ((0 : Int)).toNat = 0 from rfl] at hx147_0)
           (try rw [show 0 * 4 = 0 from rfl] at hx147_0)
           (try rw [Addr.add_zero'] at hx147_0)
           (try rw [show ((0 : Int)).toNat = 0 from rfl] at hx147_1)
           (try rw [show 0 * 4 = 0 from rfl] at hx147_1)
           (try rw [Addr.add_zero'] at hx147_1)
           (try rw [show ((0 : Int)).toNat = 0 from rfl] at hx147_2)
           (try rw [show 0 * 4 = 0 from rfl] at hx147_2)
           (try rw [Addr.add_zero'] at hx147_2)
           (try rw [show ((0 : Int)).toNat = 0 from rfl] at hx147_3)
           (try rw [show 0 * 4 = 0 from rfl] at hx147_3)
           (try rw [Addr.add_zero'] at hx147_3)
           replace hx147_0 := hbc HB.out hx147_0
           replace hx147_1 := hbc HB.out hx147_1
           replace hx147_2 := hbc HB.out hx147_2
           replace hx147_3 := hbc HB.out hx147_3
           have HR147_3 := mk0 hi147_3
           have HC147_3 := mk0 hl147_3
           clear hi147_3 hl147_3
           replace p147 := eq_true p147
           replace q147 := eq_true q147
           have p149 : 0 ≤ (1 : Int) := (by omega)
           have q149 : 1 < (l0_3.length : Int) := of_decide_eq_true (by first|(with_reducible assumption)|assumption)
           obtain ⟨ad149,A149_3,c149_3,e149,hx149_0,hx149_1,hx149_2,hx149_3,hl149_3,hi149_3⟩ := at_T29 HR0_3.out 1 p149 q149
           have hw149_3 := hx149_3
           (try rw [show ((1 : Int)).toNat = 1 from rfl] at hw149_3)
           (try rw [show 1 * 4 = 4 from rfl] at hw149_3)
           (try simp only [Nat.reduceMul,Nat.reduceEqDiff,Go.Addr.add,↓reduceIte] at hw149_3)
           have hw149_2 := hx149_2
           (try rw [show ((1 : Int)).toNat = 1 from rfl] at hw149_2)
           (try rw [show 1 * 4 = 4 from rfl] at hw149_2)
           (try simp only [Nat.reduceMul,Nat.reduceEqDiff,Go.Addr.add,↓reduceIte] at hw149_2)
           have hw149_1 := hx149_1
           (try rw [show ((1 : Int)).toNat = 1 from rfl] at hw149_1)
           (try rw [show 1 * 4 = 4 from rfl] at hw149_1)
           (try simp only [Nat.reduceMul,Nat.reduceEqDiff,Go.Addr.add,↓reduceIte] at hw149_1)
           have hw149_0 := hx149_0
           (try rw [show ((1 : Int)).toNat = 1 from rfl] at hw149_0)
           (try rw [show 1 * 4 = 4 from rfl] at hw149_0)
           (try simp only [Nat.reduceMul,Nat.reduceEqDiff,Go.Addr.add,↓reduceIte] at hw149_0)
           obtain rfl : ad147 = ad149 := (by injection e149)
           (try simp only [show (1 : Int).toNat = 1 from rfl,Nat.reduceMul,Nat.reduceEqDiff,Go.Addr.add,↓reduceIte] at hx149_0)
           (try simp only [show (1 : Int).toNat = 1 from rfl,Nat.reduceMul,Nat.reduceEqDiff,Go.Addr.add,↓reduceIte] at hx149_1)
           (try simp only [show (1 : Int).toNat = 1 from rfl,Nat.reduceMul,Nat.reduceEqDiff,Go.Addr.add,↓reduceIte] at hx149_2)
           (try simp only [show (1 : Int).toNat = 1 from rfl,Nat.reduceMul,Nat.reduceEqDiff,Go.Addr.add,↓reduceIte] at hx149_3)
           have qi149 : (1 < l0_3.length) = True := eq_true (by omega)
           (try rw [show ((1 : Int)).toNat = 1 from rfl] at hx149_0)
           (try rw [show 1 * 4 = 4 from rfl] at hx149_0)
           (try rw [show ((1 : Int)).toNat = 1 from rfl] at hx149_1)
           (try rw [show 1 * 4 = 4 from rfl] at hx149_1)
           (try rw [show ((1 : Int)).toNat = 1 from rfl] at hx149_2)
           (try rw [show 1 * 4 = 4 from rfl] at hx149_2)
           (try rw [show ((1 : Int)).toNat = 1 from rfl] at hx149_3)
           (try rw [show 1 * 4 = 4 from rfl] at hx149_3)
           replace hx149_0 := hbc HB.out hx149_0
           replace hx149_1 := hbc HB.out hx149_1
           replace hx149_2 := hbc HB.out hx149_2
           replace hx149_3 := hbc HB.out hx149_3
           have HR149_3 := mk0 hi149_3
           have HC149_3 := mk0 hl149_3
           clear hi149_3 hl149_3
           replace p149 := eq_true p149
           replace q149 := eq_true q149
           refine start_ (n := 13) (S := fun w' => w'.cell? ⟨gb135,0,none⟩ = some (.int .i64 a0_0) ∧ w'.cell? ⟨gb135,1,none⟩ = some (.int .i64 a0_1) ∧ w'.cell? ⟨gb135,2,none⟩ = some (.string a0_2) ∧ w'.cell? ⟨gb135,3,none⟩ = some (.slice (some ad147) l0_3.length c0_3) ∧ w'.cell? ad147 = some (.int .i64 ((rd_T29 l0_3 0).f0)) ∧ w'.cell? ⟨ad147.block,ad147.off + 1,none⟩ = some (.int .i64 ((rd_T29 l0_3 0).f1)) ∧ w'.cell? ⟨ad147.block,ad147.off + 2,none⟩ = some (.string ((rd_T29 l0_3 0).f2)) ∧ w'.cell? ⟨ad147.block,ad147.off + 3,none⟩ = some (.slice A147_3 ((rd_T29 l0_3 0).f3).length c147_3) ∧ w'.cell? ⟨ad147.block,ad147.off + 4,none⟩ = some (.int .i64 ((rd_T29 l0_3 1).f0)) ∧ w'.cell? ⟨ad147.block,ad147.off + 4 + 1,none⟩ = some (.int .i64 ((rd_T29 l0_3 1).f1)) ∧ w'.cell? ⟨ad147.block,ad147.off + 4 + 2,none⟩ = some (.string ((rd_T29 l0_3 1).f2)) ∧ w'.cell? ⟨ad147.block,ad147.off + 4 + 3,none⟩ = some (.slice A149_3 ((rd_T29 l0_3 1).f3).length c149_3)) (ds := []) #[false,false,false,false,false,false,false,false,false,false,false,false,false] (by kernel_rfl) rfl rfl ⟨(blk_cell BK135.out 0).trans rfl,(blk_cell BK135.out 1).trans rfl,(blk_cell BK135.out 2).trans rfl,(blk_cell BK135.out 3).trans rfl,((HB.out.cell (World.block_lt_of_cell? w _ hw147_0)).trans hw147_0),((HB.out.cell (World.block_lt_of_cell? w _ hw147_1)).trans hw147_1),((HB.out.cell (World.block_lt_of_cell? w _ hw147_2)).trans hw147_2),((HB.out.cell (World.block_lt_of_cell? w _ hw147_3)).trans hw147_3),((HB.out.cell (World.block_lt_of_cell? w _ hw149_0)).trans hw149_0),((HB.out.cell (World.block_lt_of_cell? w _ hw149_1)).trans hw149_1),((HB.out.cell (World.block_lt_of_cell? w _ hw149_2)).trans hw149_2),((HB.out.cell (World.block_lt_of_cell? w _ hw149_3)).trans hw149_3)⟩ (fun hHeld => ?_);refine with_tabW spec_l6Exp.tab13 spec_l6Exp.bits13 (fun HT_ HW_ => ?_)
           generalize w51.drew = w53 at BK135 HB HR147_3 HR149_3 hx147_0 hx147_1 hx147_2 hx147_3 hx149_0 hx149_1 hx149_2 hx149_3 hHeld ⊢
           refine pure_ (i := 0) (N := some 56) (v := ?_) (a' := ?_) #[true,false,false,false,false,false,false,false,false,false,false,false,false] rfl rfl (any_of HT_.out (by kernel_rfl)) (fun _ _ _ h => h) (Or.inl ⟨by rfl,?_⟩) ?_ ?_
           rotate_left
           ·intro w'
            go_simp
            with_reducible rfl
           rotate_left
           ·simp only [Act.put,List.setIfInBounds_toArray,List.set_cons_zero,List.set_cons_succ,i64_w,i32_w]
            rfl
           refine pure_ (i := 6) (N := some 62) (v := ?_) (a' := ?_) #[true,false,false,false,false,false,true,false,false,false,false,false,false] rfl rfl (any_of HT_.out (by kernel_rfl)) (fun _ _ _ h => h) (Or.inl ⟨by rfl,?_⟩) ?_ ?_
           rotate_left
           ·intro w'
            go_simp
            with_reducible rfl
           rotate_left
           ·simp only [Act.put,List.setIfInBounds_toArray,List.set_cons_zero,List.set_cons_succ,i64_w,i32_w]
            rfl
           refine take_ (i := 1) (N := some 57) (v := ?_) (a' := ?_) #[true,true,false,false,false,false,true,false,false,false,false,false,false] rfl rfl (take_ofW HT_.out HW_.out (by kernel_rfl)) (fun _ _ _ h => h) (Or.inl ⟨by rfl,?_⟩) hHeld ?_ ?_
           rotate_left
           ·rintro w' ⟨s0,s1,s2,s3,s4,s5,s6,s7,s8,s9,s10,s11⟩
            go_simp
            with_reducible rfl
           rotate_left
           ·simp only [Act.put,List.setIfInBounds_toArray,List.set_cons_zero,List.set_cons_succ,i64_w,i32_w]
            rfl
           refine pure_ (i := 2) (N := some 58) (v := ?_) (a' := ?_) #[true,true,true,false,false,false,true,false,false,false,false,false,false] rfl rfl (any_of HT_.out (by kernel_rfl)) (fun _ _ _ h => h) (Or.inl ⟨by rfl,?_⟩) ?_ ?_
           rotate_left
           ·intro w'
            go_simp
            with_reducible rfl
           rotate_left
           ·simp only [Act.put,List.setIfInBounds_toArray,List.set_cons_zero,List.set_cons_succ,i64_w,i32_w]
            rfl
           refine take_ (i := 3) (N := some 59) (v := ?_) (a' := ?_) #[true,true,true,true,false,false,true,false,false,false,false,false,false] rfl rfl (take_ofW HT_.out HW_.out (by kernel_rfl)) (fun _ _ _ h => h) (Or.inl ⟨by rfl,?_⟩) hHeld ?_ ?_
           rotate_left
           ·rintro w' ⟨s0,s1,s2,s3,s4,s5,s6,s7,s8,s9,s10,s11⟩
            go_simp
            with_reducible rfl
           rotate_left
           ·simp only [Act.put,List.setIfInBounds_toArray,List.set_cons_zero,List.set_cons_succ,i64_w,i32_w]
            rfl
           refine take_ (i := 7) (N := some 63) (v := ?_) (a' := ?_) #[true,true,true,true,false,false,true,true,false,false,false,false,false] rfl rfl (take_ofW HT_.out HW_.out (by kernel_rfl)) (fun _ _ _ h => h) (Or.inl ⟨by rfl,?_⟩) hHeld ?_ ?_
           rotate_left
           ·rintro w' ⟨s0,s1,s2,s3,s4,s5,s6,s7,s8,s9,s10,s11⟩
            go_simp
            with_reducible rfl
           rotate_left
           ·simp only [Act.put,List.setIfInBounds_toArray,List.set_cons_zero,List.set_cons_succ,i64_w,i32_w]
            rfl
           refine pure_ (i := 8) (N := some 64) (v := ?_) (a' := ?_) #[true,true,true,true,false,false,true,true,true,false,false,false,false] rfl rfl (any_of HT_.out (by kernel_rfl)) (fun _ _ _ h => h) (Or.inl ⟨by rfl,?_⟩) ?_ ?_
           rotate_left
           ·intro w'
            go_simp
            with_reducible rfl
           rotate_left
           ·simp only [Act.put,List.setIfInBounds_toArray,List.set_cons_zero,List.set_cons_succ,i64_w,i32_w]
            rfl
           refine take_ (i := 9) (N := some 65) (v := ?_) (a' := ?_) #[true,true,true,true,false,false,true,true,true,true,false,false,false] rfl rfl (take_ofW HT_.out HW_.out (by kernel_rfl)) (fun _ _ _ h => h) (Or.inl ⟨by rfl,?_⟩) hHeld ?_ ?_
           rotate_left
           ·rintro w' ⟨s0,s1,s2,s3,s4,s5,s6,s7,s8,s9,s10,s11⟩
            go_simp
            with_reducible rfl
           rotate_left
           ·simp only [Act.put,List.setIfInBounds_toArray,List.set_cons_zero,List.set_cons_succ,i64_w,i32_w]
            rfl
           refine one_ (i := 4) (N := some 60) #[true,true,true,true,true,false,true,true,true,true,false,false,false] rfl rfl (one_of HT_.out (by kernel_rfl)) (by decide) (fun K hK => ?_)
           refine goes_ Tryd.func18 (by kernel_rfl) rfl #[.agg #[.int .i64 ((rd_T29 l0_3 0).f0),.int .i64 ((rd_T29 l0_3 0).f1),.string ((rd_T29 l0_3 0).f2),.slice A147_3 ((rd_T29 l0_3 0).f3).length c147_3],.int .i64 2] (by rfl) rfl rfl (by (try simp only [List.map_toArray,List.map_cons,List.map_nil]);first|done|rfl) ?_
           with_reducible refine (IH.out k (by omega) ((rd_T29 l0_3 0).f0) ((rd_T29 l0_3 0).f1) ((rd_T29 l0_3 0).f2) _ _ ((rd_T29 l0_3 0).f3) 2 t148 _ ?side1 ?side2 A46.out).mono ?_
           (case side1 => repeat (first|exact (Kd.C_below HR147_3.out HB.out)|(with_reducible refine cA ?_ _)|(with_reducible refine cN ?_ _)|(with_reducible refine cD ?_)))
           (case side2 => exact HC147_3.out)
           rintro e w54 ⟨rfl,hb⟩
           refine ⟨_,rfl,?_⟩
           have n0_ := mk0 (blk_below (by exact kX BK135.out) hb)
           have n1_ := mk0 (below_step (by repeat (first|(with_reducible first|exact HB.out|apply bA|apply bN|apply bD|refine bS ?_ GE135.out)|exact HB.out)) hb)
           clear BK135
           clear HB
           have BK135 := n0_
           have HB := n1_
           clear n0_ n1_
           (try clear hb)
           (try clear hb2)
           (try clear hk)
           (try clear hi)
           refine hK.out _ _ ⟨(blk_cell BK135.out 0).trans rfl,(blk_cell BK135.out 1).trans rfl,(blk_cell BK135.out 2).trans rfl,(blk_cell BK135.out 3).trans rfl,((HB.out.cell (World.block_lt_of_cell? w _ hw147_0)).trans hw147_0),((HB.out.cell (World.block_lt_of_cell? w _ hw147_1)).trans hw147_1),((HB.out.cell (World.block_lt_of_cell? w _ hw147_2)).trans hw147_2),((HB.out.cell (World.block_lt_of_cell? w _ hw147_3)).trans hw147_3),((HB.out.cell (World.block_lt_of_cell? w _ hw149_0)).trans hw149_0),((HB.out.cell (World.block_lt_of_cell? w _ hw149_1)).trans hw149_1),((HB.out.cell (World.block_lt_of_cell? w _ hw149_2)).trans hw149_2),((HB.out.cell (World.block_lt_of_cell? w _ hw149_3)).trans hw149_3)⟩ (fun hHeld => ?_)
           clear hK K
           refine norm_ (a' := ?_) ?_ ?_
           rotate_left
           ·show Act.put _ (some 60) _ = _
            simp only [Act.put,List.setIfInBounds_toArray,List.set_cons_zero,List.set_cons_succ,i64_w,i32_w]
            rfl
           refine pure_ (i := 5) (N := some 61) (v := ?_) (a' := ?_) #[true,true,true,true,true,true,true,true,true,true,false,false,false] rfl rfl (any_of HT_.out (by kernel_rfl)) (fun _ _ _ h => h) (Or.inl ⟨by rfl,?_⟩) ?_ ?_
           rotate_left
           ·intro w'
            go_simp
            with_reducible rfl
           rotate_left
           ·simp only [Act.put,List.setIfInBounds_toArray,List.set_cons_zero,List.set_cons_succ,i64_w,i32_w]
            rfl
           refine one_ (i := 10) (N := some 66) #[true,true,true,true,true,true,true,true,true,true,true,false,false] rfl rfl (one_of HT_.out (by kernel_rfl)) (by decide) (fun K hK => ?_)
           refine goes_ Tryd.func18 (by kernel_rfl) rfl #[.agg #[.int .i64 ((rd_T29 l0_3 1).f0),.int .i64 ((rd_T29 l0_3 1).f1),.string ((rd_T29 l0_3 1).f2),.slice A149_3 ((rd_T29 l0_3 1).f3).length c149_3],.int .i64 3] (by rfl) rfl rfl (by (try simp only [List.map_toArray,List.map_cons,List.map_nil]);first|done|rfl) ?_
           with_reducible refine (IH.out k (by omega) ((rd_T29 l0_3 1).f0) ((rd_T29 l0_3 1).f1) ((rd_T29 l0_3 1).f2) _ _ ((rd_T29 l0_3 1).f3) 3 t150 _ ?side1 ?side2 A49.out).mono ?_
           (case side1 => repeat (first|exact (Kd.C_below HR149_3.out HB.out)|(with_reducible refine cA ?_ _)|(with_reducible refine cN ?_ _)|(with_reducible refine cD ?_)))
           (case side2 => exact HC149_3.out)
           rintro e w55 ⟨rfl,hb⟩
           refine ⟨_,rfl,?_⟩
           have n0_ := mk0 (blk_below (by exact kX BK135.out) hb)
           have n1_ := mk0 (below_step (by repeat (first|(with_reducible first|exact HB.out|apply bA|apply bN|apply bD|refine bS ?_ GE135.out)|exact HB.out)) hb)
           clear BK135
           clear HB
           have BK135 := n0_
           have HB := n1_
           clear n0_ n1_
           (try clear hb)
           (try clear hb2)
           (try clear hk)
           (try clear hi)
           refine hK.out _ _ ⟨(blk_cell BK135.out 0).trans rfl,(blk_cell BK135.out 1).trans rfl,(blk_cell BK135.out 2).trans rfl,(blk_cell BK135.out 3).trans rfl,((HB.out.cell (World.block_lt_of_cell? w _ hw147_0)).trans hw147_0),((HB.out.cell (World.block_lt_of_cell? w _ hw147_1)).trans hw147_1),((HB.out.cell (World.block_lt_of_cell? w _ hw147_2)).trans hw147_2),((HB.out.cell (World.block_lt_of_cell? w _ hw147_3)).trans hw147_3),((HB.out.cell (World.block_lt_of_cell? w _ hw149_0)).trans hw149_0),((HB.out.cell (World.block_lt_of_cell? w _ hw149_1)).trans hw149_1),((HB.out.cell (World.block_lt_of_cell? w _ hw149_2)).trans hw149_2),((HB.out.cell (World.block_lt_of_cell? w _ hw149_3)).trans hw149_3)⟩ (fun hHeld => ?_)
           clear hK K
           refine norm_ (a' := ?_) ?_ ?_
           rotate_left
           ·show Act.put _ (some 66) _ = _
            simp only [Act.put,List.setIfInBounds_toArray,List.set_cons_zero,List.set_cons_succ,i64_w,i32_w]
            rfl
           refine pure_ (i := 11) (N := some 67) (v := ?_) (a' := ?_) #[true,true,true,true,true,true,true,true,true,true,true,true,false] rfl rfl (any_of HT_.out (by kernel_rfl)) (fun _ _ _ h => h) (Or.inl ⟨by rfl,?_⟩) ?_ ?_
           rotate_left
           ·intro w'
            go_simp
            with_reducible rfl
           rotate_left
           ·simp only [Act.put,List.setIfInBounds_toArray,List.set_cons_zero,List.set_cons_succ,i64_w,i32_w]
            rfl
           refine pure_ (i := 12) (N := some 2) (v := ?_) (a' := ?_) #[true,true,true,true,true,true,true,true,true,true,true,true,true] rfl rfl (any_of HT_.out (by kernel_rfl)) (fun _ _ _ h => h) (Or.inl ⟨by rfl,?_⟩) ?_ ?_
           rotate_left
           ·intro w'
            go_simp
            with_reducible rfl
           rotate_left
           ·simp only [Act.put,List.setIfInBounds_toArray,List.set_cons_zero,List.set_cons_succ,i64_w,i32_w]
            rfl
           refine done_ (done_of HT_.out (by kernel_rfl)) ?_
           try go_wp2
           go_ret
           exact ⟨by first|rfl|(simp [errW_none,errW_some] <;> rfl)|(simp [*,errW_none,errW_some] <;> rfl),by repeat (first|(with_reducible first|exact HB.out|apply bA|apply bN|apply bD|refine bS ?_ GE135.out)|exact HB.out)⟩
          ·rw [if_neg c50] at H
           exact absurd H (by simp)
         ·rw [if_neg c48] at H
          exact absurd H (by simp)
        ·rw [if_neg c47] at H
         exact absurd H (by simp)
       ·rw [if_neg c45] at H
        exact absurd H (by simp)
      ·rw [if_neg c44] at H
       have c44b0 : (a0_0 == 6) = false := beq_eq_false_iff_ne.mpr c44
       have c44b1 : (a0_0 != 6) = true := bne_iff_ne.mpr c44
       by_cases c56 : a0_0 = 7
       ·rw [if_pos c56] at H
        have c56b0 : (a0_0 == 7) = true := beq_iff_eq.mpr c56
        have c56b1 : (a0_0 != 7) = false := bne_eq_false_iff_eq.mpr c56
        clear c56
        by_cases c57 : 0 < (l0_3.length : Int)
        ·rw [if_pos c57] at H
         have c57b0 : decide (0 < (l0_3.length : Int)) = true := decide_eq_true c57
         have c57b1 : decide (0 < l0_3.length) = true := decide_eq_true (by omega)
         clear c57
         obtain ⟨t152,A58,H⟩ := bindA H
         by_cases c59 : 4 + t152.size ≤ 9223372036854775807
         ·rw [if_pos c59] at H
          have c59b0 := eq_true c59
          have c59b1 : decide (4 + t152.size ≤ 9223372036854775807) = true := decide_eq_true c59
          try have c59b2 : (9223372036854775807 < 4 + t152.size) = False := eq_false (Nat.not_lt.2 c59)
          by_cases c60 : ((⟨#[109,105,110,40]⟩ : ByteArray) ++ t152).size + 2 ≤ 9223372036854775807
          ·rw [if_pos c60] at H
           have c60b0 := eq_true c60
           have c60b1 : decide (((⟨#[109,105,110,40]⟩ : ByteArray) ++ t152).size + 2 ≤ 9223372036854775807) = true := decide_eq_true c60
           try have c60b2 : (9223372036854775807 < ((⟨#[109,105,110,40]⟩ : ByteArray) ++ t152).size + 2) = False := eq_false (Nat.not_lt.2 c60)
           try have c60b9 : (9223372036854775807 < 4 + t152.size + 2) = False := eq_false (by have q_ := c60;simp only [ByteArray.size_append] at q_;have z0_ : (⟨#[109,105,110,40]⟩ : ByteArray).size = 4 := rfl;omega)
           by_cases c61 : 1 < (l0_3.length : Int)
           ·rw [if_pos c61] at H
            have c61b0 : decide (1 < (l0_3.length : Int)) = true := decide_eq_true c61
            have c61b1 : decide (1 < l0_3.length) = true := decide_eq_true (by omega)
            clear c61
            obtain ⟨t154,A62,H⟩ := bindA H
            by_cases c63 : (((⟨#[109,105,110,40]⟩ : ByteArray) ++ t152) ++ (⟨#[44,32]⟩ : ByteArray)).size + t154.size ≤ 9223372036854775807
            ·rw [if_pos c63] at H
             have c63b0 := eq_true c63
             have c63b1 : decide ((((⟨#[109,105,110,40]⟩ : ByteArray) ++ t152) ++ (⟨#[44,32]⟩ : ByteArray)).size + t154.size ≤ 9223372036854775807) = true := decide_eq_true c63
             try have c63b2 : (9223372036854775807 < (((⟨#[109,105,110,40]⟩ : ByteArray) ++ t152) ++ (⟨#[44,32]⟩ : ByteArray)).size + t154.size) = False := eq_false (Nat.not_lt.2 c63)
             try have c63b9 : (9223372036854775807 < 4 + t152.size + 2 + t154.size) = False := eq_false (by have q_ := c63;simp only [ByteArray.size_append] at q_;have z0_ : (⟨#[109,105,110,40]⟩ : ByteArray).size = 4 := rfl;have z1_ : (⟨#[44,32]⟩ : ByteArray).size = 2 := rfl;omega)
             by_cases c64 : ((((⟨#[109,105,110,40]⟩ : ByteArray) ++ t152) ++ (⟨#[44,32]⟩ : ByteArray)) ++ t154).size + 1 ≤ 9223372036854775807
             ·rw [if_pos c64] at H
              have c64b0 := eq_true c64
              have c64b1 : decide (((((⟨#[109,105,110,40]⟩ : ByteArray) ++ t152) ++ (⟨#[44,32]⟩ : ByteArray)) ++ t154).size + 1 ≤ 9223372036854775807) = true := decide_eq_true c64
              try have c64b2 : (9223372036854775807 < ((((⟨#[109,105,110,40]⟩ : ByteArray) ++ t152) ++ (⟨#[44,32]⟩ : ByteArray)) ++ t154).size + 1) = False := eq_false (Nat.not_lt.2 c64)
              try have c64b9 : (9223372036854775807 < 4 + t152.size + 2 + t154.size + 1) = False := eq_false (by have q_ := c64;simp only [ByteArray.size_append] at q_;have z0_ : (⟨#[109,105,110,40]⟩ : ByteArray).size = 4 := rfl;have z1_ : (⟨#[44,32]⟩ : ByteArray).size = 2 := rfl;omega)
              obtain rfl := Option.some.inj H
              go_enter Tryd.func11,Tryd.ntmps11
              try go_wp2_with (first|((with_reducible refine gate_dst (N := 1) rfl ?_);refine box_event ?hg (N := 1) ?hd (cs := #[.int .i64 a0_0,.int .i64 a0_1,.string a0_2,.slice A0_3 l0_3.length c0_3]) (t := 29) ?hr ?_;(case hd => rfl);(case hg => rfl);(case hr => first|(go_simp;done)|(go_simp;rfl));intro gb135 hg w65 hbox hb;have q_ := qB (by repeat (first|(with_reducible first|exact HB.out|apply bA|apply bN|apply bD)|exact HB.out)) hb;have n0_ := mk0 (below_step q_ hb);have n1_ := mk0 (hbox);have n2_ := mk0 (below_size2 q_ hg);have n3_ := n2_;clear HB;have HB := n0_;have BK135 := n1_;have GW135 := n2_;have GE135 := n3_;clear q_ n0_ n1_ n2_ n3_ hb hbox hg;have z66 := bc4 BK135.out))
              have n0_ := mk0 (kD BK135.out)
              have n1_ := mk0 (bD HB.out)
              clear BK135
              clear HB
              have BK135 := n0_
              have HB := n1_
              clear n0_ n1_
              have p151 : 0 ≤ (0 : Int) := (by omega)
              have q151 : 0 < (l0_3.length : Int) := of_decide_eq_true (by first|(with_reducible assumption)|assumption)
              obtain ⟨ad151,A151_3,c151_3,e151,hx151_0,hx151_1,hx151_2,hx151_3,hl151_3,hi151_3⟩ := at_T29 HR0_3.out 0 p151 q151
              have hw151_3 := hx151_3
              (try rw [show ((0 : Int)).toNat = 0 from rfl] at hw151_3)
              (try rw [show 0 * 4 = 0 from rfl] at hw151_3)
              (try rw [Addr.add_zero'] at hw151_3)
              have hw151_2 := hx151_2
              (try rw [show ((0 : Int)).toNat = 0 from rfl] at hw151_2)
              (try rw [show 0 * 4 = 0 from rfl] at hw151_2)
              (try rw [Addr.add_zero'] at hw151_2)
              have hw151_1 := hx151_1
              (try rw [show ((0 : Int)).toNat = 0 from rfl] at hw151_1)
              (try rw [show 0 * 4 = 0 from rfl] at hw151_1)
              (try rw [Addr.add_zero'] at hw151_1)
              have hw151_0 := hx151_0
              (try rw [show ((0 : Int)).toNat = 0 from rfl] at hw151_0)
              (try rw [show 0 * 4 = 0 from rfl] at hw151_0)
              (try rw [Addr.add_zero'] at hw151_0)
              cases e151
              have qi151 : (0 < l0_3.length) = True := eq_true (by omega)
              (try rw [show ((0 : Int)).toNat = 0 from rfl] at hx151_0)
              (try rw [show 0 * 4 = 0 from rfl] at hx151_0)
              (try rw [Addr.add_zero'] at hx151_0)
              (try rw [show ((0 : Int)).toNat = 0 from rfl] at hx151_1)
              (try rw [show 0 * 4 = 0 from rfl] at hx151_1)
              (try rw [Addr.add_zero'] at hx151_1)
              (try rw [show ((0 : Int)).toNat = 0 from rfl] at hx151_2)
              (try rw [show 0 * 4 = 0 from rfl] at hx151_2)
              (try rw [Addr.add_zero'] at hx151_2)
              (try rw [show ((0 : Int)).toNat = 0 from rfl] at hx151_3)
              (try rw [show 0 * 4 = 0 from rfl] at hx151_3)
              (try rw [Addr.add_zero'] at hx151_3)
              replace hx151_0 := hbc HB.out hx151_0
              replace hx151_1 := hbc HB.out hx151_1
              replace hx151_2 := hbc HB.out hx151_2
              replace hx151_3 := hbc HB.out hx151_3
              have HR151_3 := mk0 hi151_3
              have HC151_3 := mk0 hl151_3
              clear hi151_3 hl151_3
              replace p151 := eq_true p151
              replace q151 := eq_true q151
              have p153 : 0 ≤ (1 : Int) := (by omega)
              have q153 : 1 < (l0_3.length : Int) := of_decide_eq_true (by first|(with_reducible assumption)|assumption)
              obtain ⟨ad153,A153_3,c153_3,e153,hx153_0,hx153_1,hx153_2,hx153_3,hl153_3,hi153_3⟩ := at_T29 HR0_3.out 1 p153 q153
              have hw153_3 := hx153_3
              (try rw [show ((1 : Int)).toNat = 1 from rfl] at hw153_3)
              (try rw [show 1 * 4 = 4 from rfl] at hw153_3)
              (try simp only [Nat.reduceMul,Nat.reduceEqDiff,Go.Addr.add,↓reduceIte] at hw153_3)
              have hw153_2 := hx153_2
              (try rw [show ((1 : Int)).toNat = 1 from rfl] at hw153_2)
              (try rw [show 1 * 4 = 4 from rfl] at hw153_2)
              (try simp only [Nat.reduceMul,Nat.reduceEqDiff,Go.Addr.add,↓reduceIte] at hw153_2)
              have hw153_1 := hx153_1
              (try rw [show ((1 : Int)).toNat = 1 from rfl] at hw153_1)
              (try rw [show 1 * 4 = 4 from rfl] at hw153_1)
              (try simp only [Nat.reduceMul,Nat.reduceEqDiff,Go.Addr.add,↓reduceIte] at hw153_1)
              have hw153_0 := hx153_0
              (try rw [show ((1 : Int)).toNat = 1 from rfl] at hw153_0)
              (try rw [show 1 * 4 = 4 from rfl] at hw153_0)
              (try simp only [Nat.reduceMul,Nat.reduceEqDiff,Go.Addr.add,↓reduceIte] at hw153_0)
              obtain rfl : ad151 = ad153 := (by injection e153)
              (try simp only [show (1 : Int).toNat = 1 from rfl,Nat.reduceMul,Nat.reduceEqDiff,Go.Addr.add,↓reduceIte] at hx153_0)
              (try simp only [show (1 : Int).toNat = 1 from rfl,Nat.reduceMul,Nat.reduceEqDiff,Go.Addr.add,↓reduceIte] at hx153_1)
              (try simp only [show (1 : Int).toNat = 1 from rfl,Nat.reduceMul,Nat.reduceEqDiff,Go.Addr.add,↓reduceIte] at hx153_2)
              (try simp only [show (1 : Int).toNat = 1 from rfl,Nat.reduceMul,Nat.reduceEqDiff,Go.Addr.add,↓reduceIte] at hx153_3)
              have qi153 : (1 < l0_3.length) = True := eq_true (by omega)
              (try rw [show ((1 : Int)).toNat = 1 from rfl] at hx153_0)
              (try rw [show 1 * 4 = 4 from rfl] at hx153_0)
              (try rw [show ((1 : Int)).toNat = 1 from rfl] at hx153_1)
              (try rw [show 1 * 4 = 4 from rfl] at hx153_1)
              (try rw [show ((1 : Int)).toNat = 1 from rfl] at hx153_2)
              (try rw [show 1 * 4 = 4 from rfl] at hx153_2)
              (try rw [show ((1 : Int)).toNat = 1 from rfl] at hx153_3)
              (try rw [show 1 * 4 = 4 from rfl] at hx153_3)
              replace hx153_0 := hbc HB.out hx153_0
              replace hx153_1 := hbc HB.out hx153_1
              replace hx153_2 := hbc HB.out hx153_2
              replace hx153_3 := hbc HB.out hx153_3
              have HR153_3 := mk0 hi153_3
              have HC153_3 := mk0 hl153_3
              clear hi153_3 hl153_3
              replace p153 := eq_true p153
              replace q153 := eq_true q153
              refine start_ (n := 15) (S := fun w' => w'.cell? ⟨gb135,0,none⟩ = some (.int .i64 a0_0) ∧ w'.cell? ⟨gb135,1,none⟩ = some (.int .i64 a0_1) ∧ w'.cell? ⟨gb135,2,none⟩ = some (.string a0_2) ∧ w'.cell? ⟨gb135,3,none⟩ = some (.slice (some ad151) l0_3.length c0_3) ∧ w'.cell? ad151 = some (.int .i64 ((rd_T29 l0_3 0).f0)) ∧ w'.cell? ⟨ad151.block,ad151.off + 1,none⟩ = some (.int .i64 ((rd_T29 l0_3 0).f1)) ∧ w'.cell? ⟨ad151.block,ad151.off + 2,none⟩ = some (.string ((rd_T29 l0_3 0).f2)) ∧ w'.cell? ⟨ad151.block,ad151.off + 3,none⟩ = some (.slice A151_3 ((rd_T29 l0_3 0).f3).length c151_3) ∧ w'.cell? ⟨ad151.block,ad151.off + 4,none⟩ = some (.int .i64 ((rd_T29 l0_3 1).f0)) ∧ w'.cell? ⟨ad151.block,ad151.off + 4 + 1,none⟩ = some (.int .i64 ((rd_T29 l0_3 1).f1)) ∧ w'.cell? ⟨ad151.block,ad151.off + 4 + 2,none⟩ = some (.string ((rd_T29 l0_3 1).f2)) ∧ w'.cell? ⟨ad151.block,ad151.off + 4 + 3,none⟩ = some (.slice A153_3 ((rd_T29 l0_3 1).f3).length c153_3)) (ds := []) #[false,false,false,false,false,false,false,false,false,false,false,false,false,false,false] (by kernel_rfl) rfl rfl ⟨(blk_cell BK135.out 0).trans rfl,(blk_cell BK135.out 1).trans rfl,(blk_cell BK135.out 2).trans rfl,(blk_cell BK135.out 3).trans rfl,((HB.out.cell (World.block_lt_of_cell? w _ hw151_0)).trans hw151_0),((HB.out.cell (World.block_lt_of_cell? w _ hw151_1)).trans hw151_1),((HB.out.cell (World.block_lt_of_cell? w _ hw151_2)).trans hw151_2),((HB.out.cell (World.block_lt_of_cell? w _ hw151_3)).trans hw151_3),((HB.out.cell (World.block_lt_of_cell? w _ hw153_0)).trans hw153_0),((HB.out.cell (World.block_lt_of_cell? w _ hw153_1)).trans hw153_1),((HB.out.cell (World.block_lt_of_cell? w _ hw153_2)).trans hw153_2),((HB.out.cell (World.block_lt_of_cell? w _ hw153_3)).trans hw153_3)⟩ (fun hHeld => ?_);refine with_tabW spec_l6Exp.tab15 spec_l6Exp.bits15 (fun HT_ HW_ => ?_)
              generalize w65.drew = w67 at BK135 HB HR151_3 HR153_3 hx151_0 hx151_1 hx151_2 hx151_3 hx153_0 hx153_1 hx153_2 hx153_3 hHeld ⊢
              refine pure_ (i := 0) (N := some 70) (v := ?_) (a' := ?_) #[true,false,false,false,false,false,false,false,false,false,false,false,false,false,false] rfl rfl (any_of HT_.out (by kernel_rfl)) (fun _ _ _ h => h) (Or.inl ⟨by rfl,?_⟩) ?_ ?_
              rotate_left
              ·intro w'
               go_simp
               with_reducible rfl
              rotate_left
              ·simp only [Act.put,List.setIfInBounds_toArray,List.set_cons_zero,List.set_cons_succ,i64_w,i32_w]
               rfl
              refine pure_ (i := 7) (N := some 77) (v := ?_) (a' := ?_) #[true,false,false,false,false,false,false,true,false,false,false,false,false,false,false] rfl rfl (any_of HT_.out (by kernel_rfl)) (fun _ _ _ h => h) (Or.inl ⟨by rfl,?_⟩) ?_ ?_
              rotate_left
              ·intro w'
               go_simp
               with_reducible rfl
              rotate_left
              ·simp only [Act.put,List.setIfInBounds_toArray,List.set_cons_zero,List.set_cons_succ,i64_w,i32_w]
               rfl
              refine take_ (i := 1) (N := some 71) (v := ?_) (a' := ?_) #[true,true,false,false,false,false,false,true,false,false,false,false,false,false,false] rfl rfl (take_ofW HT_.out HW_.out (by kernel_rfl)) (fun _ _ _ h => h) (Or.inl ⟨by rfl,?_⟩) hHeld ?_ ?_
              rotate_left
              ·rintro w' ⟨s0,s1,s2,s3,s4,s5,s6,s7,s8,s9,s10,s11⟩
               go_simp
               with_reducible rfl
              rotate_left
              ·simp only [Act.put,List.setIfInBounds_toArray,List.set_cons_zero,List.set_cons_succ,i64_w,i32_w]
               rfl
              refine pure_ (i := 2) (N := some 72) (v := ?_) (a' := ?_) #[true,true,true,false,false,false,false,true,false,false,false,false,false,false,false] rfl rfl (any_of HT_.out (by kernel_rfl)) (fun _ _ _ h => h) (Or.inl ⟨by rfl,?_⟩) ?_ ?_
              rotate_left
              ·intro w'
               go_simp
               with_reducible rfl
              rotate_left
              ·simp only [Act.put,List.setIfInBounds_toArray,List.set_cons_zero,List.set_cons_succ,i64_w,i32_w]
               rfl
              refine take_ (i := 3) (N := some 73) (v := ?_) (a' := ?_) #[true,true,true,true,false,false,false,true,false,false,false,false,false,false,false] rfl rfl (take_ofW HT_.out HW_.out (by kernel_rfl)) (fun _ _ _ h => h) (Or.inl ⟨by rfl,?_⟩) hHeld ?_ ?_
              rotate_left
              ·rintro w' ⟨s0,s1,s2,s3,s4,s5,s6,s7,s8,s9,s10,s11⟩
               go_simp
               with_reducible rfl
              rotate_left
              ·simp only [Act.put,List.setIfInBounds_toArray,List.set_cons_zero,List.set_cons_succ,i64_w,i32_w]
               rfl
              refine take_ (i := 8) (N := some 78) (v := ?_) (a' := ?_) #[true,true,true,true,false,false,false,true,true,false,false,false,false,false,false] rfl rfl (take_ofW HT_.out HW_.out (by kernel_rfl)) (fun _ _ _ h => h) (Or.inl ⟨by rfl,?_⟩) hHeld ?_ ?_
              rotate_left
              ·rintro w' ⟨s0,s1,s2,s3,s4,s5,s6,s7,s8,s9,s10,s11⟩
               go_simp
               with_reducible rfl
              rotate_left
              ·simp only [Act.put,List.setIfInBounds_toArray,List.set_cons_zero,List.set_cons_succ,i64_w,i32_w]
               rfl
              refine pure_ (i := 9) (N := some 79) (v := ?_) (a' := ?_) #[true,true,true,true,false,false,false,true,true,true,false,false,false,false,false] rfl rfl (any_of HT_.out (by kernel_rfl)) (fun _ _ _ h => h) (Or.inl ⟨by rfl,?_⟩) ?_ ?_
              rotate_left
              ·intro w'
               go_simp
               with_reducible rfl
              rotate_left
              ·simp only [Act.put,List.setIfInBounds_toArray,List.set_cons_zero,List.set_cons_succ,i64_w,i32_w]
               rfl
              refine take_ (i := 10) (N := some 80) (v := ?_) (a' := ?_) #[true,true,true,true,false,false,false,true,true,true,true,false,false,false,false] rfl rfl (take_ofW HT_.out HW_.out (by kernel_rfl)) (fun _ _ _ h => h) (Or.inl ⟨by rfl,?_⟩) hHeld ?_ ?_
              rotate_left
              ·rintro w' ⟨s0,s1,s2,s3,s4,s5,s6,s7,s8,s9,s10,s11⟩
               go_simp
               with_reducible rfl
              rotate_left
              ·simp only [Act.put,List.setIfInBounds_toArray,List.set_cons_zero,List.set_cons_succ,i64_w,i32_w]
               rfl
              refine one_ (i := 4) (N := some 74) #[true,true,true,true,true,false,false,true,true,true,true,false,false,false,false] rfl rfl (one_of HT_.out (by kernel_rfl)) (by decide) (fun K hK => ?_)
              refine goes_ Tryd.func11 (by kernel_rfl) rfl #[.agg #[.int .i64 ((rd_T29 l0_3 0).f0),.int .i64 ((rd_T29 l0_3 0).f1),.string ((rd_T29 l0_3 0).f2),.slice A151_3 ((rd_T29 l0_3 0).f3).length c151_3]] (by rfl) rfl rfl (by (try simp only [List.map_toArray,List.map_cons,List.map_nil]);first|done|rfl) ?_
              with_reducible refine (IHS.out k (by omega) ((rd_T29 l0_3 0).f0) ((rd_T29 l0_3 0).f1) ((rd_T29 l0_3 0).f2) _ _ ((rd_T29 l0_3 0).f3) t152 _ ?side1 ?side2 A58.out).mono ?_
              (case side1 => repeat (first|exact (Kd.C_below HR151_3.out HB.out)|(with_reducible refine cA ?_ _)|(with_reducible refine cN ?_ _)|(with_reducible refine cD ?_)))
              (case side2 => exact HC151_3.out)
              rintro e w68 ⟨rfl,hb⟩
              refine ⟨_,rfl,?_⟩
              have n0_ := mk0 (blk_below (by exact kX BK135.out) hb)
              have n1_ := mk0 (below_step (by repeat (first|(with_reducible first|exact HB.out|apply bA|apply bN|apply bD|refine bS ?_ GE135.out)|exact HB.out)) hb)
              clear BK135
              clear HB
              have BK135 := n0_
              have HB := n1_
              clear n0_ n1_
              (try clear hb)
              (try clear hb2)
              (try clear hk)
              (try clear hi)
              refine hK.out _ _ ⟨(blk_cell BK135.out 0).trans rfl,(blk_cell BK135.out 1).trans rfl,(blk_cell BK135.out 2).trans rfl,(blk_cell BK135.out 3).trans rfl,((HB.out.cell (World.block_lt_of_cell? w _ hw151_0)).trans hw151_0),((HB.out.cell (World.block_lt_of_cell? w _ hw151_1)).trans hw151_1),((HB.out.cell (World.block_lt_of_cell? w _ hw151_2)).trans hw151_2),((HB.out.cell (World.block_lt_of_cell? w _ hw151_3)).trans hw151_3),((HB.out.cell (World.block_lt_of_cell? w _ hw153_0)).trans hw153_0),((HB.out.cell (World.block_lt_of_cell? w _ hw153_1)).trans hw153_1),((HB.out.cell (World.block_lt_of_cell? w _ hw153_2)).trans hw153_2),((HB.out.cell (World.block_lt_of_cell? w _ hw153_3)).trans hw153_3)⟩ (fun hHeld => ?_)
              clear hK K
              refine norm_ (a' := ?_) ?_ ?_
              rotate_left
              ·show Act.put _ (some 74) _ = _
               simp only [Act.put,List.setIfInBounds_toArray,List.set_cons_zero,List.set_cons_succ,i64_w,i32_w]
               rfl
              refine pure_ (i := 5) (N := some 75) (v := ?_) (a' := ?_) #[true,true,true,true,true,true,false,true,true,true,true,false,false,false,false] rfl rfl (any_of HT_.out (by kernel_rfl)) (fun _ _ _ h => h) (Or.inl ⟨by rfl,?_⟩) ?_ ?_
              rotate_left
              ·intro w'
               go_simp
               with_reducible rfl
              rotate_left
              ·simp only [Act.put,List.setIfInBounds_toArray,List.set_cons_zero,List.set_cons_succ,i64_w,i32_w]
               rfl
              refine pure_ (i := 6) (N := some 76) (v := ?_) (a' := ?_) #[true,true,true,true,true,true,true,true,true,true,true,false,false,false,false] rfl rfl (any_of HT_.out (by kernel_rfl)) (fun _ _ _ h => h) (Or.inl ⟨by rfl,?_⟩) ?_ ?_
              rotate_left
              ·intro w'
               go_simp
               with_reducible rfl
              rotate_left
              ·simp only [Act.put,List.setIfInBounds_toArray,List.set_cons_zero,List.set_cons_succ,i64_w,i32_w]
               rfl
              refine one_ (i := 11) (N := some 81) #[true,true,true,true,true,true,true,true,true,true,true,true,false,false,false] rfl rfl (one_of HT_.out (by kernel_rfl)) (by decide) (fun K hK => ?_)
              refine goes_ Tryd.func11 (by kernel_rfl) rfl #[.agg #[.int .i64 ((rd_T29 l0_3 1).f0),.int .i64 ((rd_T29 l0_3 1).f1),.string ((rd_T29 l0_3 1).f2),.slice A153_3 ((rd_T29 l0_3 1).f3).length c153_3]] (by rfl) rfl rfl (by (try simp only [List.map_toArray,List.map_cons,List.map_nil]);first|done|rfl) ?_
              with_reducible refine (IHS.out k (by omega) ((rd_T29 l0_3 1).f0) ((rd_T29 l0_3 1).f1) ((rd_T29 l0_3 1).f2) _ _ ((rd_T29 l0_3 1).f3) t154 _ ?side1 ?side2 A62.out).mono ?_
              (case side1 => repeat (first|exact (Kd.C_below HR153_3.out HB.out)|(with_reducible refine cA ?_ _)|(with_reducible refine cN ?_ _)|(with_reducible refine cD ?_)))
              (case side2 => exact HC153_3.out)
              rintro e w69 ⟨rfl,hb⟩
              refine ⟨_,rfl,?_⟩
              have n0_ := mk0 (blk_below (by exact kX BK135.out) hb)
              have n1_ := mk0 (below_step (by repeat (first|(with_reducible first|exact HB.out|apply bA|apply bN|apply bD|refine bS ?_ GE135.out)|exact HB.out)) hb)
              clear BK135
              clear HB
              have BK135 := n0_
              have HB := n1_
              clear n0_ n1_
              (try clear hb)
              (try clear hb2)
              (try clear hk)
              (try clear hi)
              refine hK.out _ _ ⟨(blk_cell BK135.out 0).trans rfl,(blk_cell BK135.out 1).trans rfl,(blk_cell BK135.out 2).trans rfl,(blk_cell BK135.out 3).trans rfl,((HB.out.cell (World.block_lt_of_cell? w _ hw151_0)).trans hw151_0),((HB.out.cell (World.block_lt_of_cell? w _ hw151_1)).trans hw151_1),((HB.out.cell (World.block_lt_of_cell? w _ hw151_2)).trans hw151_2),((HB.out.cell (World.block_lt_of_cell? w _ hw151_3)).trans hw151_3),((HB.out.cell (World.block_lt_of_cell? w _ hw153_0)).trans hw153_0),((HB.out.cell (World.block_lt_of_cell? w _ hw153_1)).trans hw153_1),((HB.out.cell (World.block_lt_of_cell? w _ hw153_2)).trans hw153_2),((HB.out.cell (World.block_lt_of_cell? w _ hw153_3)).trans hw153_3)⟩ (fun hHeld => ?_)
              clear hK K
              refine norm_ (a' := ?_) ?_ ?_
              rotate_left
              ·show Act.put _ (some 81) _ = _
               simp only [Act.put,List.setIfInBounds_toArray,List.set_cons_zero,List.set_cons_succ,i64_w,i32_w]
               rfl
              refine pure_ (i := 12) (N := some 82) (v := ?_) (a' := ?_) #[true,true,true,true,true,true,true,true,true,true,true,true,true,false,false] rfl rfl (any_of HT_.out (by kernel_rfl)) (fun _ _ _ h => h) (Or.inl ⟨by rfl,?_⟩) ?_ ?_
              rotate_left
              ·intro w'
               go_simp
               with_reducible rfl
              rotate_left
              ·simp only [Act.put,List.setIfInBounds_toArray,List.set_cons_zero,List.set_cons_succ,i64_w,i32_w]
               rfl
              refine pure_ (i := 13) (N := some 83) (v := ?_) (a' := ?_) #[true,true,true,true,true,true,true,true,true,true,true,true,true,true,false] rfl rfl (any_of HT_.out (by kernel_rfl)) (fun _ _ _ h => h) (Or.inl ⟨by rfl,?_⟩) ?_ ?_
              rotate_left
              ·intro w'
               go_simp
               with_reducible rfl
              rotate_left
              ·simp only [Act.put,List.setIfInBounds_toArray,List.set_cons_zero,List.set_cons_succ,i64_w,i32_w]
               rfl
              refine pure_ (i := 14) (N := some 2) (v := ?_) (a' := ?_) #[true,true,true,true,true,true,true,true,true,true,true,true,true,true,true] rfl rfl (any_of HT_.out (by kernel_rfl)) (fun _ _ _ h => h) (Or.inl ⟨by rfl,?_⟩) ?_ ?_
              rotate_left
              ·intro w'
               go_simp
               with_reducible rfl
              rotate_left
              ·simp only [Act.put,List.setIfInBounds_toArray,List.set_cons_zero,List.set_cons_succ,i64_w,i32_w]
               rfl
              refine done_ (done_of HT_.out (by kernel_rfl)) ?_
              try go_wp2
              go_ret
              exact ⟨by first|rfl|(simp [errW_none,errW_some] <;> rfl)|(simp [*,errW_none,errW_some] <;> rfl),by repeat (first|(with_reducible first|exact HB.out|apply bA|apply bN|apply bD|refine bS ?_ GE135.out)|exact HB.out)⟩
             ·rw [if_neg c64] at H
              exact absurd H (by simp)
            ·rw [if_neg c63] at H
             exact absurd H (by simp)
           ·rw [if_neg c61] at H
            exact absurd H (by simp)
          ·rw [if_neg c60] at H
           exact absurd H (by simp)
         ·rw [if_neg c59] at H
          exact absurd H (by simp)
        ·rw [if_neg c57] at H
         exact absurd H (by simp)
       ·rw [if_neg c56] at H
        have c56b0 : (a0_0 == 7) = false := beq_eq_false_iff_ne.mpr c56
        have c56b1 : (a0_0 != 7) = true := bne_iff_ne.mpr c56
        by_cases c70 : 0 < (l0_3.length : Int)
        ·rw [if_pos c70] at H
         have c70b0 : decide (0 < (l0_3.length : Int)) = true := decide_eq_true c70
         have c70b1 : decide (0 < l0_3.length) = true := decide_eq_true (by omega)
         clear c70
         obtain ⟨t156,A71,H⟩ := bindA H
         by_cases c72 : 4 + t156.size ≤ 9223372036854775807
         ·rw [if_pos c72] at H
          have c72b0 := eq_true c72
          have c72b1 : decide (4 + t156.size ≤ 9223372036854775807) = true := decide_eq_true c72
          try have c72b2 : (9223372036854775807 < 4 + t156.size) = False := eq_false (Nat.not_lt.2 c72)
          by_cases c73 : ((⟨#[109,97,120,40]⟩ : ByteArray) ++ t156).size + 2 ≤ 9223372036854775807
          ·rw [if_pos c73] at H
           have c73b0 := eq_true c73
           have c73b1 : decide (((⟨#[109,97,120,40]⟩ : ByteArray) ++ t156).size + 2 ≤ 9223372036854775807) = true := decide_eq_true c73
           try have c73b2 : (9223372036854775807 < ((⟨#[109,97,120,40]⟩ : ByteArray) ++ t156).size + 2) = False := eq_false (Nat.not_lt.2 c73)
           try have c73b9 : (9223372036854775807 < 4 + t156.size + 2) = False := eq_false (by have q_ := c73;simp only [ByteArray.size_append] at q_;have z0_ : (⟨#[109,97,120,40]⟩ : ByteArray).size = 4 := rfl;omega)
           by_cases c74 : 1 < (l0_3.length : Int)
           ·rw [if_pos c74] at H
            have c74b0 : decide (1 < (l0_3.length : Int)) = true := decide_eq_true c74
            have c74b1 : decide (1 < l0_3.length) = true := decide_eq_true (by omega)
            clear c74
            obtain ⟨t158,A75,H⟩ := bindA H
            by_cases c76 : (((⟨#[109,97,120,40]⟩ : ByteArray) ++ t156) ++ (⟨#[44,32]⟩ : ByteArray)).size + t158.size ≤ 9223372036854775807
            ·rw [if_pos c76] at H
             have c76b0 := eq_true c76
             have c76b1 : decide ((((⟨#[109,97,120,40]⟩ : ByteArray) ++ t156) ++ (⟨#[44,32]⟩ : ByteArray)).size + t158.size ≤ 9223372036854775807) = true := decide_eq_true c76
             try have c76b2 : (9223372036854775807 < (((⟨#[109,97,120,40]⟩ : ByteArray) ++ t156) ++ (⟨#[44,32]⟩ : ByteArray)).size + t158.size) = False := eq_false (Nat.not_lt.2 c76)
             try have c76b9 : (9223372036854775807 < 4 + t156.size + 2 + t158.size) = False := eq_false (by have q_ := c76;simp only [ByteArray.size_append] at q_;have z0_ : (⟨#[109,97,120,40]⟩ : ByteArray).size = 4 := rfl;have z1_ : (⟨#[44,32]⟩ : ByteArray).size = 2 := rfl;omega)
             by_cases c77 : ((((⟨#[109,97,120,40]⟩ : ByteArray) ++ t156) ++ (⟨#[44,32]⟩ : ByteArray)) ++ t158).size + 1 ≤ 9223372036854775807
             ·rw [if_pos c77] at H
              have c77b0 := eq_true c77
              have c77b1 : decide (((((⟨#[109,97,120,40]⟩ : ByteArray) ++ t156) ++ (⟨#[44,32]⟩ : ByteArray)) ++ t158).size + 1 ≤ 9223372036854775807) = true := decide_eq_true c77
              try have c77b2 : (9223372036854775807 < ((((⟨#[109,97,120,40]⟩ : ByteArray) ++ t156) ++ (⟨#[44,32]⟩ : ByteArray)) ++ t158).size + 1) = False := eq_false (Nat.not_lt.2 c77)
              try have c77b9 : (9223372036854775807 < 4 + t156.size + 2 + t158.size + 1) = False := eq_false (by have q_ := c77;simp only [ByteArray.size_append] at q_;have z0_ : (⟨#[109,97,120,40]⟩ : ByteArray).size = 4 := rfl;have z1_ : (⟨#[44,32]⟩ : ByteArray).size = 2 := rfl;omega)
              obtain rfl := Option.some.inj H
              go_enter Tryd.func11,Tryd.ntmps11
              try go_wp2_with (first|((with_reducible refine gate_dst (N := 1) rfl ?_);refine box_event ?hg (N := 1) ?hd (cs := #[.int .i64 a0_0,.int .i64 a0_1,.string a0_2,.slice A0_3 l0_3.length c0_3]) (t := 29) ?hr ?_;(case hd => rfl);(case hg => rfl);(case hr => first|(go_simp;done)|(go_simp;rfl));intro gb135 hg w78 hbox hb;have q_ := qB (by repeat (first|(with_reducible first|exact HB.out|apply bA|apply bN|apply bD)|exact HB.out)) hb;have n0_ := mk0 (below_step q_ hb);have n1_ := mk0 (hbox);have n2_ := mk0 (below_size2 q_ hg);have n3_ := n2_;clear HB;have HB := n0_;have BK135 := n1_;have GW135 := n2_;have GE135 := n3_;clear q_ n0_ n1_ n2_ n3_ hb hbox hg;have z79 := bc4 BK135.out))
              have n0_ := mk0 (kD BK135.out)
              have n1_ := mk0 (bD HB.out)
              clear BK135
              clear HB
              have BK135 := n0_
              have HB := n1_
              clear n0_ n1_
              have p155 : 0 ≤ (0 : Int) := (by omega)
              have q155 : 0 < (l0_3.length : Int) := of_decide_eq_true (by first|(with_reducible assumption)|assumption)
              obtain ⟨ad155,A155_3,c155_3,e155,hx155_0,hx155_1,hx155_2,hx155_3,hl155_3,hi155_3⟩ := at_T29 HR0_3.out 0 p155 q155
              have hw155_3 := hx155_3
              (try rw [show ((0 : Int)).toNat = 0 from rfl] at hw155_3)
              (try rw [show 0 * 4 = 0 from rfl] at hw155_3)
              (try rw [Addr.add_zero'] at hw155_3)
              have hw155_2 := hx155_2
              (try rw [show ((0 : Int)).toNat = 0 from rfl] at hw155_2)
              (try rw [show 0 * 4 = 0 from rfl] at hw155_2)
              (try rw [Addr.add_zero'] at hw155_2)
              have hw155_1 := hx155_1
              (try rw [show ((0 : Int)).toNat = 0 from rfl] at hw155_1)
              (try rw [show 0 * 4 = 0 from rfl] at hw155_1)
              (try rw [Addr.add_zero'] at hw155_1)
              have hw155_0 := hx155_0
              (try rw [show ((0 : Int)).toNat = 0 from rfl] at hw155_0)
              (try rw [show 0 * 4 = 0 from rfl] at hw155_0)
              (try rw [Addr.add_zero'] at hw155_0)
              cases e155
              have qi155 : (0 < l0_3.length) = True := eq_true (by omega)
              (try rw [show ((0 : Int)).toNat = 0 from rfl] at hx155_0)
              (try rw [show 0 * 4 = 0 from rfl] at hx155_0)
              (try rw [Addr.add_zero'] at hx155_0)
              (try rw [show ((0 : Int)).toNat = 0 from rfl] at hx155_1)
              (try rw [show 0 * 4 = 0 from rfl] at hx155_1)
              (try rw [Addr.add_zero'] at hx155_1)
              (try rw [show ((0 : Int)).toNat = 0 from rfl] at hx155_2)
              (try rw [show 0 * 4 = 0 from rfl] at hx155_2)
              (try rw [Addr.add_zero'] at hx155_2)
              (try rw [show ((0 : Int)).toNat = 0 from rfl] at hx155_3)
              (try rw [show 0 * 4 = 0 from rfl] at hx155_3)
              (try rw [Addr.add_zero'] at hx155_3)
              replace hx155_0 := hbc HB.out hx155_0
              replace hx155_1 := hbc HB.out hx155_1
              replace hx155_2 := hbc HB.out hx155_2
              replace hx155_3 := hbc HB.out hx155_3
              have HR155_3 := mk0 hi155_3
              have HC155_3 := mk0 hl155_3
              clear hi155_3 hl155_3
              replace p155 := eq_true p155
              replace q155 := eq_true q155
              have p157 : 0 ≤ (1 : Int) := (by omega)
              have q157 : 1 < (l0_3.length : Int) := of_decide_eq_true (by first|(with_reducible assumption)|assumption)
              obtain ⟨ad157,A157_3,c157_3,e157,hx157_0,hx157_1,hx157_2,hx157_3,hl157_3,hi157_3⟩ := at_T29 HR0_3.out 1 p157 q157
              have hw157_3 := hx157_3
              (try rw [show ((1 : Int)).toNat = 1 from rfl] at hw157_3)
              (try rw [show 1 * 4 = 4 from rfl] at hw157_3)
              (try simp only [Nat.reduceMul,Nat.reduceEqDiff,Go.Addr.add,↓reduceIte] at hw157_3)
              have hw157_2 := hx157_2
              (try rw [show ((1 : Int)).toNat = 1 from rfl] at hw157_2)
              (try rw [show 1 * 4 = 4 from rfl] at hw157_2)
              (try simp only [Nat.reduceMul,Nat.reduceEqDiff,Go.Addr.add,↓reduceIte] at hw157_2)
              have hw157_1 := hx157_1
              (try rw [show ((1 : Int)).toNat = 1 from rfl] at hw157_1)
              (try rw [show 1 * 4 = 4 from rfl] at hw157_1)
              (try simp only [Nat.reduceMul,Nat.reduceEqDiff,Go.Addr.add,↓reduceIte] at hw157_1)
              have hw157_0 := hx157_0
              (try rw [show ((1 : Int)).toNat = 1 from rfl] at hw157_0)
              (try rw [show 1 * 4 = 4 from rfl] at hw157_0)
              (try simp only [Nat.reduceMul,Nat.reduceEqDiff,Go.Addr.add,↓reduceIte] at hw157_0)
              obtain rfl : ad155 = ad157 := (by injection e157)
              (try simp only [show (1 : Int).toNat = 1 from rfl,Nat.reduceMul,Nat.reduceEqDiff,Go.Addr.add,↓reduceIte] at hx157_0)
              (try simp only [show (1 : Int).toNat = 1 from rfl,Nat.reduceMul,Nat.reduceEqDiff,Go.Addr.add,↓reduceIte] at hx157_1)
              (try simp only [show (1 : Int).toNat = 1 from rfl,Nat.reduceMul,Nat.reduceEqDiff,Go.Addr.add,↓reduceIte] at hx157_2)
              (try simp only [show (1 : Int).toNat = 1 from rfl,Nat.reduceMul,Nat.reduceEqDiff,Go.Addr.add,↓reduceIte] at hx157_3)
              have qi157 : (1 < l0_3.length) = True := eq_true (by omega)
              (try rw [show ((1 : Int)).toNat = 1 from rfl] at hx157_0)
              (try rw [show 1 * 4 = 4 from rfl] at hx157_0)
              (try rw [show ((1 : Int)).toNat = 1 from rfl] at hx157_1)
              (try rw [show 1 * 4 = 4 from rfl] at hx157_1)
              (try rw [show ((1 : Int)).toNat = 1 from rfl] at hx157_2)
              (try rw [show 1 * 4 = 4 from rfl] at hx157_2)
              (try rw [show ((1 : Int)).toNat = 1 from rfl] at hx157_3)
              (try rw [show 1 * 4 = 4 from rfl] at hx157_3)
              replace hx157_0 := hbc HB.out hx157_0
              replace hx157_1 := hbc HB.out hx157_1
              replace hx157_2 := hbc HB.out hx157_2
              replace hx157_3 := hbc HB.out hx157_3
              have HR157_3 := mk0 hi157_3
              have HC157_3 := mk0 hl157_3
              clear hi157_3 hl157_3
              replace p157 := eq_true p157
              replace q157 := eq_true q157
              refine start_ (n := 15) (S := fun w' => w'.cell? ⟨gb135,0,none⟩ = some (.int .i64 a0_0) ∧ w'.cell? ⟨gb135,1,none⟩ = some (.int .i64 a0_1) ∧ w'.cell? ⟨gb135,2,none⟩ = some (.string a0_2) ∧ w'.cell? ⟨gb135,3,none⟩ = some (.slice (some ad155) l0_3.length c0_3) ∧ w'.cell? ad155 = some (.int .i64 ((rd_T29 l0_3 0).f0)) ∧ w'.cell? ⟨ad155.block,ad155.off + 1,none⟩ = some (.int .i64 ((rd_T29 l0_3 0).f1)) ∧ w'.cell? ⟨ad155.block,ad155.off + 2,none⟩ = some (.string ((rd_T29 l0_3 0).f2)) ∧ w'.cell? ⟨ad155.block,ad155.off + 3,none⟩ = some (.slice A155_3 ((rd_T29 l0_3 0).f3).length c155_3) ∧ w'.cell? ⟨ad155.block,ad155.off + 4,none⟩ = some (.int .i64 ((rd_T29 l0_3 1).f0)) ∧ w'.cell? ⟨ad155.block,ad155.off + 4 + 1,none⟩ = some (.int .i64 ((rd_T29 l0_3 1).f1)) ∧ w'.cell? ⟨ad155.block,ad155.off + 4 + 2,none⟩ = some (.string ((rd_T29 l0_3 1).f2)) ∧ w'.cell? ⟨ad155.block,ad155.off + 4 + 3,none⟩ = some (.slice A157_3 ((rd_T29 l0_3 1).f3).length c157_3)) (ds := []) #[false,false,false,false,false,false,false,false,false,false,false,false,false,false,false] (by kernel_rfl) rfl rfl ⟨(blk_cell BK135.out 0).trans rfl,(blk_cell BK135.out 1).trans rfl,(blk_cell BK135.out 2).trans rfl,(blk_cell BK135.out 3).trans rfl,((HB.out.cell (World.block_lt_of_cell? w _ hw155_0)).trans hw155_0),((HB.out.cell (World.block_lt_of_cell? w _ hw155_1)).trans hw155_1),((HB.out.cell (World.block_lt_of_cell? w _ hw155_2)).trans hw155_2),((HB.out.cell (World.block_lt_of_cell? w _ hw155_3)).trans hw155_3),((HB.out.cell (World.block_lt_of_cell? w _ hw157_0)).trans hw157_0),((HB.out.cell (World.block_lt_of_cell? w _ hw157_1)).trans hw157_1),((HB.out.cell (World.block_lt_of_cell? w _ hw157_2)).trans hw157_2),((HB.out.cell (World.block_lt_of_cell? w _ hw157_3)).trans hw157_3)⟩ (fun hHeld => ?_);refine with_tabW spec_l6Exp.tab16 spec_l6Exp.bits16 (fun HT_ HW_ => ?_)
              generalize w78.drew = w80 at BK135 HB HR155_3 HR157_3 hx155_0 hx155_1 hx155_2 hx155_3 hx157_0 hx157_1 hx157_2 hx157_3 hHeld ⊢
              refine pure_ (i := 0) (N := some 84) (v := ?_) (a' := ?_) #[true,false,false,false,false,false,false,false,false,false,false,false,false,false,false] rfl rfl (any_of HT_.out (by kernel_rfl)) (fun _ _ _ h => h) (Or.inl ⟨by rfl,?_⟩) ?_ ?_
              rotate_left
              ·intro w'
               go_simp
               with_reducible rfl
              rotate_left
              ·simp only [Act.put,List.setIfInBounds_toArray,List.set_cons_zero,List.set_cons_succ,i64_w,i32_w]
               rfl
              refine pure_ (i := 7) (N := some 91) (v := ?_) (a' := ?_) #[true,false,false,false,false,false,false,true,false,false,false,false,false,false,false] rfl rfl (any_of HT_.out (by kernel_rfl)) (fun _ _ _ h => h) (Or.inl ⟨by rfl,?_⟩) ?_ ?_
              rotate_left
              ·intro w'
               go_simp
               with_reducible rfl
              rotate_left
              ·simp only [Act.put,List.setIfInBounds_toArray,List.set_cons_zero,List.set_cons_succ,i64_w,i32_w]
               rfl
              refine take_ (i := 1) (N := some 85) (v := ?_) (a' := ?_) #[true,true,false,false,false,false,false,true,false,false,false,false,false,false,false] rfl rfl (take_ofW HT_.out HW_.out (by kernel_rfl)) (fun _ _ _ h => h) (Or.inl ⟨by rfl,?_⟩) hHeld ?_ ?_
              rotate_left
              ·rintro w' ⟨s0,s1,s2,s3,s4,s5,s6,s7,s8,s9,s10,s11⟩
               go_simp
               with_reducible rfl
              rotate_left
              ·simp only [Act.put,List.setIfInBounds_toArray,List.set_cons_zero,List.set_cons_succ,i64_w,i32_w]
               rfl
              refine pure_ (i := 2) (N := some 86) (v := ?_) (a' := ?_) #[true,true,true,false,false,false,false,true,false,false,false,false,false,false,false] rfl rfl (any_of HT_.out (by kernel_rfl)) (fun _ _ _ h => h) (Or.inl ⟨by rfl,?_⟩) ?_ ?_
              rotate_left
              ·intro w'
               go_simp
               with_reducible rfl
              rotate_left
              ·simp only [Act.put,List.setIfInBounds_toArray,List.set_cons_zero,List.set_cons_succ,i64_w,i32_w]
               rfl
              refine take_ (i := 3) (N := some 87) (v := ?_) (a' := ?_) #[true,true,true,true,false,false,false,true,false,false,false,false,false,false,false] rfl rfl (take_ofW HT_.out HW_.out (by kernel_rfl)) (fun _ _ _ h => h) (Or.inl ⟨by rfl,?_⟩) hHeld ?_ ?_
              rotate_left
              ·rintro w' ⟨s0,s1,s2,s3,s4,s5,s6,s7,s8,s9,s10,s11⟩
               go_simp
               with_reducible rfl
              rotate_left
              ·simp only [Act.put,List.setIfInBounds_toArray,List.set_cons_zero,List.set_cons_succ,i64_w,i32_w]
               rfl
              refine take_ (i := 8) (N := some 92) (v := ?_) (a' := ?_) #[true,true,true,true,false,false,false,true,true,false,false,false,false,false,false] rfl rfl (take_ofW HT_.out HW_.out (by kernel_rfl)) (fun _ _ _ h => h) (Or.inl ⟨by rfl,?_⟩) hHeld ?_ ?_
              rotate_left
              ·rintro w' ⟨s0,s1,s2,s3,s4,s5,s6,s7,s8,s9,s10,s11⟩
               go_simp
               with_reducible rfl
              rotate_left
              ·simp only [Act.put,List.setIfInBounds_toArray,List.set_cons_zero,List.set_cons_succ,i64_w,i32_w]
               rfl
              refine pure_ (i := 9) (N := some 93) (v := ?_) (a' := ?_) #[true,true,true,true,false,false,false,true,true,true,false,false,false,false,false] rfl rfl (any_of HT_.out (by kernel_rfl)) (fun _ _ _ h => h) (Or.inl ⟨by rfl,?_⟩) ?_ ?_
              rotate_left
              ·intro w'
               go_simp
               with_reducible rfl
              rotate_left
              ·simp only [Act.put,List.setIfInBounds_toArray,List.set_cons_zero,List.set_cons_succ,i64_w,i32_w]
               rfl
              refine take_ (i := 10) (N := some 94) (v := ?_) (a' := ?_) #[true,true,true,true,false,false,false,true,true,true,true,false,false,false,false] rfl rfl (take_ofW HT_.out HW_.out (by kernel_rfl)) (fun _ _ _ h => h) (Or.inl ⟨by rfl,?_⟩) hHeld ?_ ?_
              rotate_left
              ·rintro w' ⟨s0,s1,s2,s3,s4,s5,s6,s7,s8,s9,s10,s11⟩
               go_simp
               with_reducible rfl
              rotate_left
              ·simp only [Act.put,List.setIfInBounds_toArray,List.set_cons_zero,List.set_cons_succ,i64_w,i32_w]
               rfl
              refine one_ (i := 4) (N := some 88) #[true,true,true,true,true,false,false,true,true,true,true,false,false,false,false] rfl rfl (one_of HT_.out (by kernel_rfl)) (by decide) (fun K hK => ?_)
              refine goes_ Tryd.func11 (by kernel_rfl) rfl #[.agg #[.int .i64 ((rd_T29 l0_3 0).f0),.int .i64 ((rd_T29 l0_3 0).f1),.string ((rd_T29 l0_3 0).f2),.slice A155_3 ((rd_T29 l0_3 0).f3).length c155_3]] (by rfl) rfl rfl (by (try simp only [List.map_toArray,List.map_cons,List.map_nil]);first|done|rfl) ?_
              with_reducible refine (IHS.out k (by omega) ((rd_T29 l0_3 0).f0) ((rd_T29 l0_3 0).f1) ((rd_T29 l0_3 0).f2) _ _ ((rd_T29 l0_3 0).f3) t156 _ ?side1 ?side2 A71.out).mono ?_
              (case side1 => repeat (first|exact (Kd.C_below HR155_3.out HB.out)|(with_reducible refine cA ?_ _)|(with_reducible refine cN ?_ _)|(with_reducible refine cD ?_)))
              (case side2 => exact HC155_3.out)
              rintro e w81 ⟨rfl,hb⟩
              refine ⟨_,rfl,?_⟩
              have n0_ := mk0 (blk_below (by exact kX BK135.out) hb)
              have n1_ := mk0 (below_step (by repeat (first|(with_reducible first|exact HB.out|apply bA|apply bN|apply bD|refine bS ?_ GE135.out)|exact HB.out)) hb)
              clear BK135
              clear HB
              have BK135 := n0_
              have HB := n1_
              clear n0_ n1_
              (try clear hb)
              (try clear hb2)
              (try clear hk)
              (try clear hi)
              refine hK.out _ _ ⟨(blk_cell BK135.out 0).trans rfl,(blk_cell BK135.out 1).trans rfl,(blk_cell BK135.out 2).trans rfl,(blk_cell BK135.out 3).trans rfl,((HB.out.cell (World.block_lt_of_cell? w _ hw155_0)).trans hw155_0),((HB.out.cell (World.block_lt_of_cell? w _ hw155_1)).trans hw155_1),((HB.out.cell (World.block_lt_of_cell? w _ hw155_2)).trans hw155_2),((HB.out.cell (World.block_lt_of_cell? w _ hw155_3)).trans hw155_3),((HB.out.cell (World.block_lt_of_cell? w _ hw157_0)).trans hw157_0),((HB.out.cell (World.block_lt_of_cell? w _ hw157_1)).trans hw157_1),((HB.out.cell (World.block_lt_of_cell? w _ hw157_2)).trans hw157_2),((HB.out.cell (World.block_lt_of_cell? w _ hw157_3)).trans hw157_3)⟩ (fun hHeld => ?_)
              clear hK K
              refine norm_ (a' := ?_) ?_ ?_
              rotate_left
              ·show Act.put _ (some 88) _ = _
               simp only [Act.put,List.setIfInBounds_toArray,List.set_cons_zero,List.set_cons_succ,i64_w,i32_w]
               rfl
              refine pure_ (i := 5) (N := some 89) (v := ?_) (a' := ?_) #[true,true,true,true,true,true,false,true,true,true,true,false,false,false,false] rfl rfl (any_of HT_.out (by kernel_rfl)) (fun _ _ _ h => h) (Or.inl ⟨by rfl,?_⟩) ?_ ?_
              rotate_left
              ·intro w'
               go_simp
               with_reducible rfl
              rotate_left
              ·simp only [Act.put,List.setIfInBounds_toArray,List.set_cons_zero,List.set_cons_succ,i64_w,i32_w]
               rfl
              refine pure_ (i := 6) (N := some 90) (v := ?_) (a' := ?_) #[true,true,true,true,true,true,true,true,true,true,true,false,false,false,false] rfl rfl (any_of HT_.out (by kernel_rfl)) (fun _ _ _ h => h) (Or.inl ⟨by rfl,?_⟩) ?_ ?_
              rotate_left
              ·intro w'
               go_simp
               with_reducible rfl
              rotate_left
              ·simp only [Act.put,List.setIfInBounds_toArray,List.set_cons_zero,List.set_cons_succ,i64_w,i32_w]
               rfl
              refine one_ (i := 11) (N := some 95) #[true,true,true,true,true,true,true,true,true,true,true,true,false,false,false] rfl rfl (one_of HT_.out (by kernel_rfl)) (by decide) (fun K hK => ?_)
              refine goes_ Tryd.func11 (by kernel_rfl) rfl #[.agg #[.int .i64 ((rd_T29 l0_3 1).f0),.int .i64 ((rd_T29 l0_3 1).f1),.string ((rd_T29 l0_3 1).f2),.slice A157_3 ((rd_T29 l0_3 1).f3).length c157_3]] (by rfl) rfl rfl (by (try simp only [List.map_toArray,List.map_cons,List.map_nil]);first|done|rfl) ?_
              with_reducible refine (IHS.out k (by omega) ((rd_T29 l0_3 1).f0) ((rd_T29 l0_3 1).f1) ((rd_T29 l0_3 1).f2) _ _ ((rd_T29 l0_3 1).f3) t158 _ ?side1 ?side2 A75.out).mono ?_
              (case side1 => repeat (first|exact (Kd.C_below HR157_3.out HB.out)|(with_reducible refine cA ?_ _)|(with_reducible refine cN ?_ _)|(with_reducible refine cD ?_)))
              (case side2 => exact HC157_3.out)
              rintro e w82 ⟨rfl,hb⟩
              refine ⟨_,rfl,?_⟩
              have n0_ := mk0 (blk_below (by exact kX BK135.out) hb)
              have n1_ := mk0 (below_step (by repeat (first|(with_reducible first|exact HB.out|apply bA|apply bN|apply bD|refine bS ?_ GE135.out)|exact HB.out)) hb)
              clear BK135
              clear HB
              have BK135 := n0_
              have HB := n1_
              clear n0_ n1_
              (try clear hb)
              (try clear hb2)
              (try clear hk)
              (try clear hi)
              refine hK.out _ _ ⟨(blk_cell BK135.out 0).trans rfl,(blk_cell BK135.out 1).trans rfl,(blk_cell BK135.out 2).trans rfl,(blk_cell BK135.out 3).trans rfl,((HB.out.cell (World.block_lt_of_cell? w _ hw155_0)).trans hw155_0),((HB.out.cell (World.block_lt_of_cell? w _ hw155_1)).trans hw155_1),((HB.out.cell (World.block_lt_of_cell? w _ hw155_2)).trans hw155_2),((HB.out.cell (World.block_lt_of_cell? w _ hw155_3)).trans hw155_3),((HB.out.cell (World.block_lt_of_cell? w _ hw157_0)).trans hw157_0),((HB.out.cell (World.block_lt_of_cell? w _ hw157_1)).trans hw157_1),((HB.out.cell (World.block_lt_of_cell? w _ hw157_2)).trans hw157_2),((HB.out.cell (World.block_lt_of_cell? w _ hw157_3)).trans hw157_3)⟩ (fun hHeld => ?_)
              clear hK K
              refine norm_ (a' := ?_) ?_ ?_
              rotate_left
              ·show Act.put _ (some 95) _ = _
               simp only [Act.put,List.setIfInBounds_toArray,List.set_cons_zero,List.set_cons_succ,i64_w,i32_w]
               rfl
              refine pure_ (i := 12) (N := some 96) (v := ?_) (a' := ?_) #[true,true,true,true,true,true,true,true,true,true,true,true,true,false,false] rfl rfl (any_of HT_.out (by kernel_rfl)) (fun _ _ _ h => h) (Or.inl ⟨by rfl,?_⟩) ?_ ?_
              rotate_left
              ·intro w'
               go_simp
               with_reducible rfl
              rotate_left
              ·simp only [Act.put,List.setIfInBounds_toArray,List.set_cons_zero,List.set_cons_succ,i64_w,i32_w]
               rfl
              refine pure_ (i := 13) (N := some 97) (v := ?_) (a' := ?_) #[true,true,true,true,true,true,true,true,true,true,true,true,true,true,false] rfl rfl (any_of HT_.out (by kernel_rfl)) (fun _ _ _ h => h) (Or.inl ⟨by rfl,?_⟩) ?_ ?_
              rotate_left
              ·intro w'
               go_simp
               with_reducible rfl
              rotate_left
              ·simp only [Act.put,List.setIfInBounds_toArray,List.set_cons_zero,List.set_cons_succ,i64_w,i32_w]
               rfl
              refine pure_ (i := 14) (N := some 2) (v := ?_) (a' := ?_) #[true,true,true,true,true,true,true,true,true,true,true,true,true,true,true] rfl rfl (any_of HT_.out (by kernel_rfl)) (fun _ _ _ h => h) (Or.inl ⟨by rfl,?_⟩) ?_ ?_
              rotate_left
              ·intro w'
               go_simp
               with_reducible rfl
              rotate_left
              ·simp only [Act.put,List.setIfInBounds_toArray,List.set_cons_zero,List.set_cons_succ,i64_w,i32_w]
               rfl
              refine done_ (done_of HT_.out (by kernel_rfl)) ?_
              try go_wp2
              go_ret
              exact ⟨by first|rfl|(simp [errW_none,errW_some] <;> rfl)|(simp [*,errW_none,errW_some] <;> rfl),by repeat (first|(with_reducible first|exact HB.out|apply bA|apply bN|apply bD|refine bS ?_ GE135.out)|exact HB.out)⟩
             ·rw [if_neg c77] at H
              exact absurd H (by simp)
            ·rw [if_neg c76] at H
             exact absurd H (by simp)
           ·rw [if_neg c74] at H
            exact absurd H (by simp)
          ·rw [if_neg c73] at H
           exact absurd H (by simp)
         ·rw [if_neg c72] at H
          exact absurd H (by simp)
        ·rw [if_neg c70] at H
         exact absurd H (by simp)
 all_goals
  go_enter Tryd.func11,Tryd.ntmps11
  go_wp2_with (first|((with_reducible refine gate_dst (N := 1) rfl ?_);refine box_event ?hg (N := 1) ?hd (cs := #[.int .i64 a0_0,.int .i64 a0_1,.string a0_2,.slice A0_3 l0_3.length c0_3]) (t := 29) ?hr ?_;(case hd => rfl);(case hg => rfl);(case hr => first|(go_simp;done)|(go_simp;rfl));intro gb135 hg w4 hbox hb;have q_ := qB (by repeat (first|(with_reducible first|exact HB.out|apply bA|apply bN|apply bD)|exact HB.out)) hb;have n0_ := mk0 (below_step q_ hb);have n1_ := mk0 (hbox);have n2_ := mk0 (below_size2 q_ hg);have n3_ := n2_;clear HB;have HB := n0_;have BK135 := n1_;have GW135 := n2_;have GE135 := n3_;clear q_ n0_ n1_ n2_ n3_ hb hbox hg;have z5 := bc4 BK135.out)|((with_reducible refine gate_callee (f := 17) rfl ?_);refine goesL_ (some 9) rfl rfl Tryd.func17 (by kernel_rfl) rfl #[.int .i64 a0_1] rfl (by (try simp only [List.map_toArray,List.map_cons,List.map_nil]);first|done|rfl) ?_;(with_reducible refine (spec_NumText.calls k a0_1 t136 _ A3.out).mono ?_);rintro e w6 ⟨rfl,hb⟩;refine ⟨_,rfl,?_⟩;have n0_ := mk0 (blk_below (by exact kX BK135.out) hb);have n1_ := mk0 (below_step (by repeat (first|(with_reducible first|exact HB.out|apply bA|apply bN|apply bD|refine bS ?_ GE135.out)|exact HB.out)) hb);clear BK135 HB;have BK135 := n0_;have HB := n1_;clear n0_ n1_;(try clear hb);(try clear hb2);(try clear hk);(try clear hi)))
  go_ret
  exact ⟨by first|rfl|(simp [errW_none,errW_some] <;> rfl)|(simp [*,errW_none,errW_some] <;> rfl),by repeat (first|(with_reducible first|exact HB.out|apply bA|apply bN|apply bD|refine bS ?_ GE135.out)|exact HB.out)⟩

set_option maxHeartbeats 8000000 in
set_option maxRecDepth 100000 in
theorem spec_l6At.callsG (K : Nat) (IH : Aside0 (∀ m, m < K → ∀ (a0_0 : Int) (a0_1 : Int) (a0_2 : ByteArray) (A0_3 : Option Addr) (c0_3 : Nat) (l0_3 : List (S29)) (r : ByteArray) (w : World) (hr0_3 : Kd.C k29 w A0_3 l0_3.length l0_3) (hc0_3 : l0_3.length ≤ c0_3) (h : spec_l6Exp.f m a0_0 a0_1 a0_2 l0_3 = some r),
   Calls Tryd.prog 11 #[.agg #[.int .i64 a0_0, .int .i64 a0_1, .string a0_2, .slice A0_3 l0_3.length c0_3]] w fun e w' => e = .returned (.string r) ∧ Below w.heap.size w w')) (a0_0 : Int) (a0_1 : Int) (a0_2 : ByteArray) (A0_3 : Option Addr) (c0_3 : Nat) (l0_3 : List (S29)) (a1 : Int) (r : ByteArray) (w : World) (hr0_3 : Kd.C k29 w A0_3 l0_3.length l0_3) (hc0_3 : l0_3.length ≤ c0_3) (h : spec_l6At.f K a0_0 a0_1 a0_2 l0_3 a1 = some r) :
  Calls Tryd.prog 18 #[.agg #[.int .i64 a0_0, .int .i64 a0_1, .string a0_2, .slice A0_3 l0_3.length c0_3], .int .i64 a1] w fun e w' => e = .returned (.string r) ∧ Below w.heap.size w w' := by
 cases K with
 |zero => exact absurd h (by simp [spec_l6At.f])
 |succ k =>
 have hu29 := Tryd.underlying29
 have HR0_3 := mk0 hr0_3
 have HC0_3 := mk0 hc0_3
 clear hr0_3 hc0_3
 have HB := mk0 (Below.refl w.heap.size w)
 have H : ((spec_l6Exp.f k a0_0 a0_1 a0_2 l0_3).bind fun t133 => ((spec_l6Level.f k a0_0 a0_1 a0_2 l0_3).bind fun t134 => (if t134 < a1 then (if 1 + t133.size ≤ 9223372036854775807 then (if ((⟨#[40]⟩ : ByteArray) ++ t133).size + 1 ≤ 9223372036854775807 then (some (((⟨#[40]⟩ : ByteArray) ++ t133) ++ (⟨#[41]⟩ : ByteArray))) else (none)) else (none)) else (some t133)))) = some r := by rw [spec_l6At.f] at h;exact h
 clear h
 obtain ⟨t133,A3,H⟩ := bindA H
 obtain ⟨t134,A4,H⟩ := bindA H
 refine Or.elim (Classical.em (t134 < a1)) (fun c5 => ?yes8) (fun c5 => ?no8)
 case' yes8 =>
  rw [if_pos c5] at H
  have c5b0 : decide (t134 < a1) = true := decide_eq_true c5
  clear c5
  refine Or.elim (Classical.em (1 + t133.size ≤ 9223372036854775807)) (fun c6 => ?yes9) (fun c6 => ?no9)
  case' yes9 =>
   rw [if_pos c6] at H
   have c6b0 := eq_true c6
   have c6b1 : decide (1 + t133.size ≤ 9223372036854775807) = true := decide_eq_true c6
   try have c6b2 : (9223372036854775807 < 1 + t133.size) = False := eq_false (Nat.not_lt.2 c6)
   refine Or.elim (Classical.em (((⟨#[40]⟩ : ByteArray) ++ t133).size + 1 ≤ 9223372036854775807)) (fun c7 => ?yes10) (fun c7 => ?no10)
   case' yes10 =>
    rw [if_pos c7] at H
    have c7b0 := eq_true c7
    have c7b1 : decide (((⟨#[40]⟩ : ByteArray) ++ t133).size + 1 ≤ 9223372036854775807) = true := decide_eq_true c7
    try have c7b2 : (9223372036854775807 < ((⟨#[40]⟩ : ByteArray) ++ t133).size + 1) = False := eq_false (Nat.not_lt.2 c7)
    try have c7b9 : (9223372036854775807 < 1 + t133.size + 1) = False := eq_false (by have q_ := c7;simp only [ByteArray.size_append] at q_;have z0_ : (⟨#[40]⟩ : ByteArray).size = 1 := rfl;omega)
    obtain rfl := Option.some.inj H
   case' no10 =>
    rw [if_neg c7] at H
    exact absurd H (by simp)
  case' no9 =>
   rw [if_neg c6] at H
   exact absurd H (by simp)
 case' no8 =>
  rw [if_neg c5] at H
  have c5b0 : decide (t134 < a1) = false := decide_eq_false c5
  clear c5
  obtain rfl := Option.some.inj H
 all_goals
  go_enter Tryd.func18,Tryd.ntmps18
  go_wp2_with (first|((with_reducible refine gate_dst (N := 2) rfl ?_);refine box_event ?hg (N := 2) ?hd (cs := #[.int .i64 a0_0,.int .i64 a0_1,.string a0_2,.slice A0_3 l0_3.length c0_3]) (t := 29) ?hr ?_;(case hd => rfl);(case hg => rfl);(case hr => first|(go_simp;done)|(go_simp;rfl));intro gb132 hg w8 hbox hb;have q_ := qB (by repeat (first|(with_reducible first|exact HB.out|apply bA|apply bN|apply bD)|exact HB.out)) hb;have n0_ := mk0 (below_step q_ hb);have n1_ := mk0 (hbox);have n2_ := mk0 (below_size2 q_ hg);have n3_ := n2_;clear HB;have HB := n0_;have BK132 := n1_;have GW132 := n2_;have GE132 := n3_;clear q_ n0_ n1_ n2_ n3_ hb hbox hg;have z9 := bc4 BK132.out)|((with_reducible refine gate_callee (f := 11) rfl ?_);refine goesL_ (some 7) rfl rfl Tryd.func11 (by kernel_rfl) rfl #[.agg #[.int .i64 a0_0,.int .i64 a0_1,.string a0_2,.slice A0_3 l0_3.length c0_3]] rfl (by (try simp only [List.map_toArray,List.map_cons,List.map_nil]);first|done|rfl) ?_;(with_reducible refine (IH.out k (by omega) a0_0 a0_1 a0_2 _ _ l0_3 t133 _ ?side1 ?side2 A3.out).mono ?_);(case side1 => repeat (first|exact (Kd.C_below HR0_3.out HB.out)|(with_reducible refine cA ?_ _)|(with_reducible refine cN ?_ _)|(with_reducible refine cD ?_)));(case side2 => exact HC0_3.out);rintro e w10 ⟨rfl,hb⟩;refine ⟨_,rfl,?_⟩;have n0_ := mk0 (blk_below (by exact kX BK132.out) hb);have n1_ := mk0 (below_step (by repeat (first|(with_reducible first|exact HB.out|apply bA|apply bN|apply bD|refine bS ?_ GE132.out)|exact HB.out)) hb);clear BK132 HB;have BK132 := n0_;have HB := n1_;clear n0_ n1_;(try clear hb);(try clear hb2);(try clear hk);(try clear hi);have z11 := bc4 BK132.out)|((with_reducible refine gate_callee (f := 25) rfl ?_);refine goesL_ (some 9) rfl rfl Tryd.func25 (by kernel_rfl) rfl #[.agg #[.int .i64 a0_0,.int .i64 a0_1,.string a0_2,.slice A0_3 l0_3.length c0_3]] rfl (by (try simp only [List.map_toArray,List.map_cons,List.map_nil]);first|done|rfl) ?_;(with_reducible refine (spec_l6Level.calls k a0_0 a0_1 a0_2 _ _ l0_3 t134 _ ?side1 ?side2 A4.out).mono ?_);(case side1 => repeat (first|exact (Kd.C_below HR0_3.out HB.out)|(with_reducible refine cA ?_ _)|(with_reducible refine cN ?_ _)|(with_reducible refine cD ?_)));(case side2 => exact HC0_3.out);rintro e w12 ⟨rfl,hb⟩;refine ⟨_,rfl,?_⟩;have n0_ := mk0 (blk_below (by exact kX BK132.out) hb);have n1_ := mk0 (below_step (by repeat (first|(with_reducible first|exact HB.out|apply bA|apply bN|apply bD|refine bS ?_ GE132.out)|exact HB.out)) hb);clear BK132 HB;have BK132 := n0_;have HB := n1_;clear n0_ n1_;(try clear hb);(try clear hb2);(try clear hk);(try clear hi)))
  go_ret
  exact ⟨by first|rfl|(simp [errW_none,errW_some] <;> rfl)|(simp [*,errW_none,errW_some] <;> rfl),by repeat (first|(with_reducible first|exact HB.out|apply bA|apply bN|apply bD|refine bS ?_ GE132.out)|exact HB.out)⟩
theorem spec_l6Exp_l6At_both.calls : ∀ k, (∀ (a0_0 : Int) (a0_1 : Int) (a0_2 : ByteArray) (A0_3 : Option Addr) (c0_3 : Nat) (l0_3 : List (S29)) (r : ByteArray) (w : World) (hr0_3 : Kd.C k29 w A0_3 l0_3.length l0_3) (hc0_3 : l0_3.length ≤ c0_3) (h : spec_l6Exp.f k a0_0 a0_1 a0_2 l0_3 = some r),
   Calls Tryd.prog 11 #[.agg #[.int .i64 a0_0, .int .i64 a0_1, .string a0_2, .slice A0_3 l0_3.length c0_3]] w fun e w' => e = .returned (.string r) ∧ Below w.heap.size w w') ∧ (∀ (a0_0 : Int) (a0_1 : Int) (a0_2 : ByteArray) (A0_3 : Option Addr) (c0_3 : Nat) (l0_3 : List (S29)) (a1 : Int) (r : ByteArray) (w : World) (hr0_3 : Kd.C k29 w A0_3 l0_3.length l0_3) (hc0_3 : l0_3.length ≤ c0_3) (h : spec_l6At.f k a0_0 a0_1 a0_2 l0_3 a1 = some r),
   Calls Tryd.prog 18 #[.agg #[.int .i64 a0_0, .int .i64 a0_1, .string a0_2, .slice A0_3 l0_3.length c0_3], .int .i64 a1] w fun e w' => e = .returned (.string r) ∧ Below w.heap.size w w') := by
 intro k
 induction k using Nat.strongRecOn with
 |_ k ih =>
 exact ⟨fun a0_0 a0_1 a0_2 A0_3 c0_3 l0_3 r w hr0_3 hc0_3 h => spec_l6Exp.callsG k ⟨fun m hm => (ih m hm).2⟩ ⟨fun m hm => (ih m hm).1⟩ a0_0 a0_1 a0_2 A0_3 c0_3 l0_3 r w hr0_3 hc0_3 h,fun a0_0 a0_1 a0_2 A0_3 c0_3 l0_3 a1 r w hr0_3 hc0_3 h => spec_l6At.callsG k ⟨fun m hm => (ih m hm).1⟩ a0_0 a0_1 a0_2 A0_3 c0_3 l0_3 a1 r w hr0_3 hc0_3 h⟩
theorem spec_l6Exp.calls (k : Nat) (a0_0 : Int) (a0_1 : Int) (a0_2 : ByteArray) (A0_3 : Option Addr) (c0_3 : Nat) (l0_3 : List (S29)) (r : ByteArray) (w : World) (hr0_3 : Kd.C k29 w A0_3 l0_3.length l0_3) (hc0_3 : l0_3.length ≤ c0_3) (h : spec_l6Exp.f k a0_0 a0_1 a0_2 l0_3 = some r) :
  Calls Tryd.prog 11 #[.agg #[.int .i64 a0_0, .int .i64 a0_1, .string a0_2, .slice A0_3 l0_3.length c0_3]] w fun e w' => e = .returned (.string r) ∧ Below w.heap.size w w' := (spec_l6Exp_l6At_both.calls k).1 a0_0 a0_1 a0_2 A0_3 c0_3 l0_3 r w hr0_3 hc0_3 h

theorem spec_l6At.calls (k : Nat) (a0_0 : Int) (a0_1 : Int) (a0_2 : ByteArray) (A0_3 : Option Addr) (c0_3 : Nat) (l0_3 : List (S29)) (a1 : Int) (r : ByteArray) (w : World) (hr0_3 : Kd.C k29 w A0_3 l0_3.length l0_3) (hc0_3 : l0_3.length ≤ c0_3) (h : spec_l6At.f k a0_0 a0_1 a0_2 l0_3 a1 = some r) :
  Calls Tryd.prog 18 #[.agg #[.int .i64 a0_0, .int .i64 a0_1, .string a0_2, .slice A0_3 l0_3.length c0_3], .int .i64 a1] w fun e w' => e = .returned (.string r) ∧ Below w.heap.size w w' := (spec_l6Exp_l6At_both.calls k).2 a0_0 a0_1 a0_2 A0_3 c0_3 l0_3 a1 r w hr0_3 hc0_3 h

end Go.Proofs.YtmmdgciefehbcaaDoor.PFnExactExpText
