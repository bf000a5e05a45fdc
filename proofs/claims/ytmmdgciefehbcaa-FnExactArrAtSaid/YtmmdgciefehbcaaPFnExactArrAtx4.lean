-- The functions of a law as plain Lean functions, each with its contract: written by a program of this session.
import Derived.Test.YtmmdgciefehbcaaPFnExactArrAtx0
import Derived.Test.YtmmdgciefehbcaaPFnExactArrAtx3
namespace Go.Proofs.Ytmmdgciefehbcaa.PFnExactArrAt
open Go.RowKit Go.Proofs.YtmmdgciefehbcaaW.PrintWords Go.Proofs.YtmmdgciefehbcaaW.PrintLast Go.Proofs.YtmmdgciefehbcaaW.PrintMore
attribute [local go_sem] max2_int min2_int max_two min_two max_three min_three max_four min_four   -- for this text's walks alone
set_option linter.unusedVariables false
set_option linter.unusedSimpArgs false

/-! ### laws_eqStmtS: function 61 -/
def laws_eqStmtS.T6 : Bool × List (List Nat × List Nat) := (true, [([], []), ([], []), ([0, 1], [0, 1]), ([2], [2]), ([], []), ([], []), ([4, 5], [4, 5]), ([6], [6]), ([3, 7], [3, 7]), ([8], [8])])
def laws_eqStmtS.B6 : List Nat := [0, 0, 3, 7, 0, 0, 48, 112, 255, 511]
theorem laws_eqStmtS.tab6 : rtab .any (opsOf Try.f61 6) = laws_eqStmtS.T6 := by kernel_rfl
theorem laws_eqStmtS.bits6 : waitsOk laws_eqStmtS.T6.2 laws_eqStmtS.B6 = true := by kernel_rfl

/-! ### laws_eqStmt: function 26 -/

mutual
def laws_eqStmt.f : Nat → (Int) → (ByteArray) → (Int) → (Int) → (ByteArray) → (List (S29)) → (Int) → (Int) → (ByteArray) → (List (S29)) → (Int) → (Int) → (ByteArray) → (List (S29)) → (Int) → (Int) → (ByteArray) → (List (S29)) → (List (S50)) → (Int) → (ByteArray) → (Int) → (Int) → (ByteArray) → (List (S29)) → (Int) → (Int) → (ByteArray) → (List (S29)) → (Int) → (Int) → (ByteArray) → (List (S29)) → (Int) → (Int) → (ByteArray) → (List (S29)) → (List (S50)) → Option (Bool)
 | 0, _, _, _, _, _, _, _, _, _, _, _, _, _, _, _, _, _, _, _, _, _, _, _, _, _, _, _, _, _, _, _, _, _, _, _, _, _, _ => none
 | k + 1, a0_0, a0_1, a0_2, a0_3, a0_4, l0_5, a0_6, a0_7, a0_8, l0_9, a0_10, a0_11, a0_12, l0_13, a0_14, a0_15, a0_16, l0_17, l0_18, a1_0, a1_1, a1_2, a1_3, a1_4, l1_5, a1_6, a1_7, a1_8, l1_9, a1_10, a1_11, a1_12, l1_13, a1_14, a1_15, a1_16, l1_17, l1_18 => if a0_0 = a1_0 then (if a0_1.toList = a1_1.toList then ((laws_eqExp.f k a0_2 a0_3 a0_4 l0_5 a1_2 a1_3 a1_4 l1_5).bind fun t232 => (if t232 = true then ((laws_eqExp.f k a0_6 a0_7 a0_8 l0_9 a1_6 a1_7 a1_8 l1_9).bind fun t233 => (if t233 = true then ((laws_eqExp.f k a0_10 a0_11 a0_12 l0_13 a1_10 a1_11 a1_12 l1_13).bind fun t234 => (if t234 = true then ((laws_eqExp.f k a0_14 a0_15 a0_16 l0_17 a1_14 a1_15 a1_16 l1_17).bind fun t235 => (if t235 = true then ((laws_eqStmtS.f k l0_18 l1_18).bind fun t236 => (if t236 = true then (some true) else (some false))) else (some false))) else (some false))) else (some false))) else (some false))) else (some false)) else (some false)
def laws_eqStmtS.l0 : Nat → List (S50) → List (S50) → Int → Option (Bool)
 | 0, _, _, _ => none
 | k + 1, x0, x1, x5 => if x5 < (x0.length : Int) then (if 0 ≤ x5 then (if x5 < (x1.length : Int) then ((laws_eqStmt.f k ((rd_T50 x0 x5).f0) ((rd_T50 x0 x5).f1) ((rd_T50 x0 x5).f2.f0) ((rd_T50 x0 x5).f2.f1) ((rd_T50 x0 x5).f2.f2) ((rd_T50 x0 x5).f2.f3) ((rd_T50 x0 x5).f3.f0) ((rd_T50 x0 x5).f3.f1) ((rd_T50 x0 x5).f3.f2) ((rd_T50 x0 x5).f3.f3) ((rd_T50 x0 x5).f4.f0) ((rd_T50 x0 x5).f4.f1) ((rd_T50 x0 x5).f4.f2) ((rd_T50 x0 x5).f4.f3) ((rd_T50 x0 x5).f5.f0) ((rd_T50 x0 x5).f5.f1) ((rd_T50 x0 x5).f5.f2) ((rd_T50 x0 x5).f5.f3) ((rd_T50 x0 x5).f6) ((rd_T50 x1 x5).f0) ((rd_T50 x1 x5).f1) ((rd_T50 x1 x5).f2.f0) ((rd_T50 x1 x5).f2.f1) ((rd_T50 x1 x5).f2.f2) ((rd_T50 x1 x5).f2.f3) ((rd_T50 x1 x5).f3.f0) ((rd_T50 x1 x5).f3.f1) ((rd_T50 x1 x5).f3.f2) ((rd_T50 x1 x5).f3.f3) ((rd_T50 x1 x5).f4.f0) ((rd_T50 x1 x5).f4.f1) ((rd_T50 x1 x5).f4.f2) ((rd_T50 x1 x5).f4.f3) ((rd_T50 x1 x5).f5.f0) ((rd_T50 x1 x5).f5.f1) ((rd_T50 x1 x5).f5.f2) ((rd_T50 x1 x5).f5.f3) ((rd_T50 x1 x5).f6)).bind fun t229 => (if t229 = true then (laws_eqStmtS.l0 k x0 x1 (wrap64 (x5 + 1))) else (some false))) else (none)) else (none)) else (some true)
def laws_eqStmtS.f : Nat → (List (S50)) → (List (S50)) → Option (Bool)
 | 0, _, _ => none
 | k + 1, l0, l1 => if (l0.length : Int) = (l1.length : Int) then (laws_eqStmtS.l0 k l0 l1 0) else (some false)
end

theorem laws_eqStmt_eqStmtS_both.mono : ∀ k, (∀ y0 y1 y2 y3 y4 y5 y6 y7 y8 y9 y10 y11 y12 y13 y14 y15 y16 y17 y18 y19 y20 y21 y22 y23 y24 y25 y26 y27 y28 y29 y30 y31 y32 y33 y34 y35 y36 y37, LeO (laws_eqStmt.f k y0 y1 y2 y3 y4 y5 y6 y7 y8 y9 y10 y11 y12 y13 y14 y15 y16 y17 y18 y19 y20 y21 y22 y23 y24 y25 y26 y27 y28 y29 y30 y31 y32 y33 y34 y35 y36 y37) (laws_eqStmt.f (k + 1) y0 y1 y2 y3 y4 y5 y6 y7 y8 y9 y10 y11 y12 y13 y14 y15 y16 y17 y18 y19 y20 y21 y22 y23 y24 y25 y26 y27 y28 y29 y30 y31 y32 y33 y34 y35 y36 y37)) ∧ (∀ y0 y1 y2, LeO (laws_eqStmtS.l0 k y0 y1 y2) (laws_eqStmtS.l0 (k + 1) y0 y1 y2)) ∧ (∀ y0 y1, LeO (laws_eqStmtS.f k y0 y1) (laws_eqStmtS.f (k + 1) y0 y1))
 | 0 => ⟨fun _ _ _ _ _ _ _ _ _ _ _ _ _ _ _ _ _ _ _ _ _ _ _ _ _ _ _ _ _ _ _ _ _ _ _ _ _ _ r h => by simp [laws_eqStmt.f] at h, fun _ _ _ r h => by simp [laws_eqStmtS.l0] at h, fun _ _ r h => by simp [laws_eqStmtS.f] at h⟩
 | k + 1 => by
  have ih := laws_eqStmt_eqStmtS_both.mono k
  refine ⟨?_, ?_, ?_⟩
  ·intro y0 y1 y2 y3 y4 y5 y6 y7 y8 y9 y10 y11 y12 y13 y14 y15 y16 y17 y18 y19 y20 y21 y22 y23 y24 y25 y26 y27 y28 y29 y30 y31 y32 y33 y34 y35 y36 y37
   rw [laws_eqStmt.f, laws_eqStmt.f]
   repeat' first
   | (with_reducible exact ih.1 _ _ _ _ _ _ _ _ _ _ _ _ _ _ _ _ _ _ _ _ _ _ _ _ _ _ _ _ _ _ _ _ _ _ _ _ _ _)
   | (with_reducible exact ih.2.1 _ _ _)
   | (with_reducible exact ih.2.2 _ _)
   | (with_reducible exact laws_eqExp.mono _ _ _ _ _ _ _ _ _)
   | (with_reducible exact LeO.refl _)
   | (with_reducible exact LeO.none _)
   | (with_reducible refine LeO.ite ?_ ?_)
   | (with_reducible refine LeO.bind ?_ (fun _ => ?_))
  ·intro y0 y1 y2
   rw [laws_eqStmtS.l0, laws_eqStmtS.l0]
   repeat' first
   | (with_reducible exact ih.1 _ _ _ _ _ _ _ _ _ _ _ _ _ _ _ _ _ _ _ _ _ _ _ _ _ _ _ _ _ _ _ _ _ _ _ _ _ _)
   | (with_reducible exact ih.2.1 _ _ _)
   | (with_reducible exact ih.2.2 _ _)
   | (with_reducible exact laws_eqExp.mono _ _ _ _ _ _ _ _ _)
   | (with_reducible exact LeO.refl _)
   | (with_reducible exact LeO.none _)
   | (with_reducible refine LeO.ite ?_ ?_)
   | (with_reducible refine LeO.bind ?_ (fun _ => ?_))
  ·intro y0 y1
   rw [laws_eqStmtS.f, laws_eqStmtS.f]
   repeat' first
   | (with_reducible exact ih.1 _ _ _ _ _ _ _ _ _ _ _ _ _ _ _ _ _ _ _ _ _ _ _ _ _ _ _ _ _ _ _ _ _ _ _ _ _ _)
   | (with_reducible exact ih.2.1 _ _ _)
   | (with_reducible exact ih.2.2 _ _)
   | (with_reducible exact laws_eqExp.mono _ _ _ _ _ _ _ _ _)
   | (with_reducible exact LeO.refl _)
   | (with_reducible exact LeO.none _)
   | (with_reducible refine LeO.ite ?_ ?_)
   | (with_reducible refine LeO.bind ?_ (fun _ => ?_))

theorem laws_eqStmt.mono : ∀ a0 a1 a2 a3 a4 a5 a6 a7 a8 a9 a10 a11 a12 a13 a14 a15 a16 a17 a18 a19 a20 a21 a22 a23 a24 a25 a26 a27 a28 a29 a30 a31 a32 a33 a34 a35 a36 a37 k, LeO (laws_eqStmt.f k a0 a1 a2 a3 a4 a5 a6 a7 a8 a9 a10 a11 a12 a13 a14 a15 a16 a17 a18 a19 a20 a21 a22 a23 a24 a25 a26 a27 a28 a29 a30 a31 a32 a33 a34 a35 a36 a37) (laws_eqStmt.f (k + 1) a0 a1 a2 a3 a4 a5 a6 a7 a8 a9 a10 a11 a12 a13 a14 a15 a16 a17 a18 a19 a20 a21 a22 a23 a24 a25 a26 a27 a28 a29 a30 a31 a32 a33 a34 a35 a36 a37) := fun a0 a1 a2 a3 a4 a5 a6 a7 a8 a9 a10 a11 a12 a13 a14 a15 a16 a17 a18 a19 a20 a21 a22 a23 a24 a25 a26 a27 a28 a29 a30 a31 a32 a33 a34 a35 a36 a37 k => (laws_eqStmt_eqStmtS_both.mono k).1 a0 a1 a2 a3 a4 a5 a6 a7 a8 a9 a10 a11 a12 a13 a14 a15 a16 a17 a18 a19 a20 a21 a22 a23 a24 a25 a26 a27 a28 a29 a30 a31 a32 a33 a34 a35 a36 a37

theorem laws_eqStmtS.mono : ∀ a0 a1 k, LeO (laws_eqStmtS.f k a0 a1) (laws_eqStmtS.f (k + 1) a0 a1) := fun a0 a1 k => (laws_eqStmt_eqStmtS_both.mono k).2.2 a0 a1

set_option maxHeartbeats 8000000 in
set_option maxRecDepth 100000 in
theorem laws_eqStmt.callsG (K : Nat) (IH : Aside0 (∀ m, m < K → ∀ (A0 : Option Addr) (c0 : Nat) (l0 : List (S50)) (A1 : Option Addr) (c1 : Nat) (l1 : List (S50)) (r : Bool) (w : World) (hr0 : Kd.C k50 w A0 l0.length l0) (hc0 : l0.length ≤ c0) (hr1 : Kd.C k50 w A1 l1.length l1) (hc1 : l1.length ≤ c1) (h : laws_eqStmtS.f m l0 l1 = some r),
   Calls Try.prog 61 #[.slice A0 l0.length c0, .slice A1 l1.length c1] w fun e w' => e = .returned (.bool r) ∧ Below w.heap.size w w')) (a0_0 : Int) (a0_1 : ByteArray) (a0_2 : Int) (a0_3 : Int) (a0_4 : ByteArray) (A0_5 : Option Addr) (c0_5 : Nat) (l0_5 : List (S29)) (a0_6 : Int) (a0_7 : Int) (a0_8 : ByteArray) (A0_9 : Option Addr) (c0_9 : Nat) (l0_9 : List (S29)) (a0_10 : Int) (a0_11 : Int) (a0_12 : ByteArray) (A0_13 : Option Addr) (c0_13 : Nat) (l0_13 : List (S29)) (a0_14 : Int) (a0_15 : Int) (a0_16 : ByteArray) (A0_17 : Option Addr) (c0_17 : Nat) (l0_17 : List (S29)) (A0_18 : Option Addr) (c0_18 : Nat) (l0_18 : List (S50)) (a1_0 : Int) (a1_1 : ByteArray) (a1_2 : Int) (a1_3 : Int) (a1_4 : ByteArray) (A1_5 : Option Addr) (c1_5 : Nat) (l1_5 : List (S29)) (a1_6 : Int) (a1_7 : Int) (a1_8 : ByteArray) (A1_9 : Option Addr) (c1_9 : Nat) (l1_9 : List (S29)) (a1_10 : Int) (a1_11 : Int) (a1_12 : ByteArray) (A1_13 : Option Addr) (c1_13 : Nat) (l1_13 : List (S29)) (a1_14 : Int) (a1_15 : Int) (a1_16 : ByteArray) (A1_17 : Option Addr) (c1_17 : Nat) (l1_17 : List (S29)) (A1_18 : Option Addr) (c1_18 : Nat) (l1_18 : List (S50)) (r : Bool) (w : World) (hr0_5 : Kd.C k29 w A0_5 l0_5.length l0_5) (hc0_5 : l0_5.length ≤ c0_5) (hr0_9 : Kd.C k29 w A0_9 l0_9.length l0_9) (hc0_9 : l0_9.length ≤ c0_9) (hr0_13 : Kd.C k29 w A0_13 l0_13.length l0_13) (hc0_13 : l0_13.length ≤ c0_13) (hr0_17 : Kd.C k29 w A0_17 l0_17.length l0_17) (hc0_17 : l0_17.length ≤ c0_17) (hr0_18 : Kd.C k50 w A0_18 l0_18.length l0_18) (hc0_18 : l0_18.length ≤ c0_18) (hr1_5 : Kd.C k29 w A1_5 l1_5.length l1_5) (hc1_5 : l1_5.length ≤ c1_5) (hr1_9 : Kd.C k29 w A1_9 l1_9.length l1_9) (hc1_9 : l1_9.length ≤ c1_9) (hr1_13 : Kd.C k29 w A1_13 l1_13.length l1_13) (hc1_13 : l1_13.length ≤ c1_13) (hr1_17 : Kd.C k29 w A1_17 l1_17.length l1_17) (hc1_17 : l1_17.length ≤ c1_17) (hr1_18 : Kd.C k50 w A1_18 l1_18.length l1_18) (hc1_18 : l1_18.length ≤ c1_18) (h : laws_eqStmt.f K a0_0 a0_1 a0_2 a0_3 a0_4 l0_5 a0_6 a0_7 a0_8 l0_9 a0_10 a0_11 a0_12 l0_13 a0_14 a0_15 a0_16 l0_17 l0_18 a1_0 a1_1 a1_2 a1_3 a1_4 l1_5 a1_6 a1_7 a1_8 l1_9 a1_10 a1_11 a1_12 l1_13 a1_14 a1_15 a1_16 l1_17 l1_18 = some r) :
  Calls Try.prog 26 #[.agg #[.int .i64 a0_0, .string a0_1, .int .i64 a0_2, .int .i64 a0_3, .string a0_4, .slice A0_5 l0_5.length c0_5, .int .i64 a0_6, .int .i64 a0_7, .string a0_8, .slice A0_9 l0_9.length c0_9, .int .i64 a0_10, .int .i64 a0_11, .string a0_12, .slice A0_13 l0_13.length c0_13, .int .i64 a0_14, .int .i64 a0_15, .string a0_16, .slice A0_17 l0_17.length c0_17, .slice A0_18 l0_18.length c0_18], .agg #[.int .i64 a1_0, .string a1_1, .int .i64 a1_2, .int .i64 a1_3, .string a1_4, .slice A1_5 l1_5.length c1_5, .int .i64 a1_6, .int .i64 a1_7, .string a1_8, .slice A1_9 l1_9.length c1_9, .int .i64 a1_10, .int .i64 a1_11, .string a1_12, .slice A1_13 l1_13.length c1_13, .int .i64 a1_14, .int .i64 a1_15, .string a1_16, .slice A1_17 l1_17.length c1_17, .slice A1_18 l1_18.length c1_18]] w fun e w' => e = .returned (.bool r) ∧ Below w.heap.size w w' := by
 cases K with
 |zero => exact absurd h (by simp [laws_eqStmt.f])
 |succ k =>
 have hu50 := Try.underlying50
 have hu29 := Try.underlying29
 have HR0_5 := mk0 hr0_5
 have HC0_5 := mk0 hc0_5
 clear hr0_5 hc0_5
 have HR0_9 := mk0 hr0_9
 have HC0_9 := mk0 hc0_9
 clear hr0_9 hc0_9
 have HR0_13 := mk0 hr0_13
 have HC0_13 := mk0 hc0_13
 clear hr0_13 hc0_13
 have HR0_17 := mk0 hr0_17
 have HC0_17 := mk0 hc0_17
 clear hr0_17 hc0_17
 have HR0_18 := mk0 hr0_18
 have HC0_18 := mk0 hc0_18
 clear hr0_18 hc0_18
 have HR1_5 := mk0 hr1_5
 have HC1_5 := mk0 hc1_5
 clear hr1_5 hc1_5
 have HR1_9 := mk0 hr1_9
 have HC1_9 := mk0 hc1_9
 clear hr1_9 hc1_9
 have HR1_13 := mk0 hr1_13
 have HC1_13 := mk0 hc1_13
 clear hr1_13 hc1_13
 have HR1_17 := mk0 hr1_17
 have HC1_17 := mk0 hc1_17
 clear hr1_17 hc1_17
 have HR1_18 := mk0 hr1_18
 have HC1_18 := mk0 hc1_18
 clear hr1_18 hc1_18
 have HB := mk0 (Below.refl w.heap.size w)
 have H : (if a0_0 = a1_0 then (if a0_1.toList = a1_1.toList then ((laws_eqExp.f k a0_2 a0_3 a0_4 l0_5 a1_2 a1_3 a1_4 l1_5).bind fun t232 => (if t232 = true then ((laws_eqExp.f k a0_6 a0_7 a0_8 l0_9 a1_6 a1_7 a1_8 l1_9).bind fun t233 => (if t233 = true then ((laws_eqExp.f k a0_10 a0_11 a0_12 l0_13 a1_10 a1_11 a1_12 l1_13).bind fun t234 => (if t234 = true then ((laws_eqExp.f k a0_14 a0_15 a0_16 l0_17 a1_14 a1_15 a1_16 l1_17).bind fun t235 => (if t235 = true then ((laws_eqStmtS.f k l0_18 l1_18).bind fun t236 => (if t236 = true then (some true) else (some false))) else (some false))) else (some false))) else (some false))) else (some false))) else (some false)) else (some false)) = some r := by rw [laws_eqStmt.f] at h;exact h
 clear h
 refine Or.elim (Classical.em (a0_0 = a1_0)) (fun c3 => ?yes22) (fun c3 => ?no22)
 case' yes22 =>
  rw [if_pos c3] at H
  have c3b0 : (a0_0 == a1_0) = true := beq_iff_eq.mpr c3
  have c3b1 : (a0_0 != a1_0) = false := bne_eq_false_iff_eq.mpr c3
  clear c3
  refine Or.elim (Classical.em (a0_1.toList = a1_1.toList)) (fun c4 => ?yes23) (fun c4 => ?no23)
  case' yes23 =>
   rw [if_pos c4] at H
   have c4b0 : (a0_1.toList == a1_1.toList) = true := beq_iff_eq.mpr c4
   have c4b1 : (a0_1.toList != a1_1.toList) = false := bne_eq_false_iff_eq.mpr c4
   clear c4
   obtain ⟨t232,A5,H⟩ := bindA H
   refine Or.elim (Classical.em (t232 = true)) (fun c6 => ?yes20) (fun c6 => ?no20)
   case' yes20 =>
    subst c6
    rw [if_pos rfl] at H
    obtain ⟨t233,A7,H⟩ := bindA H
    refine Or.elim (Classical.em (t233 = true)) (fun c8 => ?yes21) (fun c8 => ?no21)
    case' yes21 =>
     subst c8
     rw [if_pos rfl] at H
     obtain ⟨t234,A9,H⟩ := bindA H
     refine Or.elim (Classical.em (t234 = true)) (fun c10 => ?yes18) (fun c10 => ?no18)
     case' yes18 =>
      subst c10
      rw [if_pos rfl] at H
      obtain ⟨t235,A11,H⟩ := bindA H
      refine Or.elim (Classical.em (t235 = true)) (fun c12 => ?yes19) (fun c12 => ?no19)
      case' yes19 =>
       subst c12
       rw [if_pos rfl] at H
       obtain ⟨t236,A13,H⟩ := bindA H
       refine Or.elim (Classical.em (t236 = true)) (fun c14 => ?yes17) (fun c14 => ?no17)
       case' yes17 =>
        subst c14
        rw [if_pos rfl] at H
        obtain rfl := Option.some.inj H
       case' no17 =>
        replace c14 := Bool.eq_false_iff.mpr c14
        subst c14
        rw [if_neg (show ¬ (false = true) by decide)] at H
        obtain rfl := Option.some.inj H
       all_goals
        go_enter Try.func26,Try.ntmps26
        go_wp2_with (first|((with_reducible refine gate_dst (N := 2) rfl ?_);refine box_event ?hg (N := 2) ?hd (cs := #[.int .i64 a0_0,.string a0_1,.int .i64 a0_2,.int .i64 a0_3,.string a0_4,.slice A0_5 l0_5.length c0_5,.int .i64 a0_6,.int .i64 a0_7,.string a0_8,.slice A0_9 l0_9.length c0_9,.int .i64 a0_10,.int .i64 a0_11,.string a0_12,.slice A0_13 l0_13.length c0_13,.int .i64 a0_14,.int .i64 a0_15,.string a0_16,.slice A0_17 l0_17.length c0_17,.slice A0_18 l0_18.length c0_18]) (t := 50) ?hr ?_;(case hd => rfl);(case hg => rfl);(case hr => first|(go_simp;done)|(go_simp;rfl));intro gb230 hg w15 hbox hb;have q_ := qB (by repeat (first|(with_reducible first|exact HB.out|apply bA|apply bN|apply bD)|exact HB.out)) hb;have n0_ := mk0 (below_step q_ hb);have n1_ := mk0 (hbox);have n2_ := mk0 (below_size2 q_ hg);have n3_ := n2_;clear HB;have HB := n0_;have BK230 := n1_;have GW230 := n2_;have GE230 := n3_;clear q_ n0_ n1_ n2_ n3_ hb hbox hg)|((with_reducible refine gate_dst (N := 3) rfl ?_);refine box_event ?hg (N := 3) ?hd (cs := #[.int .i64 a1_0,.string a1_1,.int .i64 a1_2,.int .i64 a1_3,.string a1_4,.slice A1_5 l1_5.length c1_5,.int .i64 a1_6,.int .i64 a1_7,.string a1_8,.slice A1_9 l1_9.length c1_9,.int .i64 a1_10,.int .i64 a1_11,.string a1_12,.slice A1_13 l1_13.length c1_13,.int .i64 a1_14,.int .i64 a1_15,.string a1_16,.slice A1_17 l1_17.length c1_17,.slice A1_18 l1_18.length c1_18]) (t := 50) ?hr ?_;(case hd => rfl);(case hg => rfl);(case hr => first|(go_simp;done)|(go_simp;rfl));intro gb231 hg w16 hbox hb;have q_ := qB (by repeat (first|(with_reducible first|exact HB.out|apply bA|apply bN|apply bD|refine bS ?_ GE230.out)|exact HB.out)) hb;have n0_ := mk0 (blk_below (by exact kX BK230.out) hb);have n1_ := mk0 (below_step q_ hb);have n2_ := mk0 (hbox);have n3_ := mk0 (below_size2 q_ hg);have n4_ := n3_;have n5_ := mk0 ((by rw [hg];exact Nat.ne_of_lt (blk_lt (by exact kX BK230.out)) : gb230 ≠ gb231));have n6_ := mk0 ((by rw [hg];exact Nat.ne_of_gt (blk_lt (by exact kX BK230.out)) : gb231 ≠ gb230));clear BK230 HB;have BK230 := n0_;have HB := n1_;have BK231 := n2_;have GW231 := n3_;have GE231 := n4_;have NB230_231 := n5_;have NB231_230 := n6_;clear q_ n0_ n1_ n2_ n3_ n4_ n5_ n6_ hb hbox hg)|((with_reducible refine gate_dst (N := 6) rfl ?_);refine normW ?_ (by (try simp only [Act.put,List.setIfInBounds_toArray,List.set_cons_zero,List.set_cons_succ]);rfl);refine ldOne rfl 3 _ rfl gb230 0 rfl (l := [.int .i64 a0_0,.string a0_1,.int .i64 a0_2,.int .i64 a0_3,.string a0_4,.slice A0_5 l0_5.length c0_5,.int .i64 a0_6,.int .i64 a0_7,.string a0_8,.slice A0_9 l0_9.length c0_9,.int .i64 a0_10,.int .i64 a0_11,.string a0_12,.slice A0_13 l0_13.length c0_13,.int .i64 a0_14,.int .i64 a0_15,.string a0_16,.slice A0_17 l0_17.length c0_17,.slice A0_18 l0_18.length c0_18]) (tb := 50) (by exact kX BK230.out) (.int .i64 a0_0) rfl (fun _ => by kernel_rfl) ?_;have hnb17 := NB230_231.out;have hnc17 := NB231_230.out)|((with_reducible refine gate_dst (N := 8) rfl ?_);refine normW ?_ (by (try simp only [Act.put,List.setIfInBounds_toArray,List.set_cons_zero,List.set_cons_succ]);rfl);refine ldOne rfl 3 _ rfl gb231 0 rfl (l := [.int .i64 a1_0,.string a1_1,.int .i64 a1_2,.int .i64 a1_3,.string a1_4,.slice A1_5 l1_5.length c1_5,.int .i64 a1_6,.int .i64 a1_7,.string a1_8,.slice A1_9 l1_9.length c1_9,.int .i64 a1_10,.int .i64 a1_11,.string a1_12,.slice A1_13 l1_13.length c1_13,.int .i64 a1_14,.int .i64 a1_15,.string a1_16,.slice A1_17 l1_17.length c1_17,.slice A1_18 l1_18.length c1_18]) (tb := 50) (by exact kX BK231.out) (.int .i64 a1_0) rfl (fun _ => by kernel_rfl) ?_)|((with_reducible refine gate_dst (N := 11) rfl ?_);refine normW ?_ (by (try simp only [Act.put,List.setIfInBounds_toArray,List.set_cons_zero,List.set_cons_succ]);rfl);refine ldOne rfl 9 _ rfl gb230 1 rfl (l := [.int .i64 a0_0,.string a0_1,.int .i64 a0_2,.int .i64 a0_3,.string a0_4,.slice A0_5 l0_5.length c0_5,.int .i64 a0_6,.int .i64 a0_7,.string a0_8,.slice A0_9 l0_9.length c0_9,.int .i64 a0_10,.int .i64 a0_11,.string a0_12,.slice A0_13 l0_13.length c0_13,.int .i64 a0_14,.int .i64 a0_15,.string a0_16,.slice A0_17 l0_17.length c0_17,.slice A0_18 l0_18.length c0_18]) (tb := 50) (by exact kX BK230.out) (.string a0_1) rfl (fun _ => by kernel_rfl) ?_)|((with_reducible refine gate_dst (N := 13) rfl ?_);refine normW ?_ (by (try simp only [Act.put,List.setIfInBounds_toArray,List.set_cons_zero,List.set_cons_succ]);rfl);refine ldOne rfl 9 _ rfl gb231 1 rfl (l := [.int .i64 a1_0,.string a1_1,.int .i64 a1_2,.int .i64 a1_3,.string a1_4,.slice A1_5 l1_5.length c1_5,.int .i64 a1_6,.int .i64 a1_7,.string a1_8,.slice A1_9 l1_9.length c1_9,.int .i64 a1_10,.int .i64 a1_11,.string a1_12,.slice A1_13 l1_13.length c1_13,.int .i64 a1_14,.int .i64 a1_15,.string a1_16,.slice A1_17 l1_17.length c1_17,.slice A1_18 l1_18.length c1_18]) (tb := 50) (by exact kX BK231.out) (.string a1_1) rfl (fun _ => by kernel_rfl) ?_)|((with_reducible refine gate_dst (N := 16) rfl ?_);refine normW ?_ (by (try simp only [Act.put,List.setIfInBounds_toArray,List.set_cons_zero,List.set_cons_succ]);rfl);refine ldBox rfl 29 _ rfl gb230 2 rfl (l := [.int .i64 a0_0,.string a0_1,.int .i64 a0_2,.int .i64 a0_3,.string a0_4,.slice A0_5 l0_5.length c0_5,.int .i64 a0_6,.int .i64 a0_7,.string a0_8,.slice A0_9 l0_9.length c0_9,.int .i64 a0_10,.int .i64 a0_11,.string a0_12,.slice A0_13 l0_13.length c0_13,.int .i64 a0_14,.int .i64 a0_15,.string a0_16,.slice A0_17 l0_17.length c0_17,.slice A0_18 l0_18.length c0_18]) (tb := 50) (by exact kX BK230.out) [.int .i64 a0_2,.int .i64 a0_3,.string a0_4,.slice A0_5 l0_5.length c0_5] rfl _ hu29 (by kernel_rfl) ?_)|((with_reducible refine gate_dst (N := 18) rfl ?_);refine normW ?_ (by (try simp only [Act.put,List.setIfInBounds_toArray,List.set_cons_zero,List.set_cons_succ]);rfl);refine ldBox rfl 29 _ rfl gb231 2 rfl (l := [.int .i64 a1_0,.string a1_1,.int .i64 a1_2,.int .i64 a1_3,.string a1_4,.slice A1_5 l1_5.length c1_5,.int .i64 a1_6,.int .i64 a1_7,.string a1_8,.slice A1_9 l1_9.length c1_9,.int .i64 a1_10,.int .i64 a1_11,.string a1_12,.slice A1_13 l1_13.length c1_13,.int .i64 a1_14,.int .i64 a1_15,.string a1_16,.slice A1_17 l1_17.length c1_17,.slice A1_18 l1_18.length c1_18]) (tb := 50) (by exact kX BK231.out) [.int .i64 a1_2,.int .i64 a1_3,.string a1_4,.slice A1_5 l1_5.length c1_5] rfl _ hu29 (by kernel_rfl) ?_)|((with_reducible refine gate_callee (f := 14) rfl ?_);refine goesL_ (some 19) rfl rfl Try.func14 (by kernel_rfl) rfl #[.agg #[.int .i64 a0_2,.int .i64 a0_3,.string a0_4,.slice A0_5 l0_5.length c0_5],.agg #[.int .i64 a1_2,.int .i64 a1_3,.string a1_4,.slice A1_5 l1_5.length c1_5]] rfl (by (try simp only [List.map_toArray,List.map_cons,List.map_nil]);first|done|rfl) ?_;(with_reducible refine (laws_eqExp.calls k a0_2 a0_3 a0_4 _ _ l0_5 a1_2 a1_3 a1_4 _ _ l1_5 _ _ ?side1 ?side2 ?side3 ?side4 A5.out).mono ?_);(case side1 => repeat (first|exact (Kd.C_below HR0_5.out HB.out)|(with_reducible refine cA ?_ _)|(with_reducible refine cN ?_ _)|(with_reducible refine cD ?_)));(case side2 => exact HC0_5.out);(case side3 => repeat (first|exact (Kd.C_below HR1_5.out HB.out)|(with_reducible refine cA ?_ _)|(with_reducible refine cN ?_ _)|(with_reducible refine cD ?_)));(case side4 => exact HC1_5.out);rintro e w18 ⟨rfl,hb⟩;refine ⟨_,rfl,?_⟩;have n0_ := mk0 (blk_below (by exact kX BK230.out) hb);have n1_ := mk0 (blk_below (by exact kX BK231.out) hb);have n2_ := mk0 (below_step (by repeat (first|(with_reducible first|exact HB.out|apply bA|apply bN|apply bD|refine bS ?_ GE230.out|refine bS ?_ GE231.out)|exact HB.out)) hb);clear BK230 BK231 HB;have BK230 := n0_;have BK231 := n1_;have HB := n2_;clear n0_ n1_ n2_;(try clear hb);(try clear hb2);(try clear hk);(try clear hi))|((with_reducible refine gate_dst (N := 22) rfl ?_);refine normW ?_ (by (try simp only [Act.put,List.setIfInBounds_toArray,List.set_cons_zero,List.set_cons_succ]);rfl);refine ldBox rfl 29 _ rfl gb230 6 rfl (l := [.int .i64 a0_0,.string a0_1,.int .i64 a0_2,.int .i64 a0_3,.string a0_4,.slice A0_5 l0_5.length c0_5,.int .i64 a0_6,.int .i64 a0_7,.string a0_8,.slice A0_9 l0_9.length c0_9,.int .i64 a0_10,.int .i64 a0_11,.string a0_12,.slice A0_13 l0_13.length c0_13,.int .i64 a0_14,.int .i64 a0_15,.string a0_16,.slice A0_17 l0_17.length c0_17,.slice A0_18 l0_18.length c0_18]) (tb := 50) (by exact kX BK230.out) [.int .i64 a0_6,.int .i64 a0_7,.string a0_8,.slice A0_9 l0_9.length c0_9] rfl _ hu29 (by kernel_rfl) ?_)|((with_reducible refine gate_dst (N := 24) rfl ?_);refine normW ?_ (by (try simp only [Act.put,List.setIfInBounds_toArray,List.set_cons_zero,List.set_cons_succ]);rfl);refine ldBox rfl 29 _ rfl gb231 6 rfl (l := [.int .i64 a1_0,.string a1_1,.int .i64 a1_2,.int .i64 a1_3,.string a1_4,.slice A1_5 l1_5.length c1_5,.int .i64 a1_6,.int .i64 a1_7,.string a1_8,.slice A1_9 l1_9.length c1_9,.int .i64 a1_10,.int .i64 a1_11,.string a1_12,.slice A1_13 l1_13.length c1_13,.int .i64 a1_14,.int .i64 a1_15,.string a1_16,.slice A1_17 l1_17.length c1_17,.slice A1_18 l1_18.length c1_18]) (tb := 50) (by exact kX BK231.out) [.int .i64 a1_6,.int .i64 a1_7,.string a1_8,.slice A1_9 l1_9.length c1_9] rfl _ hu29 (by kernel_rfl) ?_)|((with_reducible refine gate_callee (f := 14) rfl ?_);refine goesL_ (some 25) rfl rfl Try.func14 (by kernel_rfl) rfl #[.agg #[.int .i64 a0_6,.int .i64 a0_7,.string a0_8,.slice A0_9 l0_9.length c0_9],.agg #[.int .i64 a1_6,.int .i64 a1_7,.string a1_8,.slice A1_9 l1_9.length c1_9]] rfl (by (try simp only [List.map_toArray,List.map_cons,List.map_nil]);first|done|rfl) ?_;(with_reducible refine (laws_eqExp.calls k a0_6 a0_7 a0_8 _ _ l0_9 a1_6 a1_7 a1_8 _ _ l1_9 _ _ ?side1 ?side2 ?side3 ?side4 A7.out).mono ?_);(case side1 => repeat (first|exact (Kd.C_below HR0_9.out HB.out)|(with_reducible refine cA ?_ _)|(with_reducible refine cN ?_ _)|(with_reducible refine cD ?_)));(case side2 => exact HC0_9.out);(case side3 => repeat (first|exact (Kd.C_below HR1_9.out HB.out)|(with_reducible refine cA ?_ _)|(with_reducible refine cN ?_ _)|(with_reducible refine cD ?_)));(case side4 => exact HC1_9.out);rintro e w19 ⟨rfl,hb⟩;refine ⟨_,rfl,?_⟩;have n0_ := mk0 (blk_below (by exact kX BK230.out) hb);have n1_ := mk0 (blk_below (by exact kX BK231.out) hb);have n2_ := mk0 (below_step (by repeat (first|(with_reducible first|exact HB.out|apply bA|apply bN|apply bD|refine bS ?_ GE230.out|refine bS ?_ GE231.out)|exact HB.out)) hb);clear BK230 BK231 HB;have BK230 := n0_;have BK231 := n1_;have HB := n2_;clear n0_ n1_ n2_;(try clear hb);(try clear hb2);(try clear hk);(try clear hi))|((with_reducible refine gate_dst (N := 28) rfl ?_);refine normW ?_ (by (try simp only [Act.put,List.setIfInBounds_toArray,List.set_cons_zero,List.set_cons_succ]);rfl);refine ldBox rfl 29 _ rfl gb230 10 rfl (l := [.int .i64 a0_0,.string a0_1,.int .i64 a0_2,.int .i64 a0_3,.string a0_4,.slice A0_5 l0_5.length c0_5,.int .i64 a0_6,.int .i64 a0_7,.string a0_8,.slice A0_9 l0_9.length c0_9,.int .i64 a0_10,.int .i64 a0_11,.string a0_12,.slice A0_13 l0_13.length c0_13,.int .i64 a0_14,.int .i64 a0_15,.string a0_16,.slice A0_17 l0_17.length c0_17,.slice A0_18 l0_18.length c0_18]) (tb := 50) (by exact kX BK230.out) [.int .i64 a0_10,.int .i64 a0_11,.string a0_12,.slice A0_13 l0_13.length c0_13] rfl _ hu29 (by kernel_rfl) ?_)|((with_reducible refine gate_dst (N := 30) rfl ?_);refine normW ?_ (by (try simp only [Act.put,List.setIfInBounds_toArray,List.set_cons_zero,List.set_cons_succ]);rfl);refine ldBox rfl 29 _ rfl gb231 10 rfl (l := [.int .i64 a1_0,.string a1_1,.int .i64 a1_2,.int .i64 a1_3,.string a1_4,.slice A1_5 l1_5.length c1_5,.int .i64 a1_6,.int .i64 a1_7,.string a1_8,.slice A1_9 l1_9.length c1_9,.int .i64 a1_10,.int .i64 a1_11,.string a1_12,.slice A1_13 l1_13.length c1_13,.int .i64 a1_14,.int .i64 a1_15,.string a1_16,.slice A1_17 l1_17.length c1_17,.slice A1_18 l1_18.length c1_18]) (tb := 50) (by exact kX BK231.out) [.int .i64 a1_10,.int .i64 a1_11,.string a1_12,.slice A1_13 l1_13.length c1_13] rfl _ hu29 (by kernel_rfl) ?_)|((with_reducible refine gate_callee (f := 14) rfl ?_);refine goesL_ (some 31) rfl rfl Try.func14 (by kernel_rfl) rfl #[.agg #[.int .i64 a0_10,.int .i64 a0_11,.string a0_12,.slice A0_13 l0_13.length c0_13],.agg #[.int .i64 a1_10,.int .i64 a1_11,.string a1_12,.slice A1_13 l1_13.length c1_13]] rfl (by (try simp only [List.map_toArray,List.map_cons,List.map_nil]);first|done|rfl) ?_;(with_reducible refine (laws_eqExp.calls k a0_10 a0_11 a0_12 _ _ l0_13 a1_10 a1_11 a1_12 _ _ l1_13 _ _ ?side1 ?side2 ?side3 ?side4 A9.out).mono ?_);(case side1 => repeat (first|exact (Kd.C_below HR0_13.out HB.out)|(with_reducible refine cA ?_ _)|(with_reducible refine cN ?_ _)|(with_reducible refine cD ?_)));(case side2 => exact HC0_13.out);(case side3 => repeat (first|exact (Kd.C_below HR1_13.out HB.out)|(with_reducible refine cA ?_ _)|(with_reducible refine cN ?_ _)|(with_reducible refine cD ?_)));(case side4 => exact HC1_13.out);rintro e w20 ⟨rfl,hb⟩;refine ⟨_,rfl,?_⟩;have n0_ := mk0 (blk_below (by exact kX BK230.out) hb);have n1_ := mk0 (blk_below (by exact kX BK231.out) hb);have n2_ := mk0 (below_step (by repeat (first|(with_reducible first|exact HB.out|apply bA|apply bN|apply bD|refine bS ?_ GE230.out|refine bS ?_ GE231.out)|exact HB.out)) hb);clear BK230 BK231 HB;have BK230 := n0_;have BK231 := n1_;have HB := n2_;clear n0_ n1_ n2_;(try clear hb);(try clear hb2);(try clear hk);(try clear hi))|((with_reducible refine gate_dst (N := 34) rfl ?_);refine normW ?_ (by (try simp only [Act.put,List.setIfInBounds_toArray,List.set_cons_zero,List.set_cons_succ]);rfl);refine ldBox rfl 29 _ rfl gb230 14 rfl (l := [.int .i64 a0_0,.string a0_1,.int .i64 a0_2,.int .i64 a0_3,.string a0_4,.slice A0_5 l0_5.length c0_5,.int .i64 a0_6,.int .i64 a0_7,.string a0_8,.slice A0_9 l0_9.length c0_9,.int .i64 a0_10,.int .i64 a0_11,.string a0_12,.slice A0_13 l0_13.length c0_13,.int .i64 a0_14,.int .i64 a0_15,.string a0_16,.slice A0_17 l0_17.length c0_17,.slice A0_18 l0_18.length c0_18]) (tb := 50) (by exact kX BK230.out) [.int .i64 a0_14,.int .i64 a0_15,.string a0_16,.slice A0_17 l0_17.length c0_17] rfl _ hu29 (by kernel_rfl) ?_)|((with_reducible refine gate_dst (N := 36) rfl ?_);refine normW ?_ (by (try simp only [Act.put,List.setIfInBounds_toArray,List.set_cons_zero,List.set_cons_succ]);rfl);refine ldBox rfl 29 _ rfl gb231 14 rfl (l := [.int .i64 a1_0,.string a1_1,.int .i64 a1_2,.int .i64 a1_3,.string a1_4,.slice A1_5 l1_5.length c1_5,.int .i64 a1_6,.int .i64 a1_7,.string a1_8,.slice A1_9 l1_9.length c1_9,.int .i64 a1_10,.int .i64 a1_11,.string a1_12,.slice A1_13 l1_13.length c1_13,.int .i64 a1_14,.int .i64 a1_15,.string a1_16,.slice A1_17 l1_17.length c1_17,.slice A1_18 l1_18.length c1_18]) (tb := 50) (by exact kX BK231.out) [.int .i64 a1_14,.int .i64 a1_15,.string a1_16,.slice A1_17 l1_17.length c1_17] rfl _ hu29 (by kernel_rfl) ?_)|((with_reducible refine gate_callee (f := 14) rfl ?_);refine goesL_ (some 37) rfl rfl Try.func14 (by kernel_rfl) rfl #[.agg #[.int .i64 a0_14,.int .i64 a0_15,.string a0_16,.slice A0_17 l0_17.length c0_17],.agg #[.int .i64 a1_14,.int .i64 a1_15,.string a1_16,.slice A1_17 l1_17.length c1_17]] rfl (by (try simp only [List.map_toArray,List.map_cons,List.map_nil]);first|done|rfl) ?_;(with_reducible refine (laws_eqExp.calls k a0_14 a0_15 a0_16 _ _ l0_17 a1_14 a1_15 a1_16 _ _ l1_17 _ _ ?side1 ?side2 ?side3 ?side4 A11.out).mono ?_);(case side1 => repeat (first|exact (Kd.C_below HR0_17.out HB.out)|(with_reducible refine cA ?_ _)|(with_reducible refine cN ?_ _)|(with_reducible refine cD ?_)));(case side2 => exact HC0_17.out);(case side3 => repeat (first|exact (Kd.C_below HR1_17.out HB.out)|(with_reducible refine cA ?_ _)|(with_reducible refine cN ?_ _)|(with_reducible refine cD ?_)));(case side4 => exact HC1_17.out);rintro e w21 ⟨rfl,hb⟩;refine ⟨_,rfl,?_⟩;have n0_ := mk0 (blk_below (by exact kX BK230.out) hb);have n1_ := mk0 (blk_below (by exact kX BK231.out) hb);have n2_ := mk0 (below_step (by repeat (first|(with_reducible first|exact HB.out|apply bA|apply bN|apply bD|refine bS ?_ GE230.out|refine bS ?_ GE231.out)|exact HB.out)) hb);clear BK230 BK231 HB;have BK230 := n0_;have BK231 := n1_;have HB := n2_;clear n0_ n1_ n2_;(try clear hb);(try clear hb2);(try clear hk);(try clear hi))|((with_reducible refine gate_dst (N := 40) rfl ?_);refine normW ?_ (by (try simp only [Act.put,List.setIfInBounds_toArray,List.set_cons_zero,List.set_cons_succ]);rfl);refine ldOne rfl 48 _ rfl gb230 18 rfl (l := [.int .i64 a0_0,.string a0_1,.int .i64 a0_2,.int .i64 a0_3,.string a0_4,.slice A0_5 l0_5.length c0_5,.int .i64 a0_6,.int .i64 a0_7,.string a0_8,.slice A0_9 l0_9.length c0_9,.int .i64 a0_10,.int .i64 a0_11,.string a0_12,.slice A0_13 l0_13.length c0_13,.int .i64 a0_14,.int .i64 a0_15,.string a0_16,.slice A0_17 l0_17.length c0_17,.slice A0_18 l0_18.length c0_18]) (tb := 50) (by exact kX BK230.out) (.slice A0_18 l0_18.length c0_18) rfl (fun _ => by kernel_rfl) ?_)|((with_reducible refine gate_dst (N := 42) rfl ?_);refine normW ?_ (by (try simp only [Act.put,List.setIfInBounds_toArray,List.set_cons_zero,List.set_cons_succ]);rfl);refine ldOne rfl 48 _ rfl gb231 18 rfl (l := [.int .i64 a1_0,.string a1_1,.int .i64 a1_2,.int .i64 a1_3,.string a1_4,.slice A1_5 l1_5.length c1_5,.int .i64 a1_6,.int .i64 a1_7,.string a1_8,.slice A1_9 l1_9.length c1_9,.int .i64 a1_10,.int .i64 a1_11,.string a1_12,.slice A1_13 l1_13.length c1_13,.int .i64 a1_14,.int .i64 a1_15,.string a1_16,.slice A1_17 l1_17.length c1_17,.slice A1_18 l1_18.length c1_18]) (tb := 50) (by exact kX BK231.out) (.slice A1_18 l1_18.length c1_18) rfl (fun _ => by kernel_rfl) ?_)|((with_reducible refine gate_callee (f := 61) rfl ?_);refine goesL_ (some 43) rfl rfl Try.func61 (by kernel_rfl) rfl #[.slice A0_18 l0_18.length c0_18,.slice A1_18 l1_18.length c1_18] rfl (by (try simp only [List.map_toArray,List.map_cons,List.map_nil]);first|done|rfl) ?_;(with_reducible refine (IH.out k (by omega) _ _ l0_18 _ _ l1_18 _ _ ?side1 ?side2 ?side3 ?side4 A13.out).mono ?_);(case side1 => repeat (first|exact (Kd.C_below HR0_18.out HB.out)|(with_reducible refine cA ?_ _)|(with_reducible refine cN ?_ _)|(with_reducible refine cD ?_)));(case side2 => exact HC0_18.out);(case side3 => repeat (first|exact (Kd.C_below HR1_18.out HB.out)|(with_reducible refine cA ?_ _)|(with_reducible refine cN ?_ _)|(with_reducible refine cD ?_)));(case side4 => exact HC1_18.out);rintro e w22 ⟨rfl,hb⟩;refine ⟨_,rfl,?_⟩;have n0_ := mk0 (blk_below (by exact kX BK230.out) hb);have n1_ := mk0 (blk_below (by exact kX BK231.out) hb);have n2_ := mk0 (below_step (by repeat (first|(with_reducible first|exact HB.out|apply bA|apply bN|apply bD|refine bS ?_ GE230.out|refine bS ?_ GE231.out)|exact HB.out)) hb);clear BK230 BK231 HB;have BK230 := n0_;have BK231 := n1_;have HB := n2_;clear n0_ n1_ n2_;(try clear hb);(try clear hb2);(try clear hk);(try clear hi)))
        go_ret
        exact ⟨by first|rfl|(simp [errW_none,errW_some] <;> rfl)|(simp [*,errW_none,errW_some] <;> rfl),by repeat (first|(with_reducible first|exact HB.out|apply bA|apply bN|apply bD|refine bS ?_ GE230.out|refine bS ?_ GE231.out)|exact HB.out)⟩
      case' no19 =>
       replace c12 := Bool.eq_false_iff.mpr c12
       subst c12
       rw [if_neg (show ¬ (false = true) by decide)] at H
       obtain rfl := Option.some.inj H
     case' no18 =>
      replace c10 := Bool.eq_false_iff.mpr c10
      subst c10
      rw [if_neg (show ¬ (false = true) by decide)] at H
      obtain rfl := Option.some.inj H
     all_goals
      go_enter Try.func26,Try.ntmps26
      go_wp2_with (first|((with_reducible refine gate_dst (N := 2) rfl ?_);refine box_event ?hg (N := 2) ?hd (cs := #[.int .i64 a0_0,.string a0_1,.int .i64 a0_2,.int .i64 a0_3,.string a0_4,.slice A0_5 l0_5.length c0_5,.int .i64 a0_6,.int .i64 a0_7,.string a0_8,.slice A0_9 l0_9.length c0_9,.int .i64 a0_10,.int .i64 a0_11,.string a0_12,.slice A0_13 l0_13.length c0_13,.int .i64 a0_14,.int .i64 a0_15,.string a0_16,.slice A0_17 l0_17.length c0_17,.slice A0_18 l0_18.length c0_18]) (t := 50) ?hr ?_;(case hd => rfl);(case hg => rfl);(case hr => first|(go_simp;done)|(go_simp;rfl));intro gb230 hg w31 hbox hb;have q_ := qB (by repeat (first|(with_reducible first|exact HB.out|apply bA|apply bN|apply bD)|exact HB.out)) hb;have n0_ := mk0 (below_step q_ hb);have n1_ := mk0 (hbox);have n2_ := mk0 (below_size2 q_ hg);have n3_ := n2_;clear HB;have HB := n0_;have BK230 := n1_;have GW230 := n2_;have GE230 := n3_;clear q_ n0_ n1_ n2_ n3_ hb hbox hg)|((with_reducible refine gate_dst (N := 3) rfl ?_);refine box_event ?hg (N := 3) ?hd (cs := #[.int .i64 a1_0,.string a1_1,.int .i64 a1_2,.int .i64 a1_3,.string a1_4,.slice A1_5 l1_5.length c1_5,.int .i64 a1_6,.int .i64 a1_7,.string a1_8,.slice A1_9 l1_9.length c1_9,.int .i64 a1_10,.int .i64 a1_11,.string a1_12,.slice A1_13 l1_13.length c1_13,.int .i64 a1_14,.int .i64 a1_15,.string a1_16,.slice A1_17 l1_17.length c1_17,.slice A1_18 l1_18.length c1_18]) (t := 50) ?hr ?_;(case hd => rfl);(case hg => rfl);(case hr => first|(go_simp;done)|(go_simp;rfl));intro gb231 hg w32 hbox hb;have q_ := qB (by repeat (first|(with_reducible first|exact HB.out|apply bA|apply bN|apply bD|refine bS ?_ GE230.out)|exact HB.out)) hb;have n0_ := mk0 (blk_below (by exact kX BK230.out) hb);have n1_ := mk0 (below_step q_ hb);have n2_ := mk0 (hbox);have n3_ := mk0 (below_size2 q_ hg);have n4_ := n3_;have n5_ := mk0 ((by rw [hg];exact Nat.ne_of_lt (blk_lt (by exact kX BK230.out)) : gb230 ≠ gb231));have n6_ := mk0 ((by rw [hg];exact Nat.ne_of_gt (blk_lt (by exact kX BK230.out)) : gb231 ≠ gb230));clear BK230 HB;have BK230 := n0_;have HB := n1_;have BK231 := n2_;have GW231 := n3_;have GE231 := n4_;have NB230_231 := n5_;have NB231_230 := n6_;clear q_ n0_ n1_ n2_ n3_ n4_ n5_ n6_ hb hbox hg)|((with_reducible refine gate_dst (N := 6) rfl ?_);refine normW ?_ (by (try simp only [Act.put,List.setIfInBounds_toArray,List.set_cons_zero,List.set_cons_succ]);rfl);refine ldOne rfl 3 _ rfl gb230 0 rfl (l := [.int .i64 a0_0,.string a0_1,.int .i64 a0_2,.int .i64 a0_3,.string a0_4,.slice A0_5 l0_5.length c0_5,.int .i64 a0_6,.int .i64 a0_7,.string a0_8,.slice A0_9 l0_9.length c0_9,.int .i64 a0_10,.int .i64 a0_11,.string a0_12,.slice A0_13 l0_13.length c0_13,.int .i64 a0_14,.int .i64 a0_15,.string a0_16,.slice A0_17 l0_17.length c0_17,.slice A0_18 l0_18.length c0_18]) (tb := 50) (by exact kX BK230.out) (.int .i64 a0_0) rfl (fun _ => by kernel_rfl) ?_;have hnb33 := NB230_231.out;have hnc33 := NB231_230.out)|((with_reducible refine gate_dst (N := 8) rfl ?_);refine normW ?_ (by (try simp only [Act.put,List.setIfInBounds_toArray,List.set_cons_zero,List.set_cons_succ]);rfl);refine ldOne rfl 3 _ rfl gb231 0 rfl (l := [.int .i64 a1_0,.string a1_1,.int .i64 a1_2,.int .i64 a1_3,.string a1_4,.slice A1_5 l1_5.length c1_5,.int .i64 a1_6,.int .i64 a1_7,.string a1_8,.slice A1_9 l1_9.length c1_9,.int .i64 a1_10,.int .i64 a1_11,.string a1_12,.slice A1_13 l1_13.length c1_13,.int .i64 a1_14,.int .i64 a1_15,.string a1_16,.slice A1_17 l1_17.length c1_17,.slice A1_18 l1_18.length c1_18]) (tb := 50) (by exact kX BK231.out) (.int .i64 a1_0) rfl (fun _ => by kernel_rfl) ?_)|((with_reducible refine gate_dst (N := 11) rfl ?_);refine normW ?_ (by (try simp only [Act.put,List.setIfInBounds_toArray,List.set_cons_zero,List.set_cons_succ]);rfl);refine ldOne rfl 9 _ rfl gb230 1 rfl (l := [.int .i64 a0_0,.string a0_1,.int .i64 a0_2,.int .i64 a0_3,.string a0_4,.slice A0_5 l0_5.length c0_5,.int .i64 a0_6,.int .i64 a0_7,.string a0_8,.slice A0_9 l0_9.length c0_9,.int .i64 a0_10,.int .i64 a0_11,.string a0_12,.slice A0_13 l0_13.length c0_13,.int .i64 a0_14,.int .i64 a0_15,.string a0_16,.slice A0_17 l0_17.length c0_17,.slice A0_18 l0_18.length c0_18]) (tb := 50) (by exact kX BK230.out) (.string a0_1) rfl (fun _ => by kernel_rfl) ?_)|((with_reducible refine gate_dst (N := 13) rfl ?_);refine normW ?_ (by (try simp only [Act.put,List.setIfInBounds_toArray,List.set_cons_zero,List.set_cons_succ]);rfl);refine ldOne rfl 9 _ rfl gb231 1 rfl (l := [.int .i64 a1_0,.string a1_1,.int .i64 a1_2,.int .i64 a1_3,.string a1_4,.slice A1_5 l1_5.length c1_5,.int .i64 a1_6,.int .i64 a1_7,.string a1_8,.slice A1_9 l1_9.length c1_9,.int .i64 a1_10,.int .i64 a1_11,.string a1_12,.slice A1_13 l1_13.length c1_13,.int .i64 a1_14,.int .i64 a1_15,.string a1_16,.slice A1_17 l1_17.length c1_17,.slice A1_18 l1_18.length c1_18]) (tb := 50) (by exact kX BK231.out) (.string a1_1) rfl (fun _ => by kernel_rfl) ?_)|((with_reducible refine gate_dst (N := 16) rfl ?_);refine normW ?_ (by (try simp only [Act.put,List.setIfInBounds_toArray,List.set_cons_zero,List.set_cons_succ]);rfl);refine ldBox rfl 29 _ rfl gb230 2 rfl (l := [.int .i64 a0_0,.string a0_1,.int .i64 a0_2,.int .i64 a0_3,.string a0_4,.slice A0_5 l0_5.length c0_5,.int .i64 a0_6,.int .i64 a0_7,.string a0_8,.slice A0_9 l0_9.length c0_9,.int .i64 a0_10,.int .i64 a0_11,.string a0_12,.slice A0_13 l0_13.length c0_13,.int .i64 a0_14,.int .i64 a0_15,.string a0_16,.slice A0_17 l0_17.length c0_17,.slice A0_18 l0_18.length c0_18]) (tb := 50) (by exact kX BK230.out) [.int .i64 a0_2,.int .i64 a0_3,.string a0_4,.slice A0_5 l0_5.length c0_5] rfl _ hu29 (by kernel_rfl) ?_)|((with_reducible refine gate_dst (N := 18) rfl ?_);refine normW ?_ (by (try simp only [Act.put,List.setIfInBounds_toArray,List.set_cons_zero,List.set_cons_succ]);rfl);refine ldBox rfl 29 _ rfl gb231 2 rfl (l := [.int .i64 a1_0,.string a1_1,.int .i64 a1_2,.int .i64 a1_3,.string a1_4,.slice A1_5 l1_5.length c1_5,.int .i64 a1_6,.int .i64 a1_7,.string a1_8,.slice A1_9 l1_9.length c1_9,.int .i64 a1_10,.int .i64 a1_11,.string a1_12,.slice A1_13 l1_13.length c1_13,.int .i64 a1_14,.int .i64 a1_15,.string a1_16,.slice A1_17 l1_17.length c1_17,.slice A1_18 l1_18.length c1_18]) (tb := 50) (by exact kX BK231.out) [.int .i64 a1_2,.int .i64 a1_3,.string a1_4,.slice A1_5 l1_5.length c1_5] rfl _ hu29 (by kernel_rfl) ?_)|((with_reducible refine gate_callee (f := 14) rfl ?_);refine goesL_ (some 19) rfl rfl Try.func14 (by kernel_rfl) rfl #[.agg #[.int .i64 a0_2,.int .i64 a0_3,.string a0_4,.slice A0_5 l0_5.length c0_5],.agg #[.int .i64 a1_2,.int .i64 a1_3,.string a1_4,.slice A1_5 l1_5.length c1_5]] rfl (by (try simp only [List.map_toArray,List.map_cons,List.map_nil]);first|done|rfl) ?_;(with_reducible refine (laws_eqExp.calls k a0_2 a0_3 a0_4 _ _ l0_5 a1_2 a1_3 a1_4 _ _ l1_5 _ _ ?side1 ?side2 ?side3 ?side4 A5.out).mono ?_);(case side1 => repeat (first|exact (Kd.C_below HR0_5.out HB.out)|(with_reducible refine cA ?_ _)|(with_reducible refine cN ?_ _)|(with_reducible refine cD ?_)));(case side2 => exact HC0_5.out);(case side3 => repeat (first|exact (Kd.C_below HR1_5.out HB.out)|(with_reducible refine cA ?_ _)|(with_reducible refine cN ?_ _)|(with_reducible refine cD ?_)));(case side4 => exact HC1_5.out);rintro e w34 ⟨rfl,hb⟩;refine ⟨_,rfl,?_⟩;have n0_ := mk0 (blk_below (by exact kX BK230.out) hb);have n1_ := mk0 (blk_below (by exact kX BK231.out) hb);have n2_ := mk0 (below_step (by repeat (first|(with_reducible first|exact HB.out|apply bA|apply bN|apply bD|refine bS ?_ GE230.out|refine bS ?_ GE231.out)|exact HB.out)) hb);clear BK230 BK231 HB;have BK230 := n0_;have BK231 := n1_;have HB := n2_;clear n0_ n1_ n2_;(try clear hb);(try clear hb2);(try clear hk);(try clear hi))|((with_reducible refine gate_dst (N := 22) rfl ?_);refine normW ?_ (by (try simp only [Act.put,List.setIfInBounds_toArray,List.set_cons_zero,List.set_cons_succ]);rfl);refine ldBox rfl 29 _ rfl gb230 6 rfl (l := [.int .i64 a0_0,.string a0_1,.int .i64 a0_2,.int .i64 a0_3,.string a0_4,.slice A0_5 l0_5.length c0_5,.int .i64 a0_6,.int .i64 a0_7,.string a0_8,.slice A0_9 l0_9.length c0_9,.int .i64 a0_10,.int .i64 a0_11,.string a0_12,.slice A0_13 l0_13.length c0_13,.int .i64 a0_14,.int .i64 a0_15,.string a0_16,.slice A0_17 l0_17.length c0_17,.slice A0_18 l0_18.length c0_18]) (tb := 50) (by exact kX BK230.out) [.int .i64 a0_6,.int .i64 a0_7,.string a0_8,.slice A0_9 l0_9.length c0_9] rfl _ hu29 (by kernel_rfl) ?_)|((with_reducible refine gate_dst (N := 24) rfl ?_);refine normW ?_ (by (try simp only [Act.put,List.setIfInBounds_toArray,List.set_cons_zero,List.set_cons_succ]);rfl);refine ldBox rfl 29 _ rfl gb231 6 rfl (l := [.int .i64 a1_0,.string a1_1,.int .i64 a1_2,.int .i64 a1_3,.string a1_4,.slice A1_5 l1_5.length c1_5,.int .i64 a1_6,.int .i64 a1_7,.string a1_8,.slice A1_9 l1_9.length c1_9,.int .i64 a1_10,.int .i64 a1_11,.string a1_12,.slice A1_13 l1_13.length c1_13,.int .i64 a1_14,.int .i64 a1_15,.string a1_16,.slice A1_17 l1_17.length c1_17,.slice A1_18 l1_18.length c1_18]) (tb := 50) (by exact kX BK231.out) [.int .i64 a1_6,.int .i64 a1_7,.string a1_8,.slice A1_9 l1_9.length c1_9] rfl _ hu29 (by kernel_rfl) ?_)|((with_reducible refine gate_callee (f := 14) rfl ?_);refine goesL_ (some 25) rfl rfl Try.func14 (by kernel_rfl) rfl #[.agg #[.int .i64 a0_6,.int .i64 a0_7,.string a0_8,.slice A0_9 l0_9.length c0_9],.agg #[.int .i64 a1_6,.int .i64 a1_7,.string a1_8,.slice A1_9 l1_9.length c1_9]] rfl (by (try simp only [List.map_toArray,List.map_cons,List.map_nil]);first|done|rfl) ?_;(with_reducible refine (laws_eqExp.calls k a0_6 a0_7 a0_8 _ _ l0_9 a1_6 a1_7 a1_8 _ _ l1_9 _ _ ?side1 ?side2 ?side3 ?side4 A7.out).mono ?_);(case side1 => repeat (first|exact (Kd.C_below HR0_9.out HB.out)|(with_reducible refine cA ?_ _)|(with_reducible refine cN ?_ _)|(with_reducible refine cD ?_)));(case side2 => exact HC0_9.out);(case side3 => repeat (first|exact (Kd.C_below HR1_9.out HB.out)|(with_reducible refine cA ?_ _)|(with_reducible refine cN ?_ _)|(with_reducible refine cD ?_)));(case side4 => exact HC1_9.out);rintro e w35 ⟨rfl,hb⟩;refine ⟨_,rfl,?_⟩;have n0_ := mk0 (blk_below (by exact kX BK230.out) hb);have n1_ := mk0 (blk_below (by exact kX BK231.out) hb);have n2_ := mk0 (below_step (by repeat (first|(with_reducible first|exact HB.out|apply bA|apply bN|apply bD|refine bS ?_ GE230.out|refine bS ?_ GE231.out)|exact HB.out)) hb);clear BK230 BK231 HB;have BK230 := n0_;have BK231 := n1_;have HB := n2_;clear n0_ n1_ n2_;(try clear hb);(try clear hb2);(try clear hk);(try clear hi))|((with_reducible refine gate_dst (N := 28) rfl ?_);refine normW ?_ (by (try simp only [Act.put,List.setIfInBounds_toArray,List.set_cons_zero,List.set_cons_succ]);rfl);refine ldBox rfl 29 _ rfl gb230 10 rfl (l := [.int .i64 a0_0,.string a0_1,.int .i64 a0_2,.int .i64 a0_3,.string a0_4,.slice A0_5 l0_5.length c0_5,.int .i64 a0_6,.int .i64 a0_7,.string a0_8,.slice A0_9 l0_9.length c0_9,.int .i64 a0_10,.int .i64 a0_11,.string a0_12,.slice A0_13 l0_13.length c0_13,.int .i64 a0_14,.int .i64 a0_15,.string a0_16,.slice A0_17 l0_17.length c0_17,.slice A0_18 l0_18.length c0_18]) (tb := 50) (by exact kX BK230.out) [.int .i64 a0_10,.int .i64 a0_11,.string a0_12,.slice A0_13 l0_13.length c0_13] rfl _ hu29 (by kernel_rfl) ?_)|((with_reducible refine gate_dst (N := 30) rfl ?_);refine normW ?_ (by (try simp only [Act.put,List.setIfInBounds_toArray,List.set_cons_zero,List.set_cons_succ]);rfl);refine ldBox rfl 29 _ rfl gb231 10 rfl (l := [.int .i64 a1_0,.string a1_1,.int .i64 a1_2,.int .i64 a1_3,.string a1_4,.slice A1_5 l1_5.length c1_5,.int .i64 a1_6,.int .i64 a1_7,.string a1_8,.slice A1_9 l1_9.length c1_9,.int .i64 a1_10,.int .i64 a1_11,.string a1_12,.slice A1_13 l1_13.length c1_13,.int .i64 a1_14,.int .i64 a1_15,.string a1_16,.slice A1_17 l1_17.length c1_17,.slice A1_18 l1_18.length c1_18]) (tb := 50) (by exact kX BK231.out) [.int .i64 a1_10,.int .i64 a1_11,.string a1_12,.slice A1_13 l1_13.length c1_13] rfl _ hu29 (by kernel_rfl) ?_)|((with_reducible refine gate_callee (f := 14) rfl ?_);refine goesL_ (some 31) rfl rfl Try.func14 (by kernel_rfl) rfl #[.agg #[.int .i64 a0_10,.int .i64 a0_11,.string a0_12,.slice A0_13 l0_13.length c0_13],.agg #[.int .i64 a1_10,.int .i64 a1_11,.string a1_12,.slice A1_13 l1_13.length c1_13]] rfl (by (try simp only [List.map_toArray,List.map_cons,List.map_nil]);first|done|rfl) ?_;(with_reducible refine (laws_eqExp.calls k a0_10 a0_11 a0_12 _ _ l0_13 a1_10 a1_11 a1_12 _ _ l1_13 _ _ ?side1 ?side2 ?side3 ?side4 A9.out).mono ?_);(case side1 => repeat (first|exact (Kd.C_below HR0_13.out HB.out)|(with_reducible refine cA ?_ _)|(with_reducible refine cN ?_ _)|(with_reducible refine cD ?_)));(case side2 => exact HC0_13.out);(case side3 => repeat (first|exact (Kd.C_below HR1_13.out HB.out)|(with_reducible refine cA ?_ _)|(with_reducible refine cN ?_ _)|(with_reducible refine cD ?_)));(case side4 => exact HC1_13.out);rintro e w36 ⟨rfl,hb⟩;refine ⟨_,rfl,?_⟩;have n0_ := mk0 (blk_below (by exact kX BK230.out) hb);have n1_ := mk0 (blk_below (by exact kX BK231.out) hb);have n2_ := mk0 (below_step (by repeat (first|(with_reducible first|exact HB.out|apply bA|apply bN|apply bD|refine bS ?_ GE230.out|refine bS ?_ GE231.out)|exact HB.out)) hb);clear BK230 BK231 HB;have BK230 := n0_;have BK231 := n1_;have HB := n2_;clear n0_ n1_ n2_;(try clear hb);(try clear hb2);(try clear hk);(try clear hi))|((with_reducible refine gate_dst (N := 34) rfl ?_);refine normW ?_ (by (try simp only [Act.put,List.setIfInBounds_toArray,List.set_cons_zero,List.set_cons_succ]);rfl);refine ldBox rfl 29 _ rfl gb230 14 rfl (l := [.int .i64 a0_0,.string a0_1,.int .i64 a0_2,.int .i64 a0_3,.string a0_4,.slice A0_5 l0_5.length c0_5,.int .i64 a0_6,.int .i64 a0_7,.string a0_8,.slice A0_9 l0_9.length c0_9,.int .i64 a0_10,.int .i64 a0_11,.string a0_12,.slice A0_13 l0_13.length c0_13,.int .i64 a0_14,.int .i64 a0_15,.string a0_16,.slice A0_17 l0_17.length c0_17,.slice A0_18 l0_18.length c0_18]) (tb := 50) (by exact kX BK230.out) [.int .i64 a0_14,.int .i64 a0_15,.string a0_16,.slice A0_17 l0_17.length c0_17] rfl _ hu29 (by kernel_rfl) ?_)|((with_reducible refine gate_dst (N := 36) rfl ?_);refine normW ?_ (by (try simp only [Act.put,List.setIfInBounds_toArray,List.set_cons_zero,List.set_cons_succ]);rfl);refine ldBox rfl 29 _ rfl gb231 14 rfl (l := [.int .i64 a1_0,.string a1_1,.int .i64 a1_2,.int .i64 a1_3,.string a1_4,.slice A1_5 l1_5.length c1_5,.int .i64 a1_6,.int .i64 a1_7,.string a1_8,.slice A1_9 l1_9.length c1_9,.int .i64 a1_10,.int .i64 a1_11,.string a1_12,.slice A1_13 l1_13.length c1_13,.int .i64 a1_14,.int .i64 a1_15,.string a1_16,.slice A1_17 l1_17.length c1_17,.slice A1_18 l1_18.length c1_18]) (tb := 50) (by exact kX BK231.out) [.int .i64 a1_14,.int .i64 a1_15,.string a1_16,.slice A1_17 l1_17.length c1_17] rfl _ hu29 (by kernel_rfl) ?_)|((with_reducible refine gate_callee (f := 14) rfl ?_);refine goesL_ (some 37) rfl rfl Try.func14 (by kernel_rfl) rfl #[.agg #[.int .i64 a0_14,.int .i64 a0_15,.string a0_16,.slice A0_17 l0_17.length c0_17],.agg #[.int .i64 a1_14,.int .i64 a1_15,.string a1_16,.slice A1_17 l1_17.length c1_17]] rfl (by (try simp only [List.map_toArray,List.map_cons,List.map_nil]);first|done|rfl) ?_;(with_reducible refine (laws_eqExp.calls k a0_14 a0_15 a0_16 _ _ l0_17 a1_14 a1_15 a1_16 _ _ l1_17 _ _ ?side1 ?side2 ?side3 ?side4 A11.out).mono ?_);(case side1 => repeat (first|exact (Kd.C_below HR0_17.out HB.out)|(with_reducible refine cA ?_ _)|(with_reducible refine cN ?_ _)|(with_reducible refine cD ?_)));(case side2 => exact HC0_17.out);(case side3 => repeat (first|exact (Kd.C_below HR1_17.out HB.out)|(with_reducible refine cA ?_ _)|(with_reducible refine cN ?_ _)|(with_reducible refine cD ?_)));(case side4 => exact HC1_17.out);rintro e w37 ⟨rfl,hb⟩;refine ⟨_,rfl,?_⟩;have n0_ := mk0 (blk_below (by exact kX BK230.out) hb);have n1_ := mk0 (blk_below (by exact kX BK231.out) hb);have n2_ := mk0 (below_step (by repeat (first|(with_reducible first|exact HB.out|apply bA|apply bN|apply bD|refine bS ?_ GE230.out|refine bS ?_ GE231.out)|exact HB.out)) hb);clear BK230 BK231 HB;have BK230 := n0_;have BK231 := n1_;have HB := n2_;clear n0_ n1_ n2_;(try clear hb);(try clear hb2);(try clear hk);(try clear hi)))
      go_ret
      exact ⟨by first|rfl|(simp [errW_none,errW_some] <;> rfl)|(simp [*,errW_none,errW_some] <;> rfl),by repeat (first|(with_reducible first|exact HB.out|apply bA|apply bN|apply bD|refine bS ?_ GE230.out|refine bS ?_ GE231.out)|exact HB.out)⟩
    case' no21 =>
     replace c8 := Bool.eq_false_iff.mpr c8
     subst c8
     rw [if_neg (show ¬ (false = true) by decide)] at H
     obtain rfl := Option.some.inj H
   case' no20 =>
    replace c6 := Bool.eq_false_iff.mpr c6
    subst c6
    rw [if_neg (show ¬ (false = true) by decide)] at H
    obtain rfl := Option.some.inj H
   all_goals
    go_enter Try.func26,Try.ntmps26
    go_wp2_with (first|((with_reducible refine gate_dst (N := 2) rfl ?_);refine box_event ?hg (N := 2) ?hd (cs := #[.int .i64 a0_0,.string a0_1,.int .i64 a0_2,.int .i64 a0_3,.string a0_4,.slice A0_5 l0_5.length c0_5,.int .i64 a0_6,.int .i64 a0_7,.string a0_8,.slice A0_9 l0_9.length c0_9,.int .i64 a0_10,.int .i64 a0_11,.string a0_12,.slice A0_13 l0_13.length c0_13,.int .i64 a0_14,.int .i64 a0_15,.string a0_16,.slice A0_17 l0_17.length c0_17,.slice A0_18 l0_18.length c0_18]) (t := 50) ?hr ?_;(case hd => rfl);(case hg => rfl);(case hr => first|(go_simp;done)|(go_simp;rfl));intro gb230 hg w44 hbox hb;have q_ := qB (by repeat (first|(with_reducible first|exact HB.out|apply bA|apply bN|apply bD)|exact HB.out)) hb;have n0_ := mk0 (below_step q_ hb);have n1_ := mk0 (hbox);have n2_ := mk0 (below_size2 q_ hg);have n3_ := n2_;clear HB;have HB := n0_;have BK230 := n1_;have GW230 := n2_;have GE230 := n3_;clear q_ n0_ n1_ n2_ n3_ hb hbox hg)|((with_reducible refine gate_dst (N := 3) rfl ?_);refine box_event ?hg (N := 3) ?hd (cs := #[.int .i64 a1_0,.string a1_1,.int .i64 a1_2,.int .i64 a1_3,.string a1_4,.slice A1_5 l1_5.length c1_5,.int .i64 a1_6,.int .i64 a1_7,.string a1_8,.slice A1_9 l1_9.length c1_9,.int .i64 a1_10,.int .i64 a1_11,.string a1_12,.slice A1_13 l1_13.length c1_13,.int .i64 a1_14,.int .i64 a1_15,.string a1_16,.slice A1_17 l1_17.length c1_17,.slice A1_18 l1_18.length c1_18]) (t := 50) ?hr ?_;(case hd => rfl);(case hg => rfl);(case hr => first|(go_simp;done)|(go_simp;rfl));intro gb231 hg w45 hbox hb;have q_ := qB (by repeat (first|(with_reducible first|exact HB.out|apply bA|apply bN|apply bD|refine bS ?_ GE230.out)|exact HB.out)) hb;have n0_ := mk0 (blk_below (by exact kX BK230.out) hb);have n1_ := mk0 (below_step q_ hb);have n2_ := mk0 (hbox);have n3_ := mk0 (below_size2 q_ hg);have n4_ := n3_;have n5_ := mk0 ((by rw [hg];exact Nat.ne_of_lt (blk_lt (by exact kX BK230.out)) : gb230 ≠ gb231));have n6_ := mk0 ((by rw [hg];exact Nat.ne_of_gt (blk_lt (by exact kX BK230.out)) : gb231 ≠ gb230));clear BK230 HB;have BK230 := n0_;have HB := n1_;have BK231 := n2_;have GW231 := n3_;have GE231 := n4_;have NB230_231 := n5_;have NB231_230 := n6_;clear q_ n0_ n1_ n2_ n3_ n4_ n5_ n6_ hb hbox hg)|((with_reducible refine gate_dst (N := 6) rfl ?_);refine normW ?_ (by (try simp only [Act.put,List.setIfInBounds_toArray,List.set_cons_zero,List.set_cons_succ]);rfl);refine ldOne rfl 3 _ rfl gb230 0 rfl (l := [.int .i64 a0_0,.string a0_1,.int .i64 a0_2,.int .i64 a0_3,.string a0_4,.slice A0_5 l0_5.length c0_5,.int .i64 a0_6,.int .i64 a0_7,.string a0_8,.slice A0_9 l0_9.length c0_9,.int .i64 a0_10,.int .i64 a0_11,.string a0_12,.slice A0_13 l0_13.length c0_13,.int .i64 a0_14,.int .i64 a0_15,.string a0_16,.slice A0_17 l0_17.length c0_17,.slice A0_18 l0_18.length c0_18]) (tb := 50) (by exact kX BK230.out) (.int .i64 a0_0) rfl (fun _ => by kernel_rfl) ?_;have hnb46 := NB230_231.out;have hnc46 := NB231_230.out)|((with_reducible refine gate_dst (N := 8) rfl ?_);refine normW ?_ (by (try simp only [Act.put,List.setIfInBounds_toArray,List.set_cons_zero,List.set_cons_succ]);rfl);refine ldOne rfl 3 _ rfl gb231 0 rfl (l := [.int .i64 a1_0,.string a1_1,.int .i64 a1_2,.int .i64 a1_3,.string a1_4,.slice A1_5 l1_5.length c1_5,.int .i64 a1_6,.int .i64 a1_7,.string a1_8,.slice A1_9 l1_9.length c1_9,.int .i64 a1_10,.int .i64 a1_11,.string a1_12,.slice A1_13 l1_13.length c1_13,.int .i64 a1_14,.int .i64 a1_15,.string a1_16,.slice A1_17 l1_17.length c1_17,.slice A1_18 l1_18.length c1_18]) (tb := 50) (by exact kX BK231.out) (.int .i64 a1_0) rfl (fun _ => by kernel_rfl) ?_)|((with_reducible refine gate_dst (N := 11) rfl ?_);refine normW ?_ (by (try simp only [Act.put,List.setIfInBounds_toArray,List.set_cons_zero,List.set_cons_succ]);rfl);refine ldOne rfl 9 _ rfl gb230 1 rfl (l := [.int .i64 a0_0,.string a0_1,.int .i64 a0_2,.int .i64 a0_3,.string a0_4,.slice A0_5 l0_5.length c0_5,.int .i64 a0_6,.int .i64 a0_7,.string a0_8,.slice A0_9 l0_9.length c0_9,.int .i64 a0_10,.int .i64 a0_11,.string a0_12,.slice A0_13 l0_13.length c0_13,.int .i64 a0_14,.int .i64 a0_15,.string a0_16,.slice A0_17 l0_17.length c0_17,.slice A0_18 l0_18.length c0_18]) (tb := 50) (by exact kX BK230.out) (.string a0_1) rfl (fun _ => by kernel_rfl) ?_)|((with_reducible refine gate_dst (N := 13) rfl ?_);refine normW ?_ (by (try simp only [Act.put,List.setIfInBounds_toArray,List.set_cons_zero,List.set_cons_succ]);rfl);refine ldOne rfl 9 _ rfl gb231 1 rfl (l := [.int .i64 a1_0,.string a1_1,.int .i64 a1_2,.int .i64 a1_3,.string a1_4,.slice A1_5 l1_5.length c1_5,.int .i64 a1_6,.int .i64 a1_7,.string a1_8,.slice A1_9 l1_9.length c1_9,.int .i64 a1_10,.int .i64 a1_11,.string a1_12,.slice A1_13 l1_13.length c1_13,.int .i64 a1_14,.int .i64 a1_15,.string a1_16,.slice A1_17 l1_17.length c1_17,.slice A1_18 l1_18.length c1_18]) (tb := 50) (by exact kX BK231.out) (.string a1_1) rfl (fun _ => by kernel_rfl) ?_)|((with_reducible refine gate_dst (N := 16) rfl ?_);refine normW ?_ (by (try simp only [Act.put,List.setIfInBounds_toArray,List.set_cons_zero,List.set_cons_succ]);rfl);refine ldBox rfl 29 _ rfl gb230 2 rfl (l := [.int .i64 a0_0,.string a0_1,.int .i64 a0_2,.int .i64 a0_3,.string a0_4,.slice A0_5 l0_5.length c0_5,.int .i64 a0_6,.int .i64 a0_7,.string a0_8,.slice A0_9 l0_9.length c0_9,.int .i64 a0_10,.int .i64 a0_11,.string a0_12,.slice A0_13 l0_13.length c0_13,.int .i64 a0_14,.int .i64 a0_15,.string a0_16,.slice A0_17 l0_17.length c0_17,.slice A0_18 l0_18.length c0_18]) (tb := 50) (by exact kX BK230.out) [.int .i64 a0_2,.int .i64 a0_3,.string a0_4,.slice A0_5 l0_5.length c0_5] rfl _ hu29 (by kernel_rfl) ?_)|((with_reducible refine gate_dst (N := 18) rfl ?_);refine normW ?_ (by (try simp only [Act.put,List.setIfInBounds_toArray,List.set_cons_zero,List.set_cons_succ]);rfl);refine ldBox rfl 29 _ rfl gb231 2 rfl (l := [.int .i64 a1_0,.string a1_1,.int .i64 a1_2,.int .i64 a1_3,.string a1_4,.slice A1_5 l1_5.length c1_5,.int .i64 a1_6,.int .i64 a1_7,.string a1_8,.slice A1_9 l1_9.length c1_9,.int .i64 a1_10,.int .i64 a1_11,.string a1_12,.slice A1_13 l1_13.length c1_13,.int .i64 a1_14,.int .i64 a1_15,.string a1_16,.slice A1_17 l1_17.length c1_17,.slice A1_18 l1_18.length c1_18]) (tb := 50) (by exact kX BK231.out) [.int .i64 a1_2,.int .i64 a1_3,.string a1_4,.slice A1_5 l1_5.length c1_5] rfl _ hu29 (by kernel_rfl) ?_)|((with_reducible refine gate_callee (f := 14) rfl ?_);refine goesL_ (some 19) rfl rfl Try.func14 (by kernel_rfl) rfl #[.agg #[.int .i64 a0_2,.int .i64 a0_3,.string a0_4,.slice A0_5 l0_5.length c0_5],.agg #[.int .i64 a1_2,.int .i64 a1_3,.string a1_4,.slice A1_5 l1_5.length c1_5]] rfl (by (try simp only [List.map_toArray,List.map_cons,List.map_nil]);first|done|rfl) ?_;(with_reducible refine (laws_eqExp.calls k a0_2 a0_3 a0_4 _ _ l0_5 a1_2 a1_3 a1_4 _ _ l1_5 _ _ ?side1 ?side2 ?side3 ?side4 A5.out).mono ?_);(case side1 => repeat (first|exact (Kd.C_below HR0_5.out HB.out)|(with_reducible refine cA ?_ _)|(with_reducible refine cN ?_ _)|(with_reducible refine cD ?_)));(case side2 => exact HC0_5.out);(case side3 => repeat (first|exact (Kd.C_below HR1_5.out HB.out)|(with_reducible refine cA ?_ _)|(with_reducible refine cN ?_ _)|(with_reducible refine cD ?_)));(case side4 => exact HC1_5.out);rintro e w47 ⟨rfl,hb⟩;refine ⟨_,rfl,?_⟩;have n0_ := mk0 (blk_below (by exact kX BK230.out) hb);have n1_ := mk0 (blk_below (by exact kX BK231.out) hb);have n2_ := mk0 (below_step (by repeat (first|(with_reducible first|exact HB.out|apply bA|apply bN|apply bD|refine bS ?_ GE230.out|refine bS ?_ GE231.out)|exact HB.out)) hb);clear BK230 BK231 HB;have BK230 := n0_;have BK231 := n1_;have HB := n2_;clear n0_ n1_ n2_;(try clear hb);(try clear hb2);(try clear hk);(try clear hi))|((with_reducible refine gate_dst (N := 22) rfl ?_);refine normW ?_ (by (try simp only [Act.put,List.setIfInBounds_toArray,List.set_cons_zero,List.set_cons_succ]);rfl);refine ldBox rfl 29 _ rfl gb230 6 rfl (l := [.int .i64 a0_0,.string a0_1,.int .i64 a0_2,.int .i64 a0_3,.string a0_4,.slice A0_5 l0_5.length c0_5,.int .i64 a0_6,.int .i64 a0_7,.string a0_8,.slice A0_9 l0_9.length c0_9,.int .i64 a0_10,.int .i64 a0_11,.string a0_12,.slice A0_13 l0_13.length c0_13,.int .i64 a0_14,.int .i64 a0_15,.string a0_16,.slice A0_17 l0_17.length c0_17,.slice A0_18 l0_18.length c0_18]) (tb := 50) (by exact kX BK230.out) [.int .i64 a0_6,.int .i64 a0_7,.string a0_8,.slice A0_9 l0_9.length c0_9] rfl _ hu29 (by kernel_rfl) ?_)|((with_reducible refine gate_dst (N := 24) rfl ?_);refine normW ?_ (by (try simp only [Act.put,List.setIfInBounds_toArray,List.set_cons_zero,List.set_cons_succ]);rfl);refine ldBox rfl 29 _ rfl gb231 6 rfl (l := [.int .i64 a1_0,.string a1_1,.int .i64 a1_2,.int .i64 a1_3,.string a1_4,.slice A1_5 l1_5.length c1_5,.int .i64 a1_6,.int .i64 a1_7,.string a1_8,.slice A1_9 l1_9.length c1_9,.int .i64 a1_10,.int .i64 a1_11,.string a1_12,.slice A1_13 l1_13.length c1_13,.int .i64 a1_14,.int .i64 a1_15,.string a1_16,.slice A1_17 l1_17.length c1_17,.slice A1_18 l1_18.length c1_18]) (tb := 50) (by exact kX BK231.out) [.int .i64 a1_6,.int .i64 a1_7,.string a1_8,.slice A1_9 l1_9.length c1_9] rfl _ hu29 (by kernel_rfl) ?_)|((with_reducible refine gate_callee (f := 14) rfl ?_);refine goesL_ (some 25) rfl rfl Try.func14 (by kernel_rfl) rfl #[.agg #[.int .i64 a0_6,.int .i64 a0_7,.string a0_8,.slice A0_9 l0_9.length c0_9],.agg #[.int .i64 a1_6,.int .i64 a1_7,.string a1_8,.slice A1_9 l1_9.length c1_9]] rfl (by (try simp only [List.map_toArray,List.map_cons,List.map_nil]);first|done|rfl) ?_;(with_reducible refine (laws_eqExp.calls k a0_6 a0_7 a0_8 _ _ l0_9 a1_6 a1_7 a1_8 _ _ l1_9 _ _ ?side1 ?side2 ?side3 ?side4 A7.out).mono ?_);(case side1 => repeat (first|exact (Kd.C_below HR0_9.out HB.out)|(with_reducible refine cA ?_ _)|(with_reducible refine cN ?_ _)|(with_reducible refine cD ?_)));(case side2 => exact HC0_9.out);(case side3 => repeat (first|exact (Kd.C_below HR1_9.out HB.out)|(with_reducible refine cA ?_ _)|(with_reducible refine cN ?_ _)|(with_reducible refine cD ?_)));(case side4 => exact HC1_9.out);rintro e w48 ⟨rfl,hb⟩;refine ⟨_,rfl,?_⟩;have n0_ := mk0 (blk_below (by exact kX BK230.out) hb);have n1_ := mk0 (blk_below (by exact kX BK231.out) hb);have n2_ := mk0 (below_step (by repeat (first|(with_reducible first|exact HB.out|apply bA|apply bN|apply bD|refine bS ?_ GE230.out|refine bS ?_ GE231.out)|exact HB.out)) hb);clear BK230 BK231 HB;have BK230 := n0_;have BK231 := n1_;have HB := n2_;clear n0_ n1_ n2_;(try clear hb);(try clear hb2);(try clear hk);(try clear hi)))
    go_ret
    exact ⟨by first|rfl|(simp [errW_none,errW_some] <;> rfl)|(simp [*,errW_none,errW_some] <;> rfl),by repeat (first|(with_reducible first|exact HB.out|apply bA|apply bN|apply bD|refine bS ?_ GE230.out|refine bS ?_ GE231.out)|exact HB.out)⟩
  case' no23 =>
   rw [if_neg c4] at H
   have c4b0 : (a0_1.toList == a1_1.toList) = false := beq_eq_false_iff_ne.mpr c4
   have c4b1 : (a0_1.toList != a1_1.toList) = true := bne_iff_ne.mpr c4
   obtain rfl := Option.some.inj H
 case' no22 =>
  rw [if_neg c3] at H
  have c3b0 : (a0_0 == a1_0) = false := beq_eq_false_iff_ne.mpr c3
  have c3b1 : (a0_0 != a1_0) = true := bne_iff_ne.mpr c3
  obtain rfl := Option.some.inj H
 all_goals
  go_enter Try.func26,Try.ntmps26
  go_wp2_with (first|((with_reducible refine gate_dst (N := 2) rfl ?_);refine box_event ?hg (N := 2) ?hd (cs := #[.int .i64 a0_0,.string a0_1,.int .i64 a0_2,.int .i64 a0_3,.string a0_4,.slice A0_5 l0_5.length c0_5,.int .i64 a0_6,.int .i64 a0_7,.string a0_8,.slice A0_9 l0_9.length c0_9,.int .i64 a0_10,.int .i64 a0_11,.string a0_12,.slice A0_13 l0_13.length c0_13,.int .i64 a0_14,.int .i64 a0_15,.string a0_16,.slice A0_17 l0_17.length c0_17,.slice A0_18 l0_18.length c0_18]) (t := 50) ?hr ?_;(case hd => rfl);(case hg => rfl);(case hr => first|(go_simp;done)|(go_simp;rfl));intro gb230 hg w53 hbox hb;have q_ := qB (by repeat (first|(with_reducible first|exact HB.out|apply bA|apply bN|apply bD)|exact HB.out)) hb;have n0_ := mk0 (below_step q_ hb);have n1_ := mk0 (hbox);have n2_ := mk0 (below_size2 q_ hg);have n3_ := n2_;clear HB;have HB := n0_;have BK230 := n1_;have GW230 := n2_;have GE230 := n3_;clear q_ n0_ n1_ n2_ n3_ hb hbox hg)|((with_reducible refine gate_dst (N := 3) rfl ?_);refine box_event ?hg (N := 3) ?hd (cs := #[.int .i64 a1_0,.string a1_1,.int .i64 a1_2,.int .i64 a1_3,.string a1_4,.slice A1_5 l1_5.length c1_5,.int .i64 a1_6,.int .i64 a1_7,.string a1_8,.slice A1_9 l1_9.length c1_9,.int .i64 a1_10,.int .i64 a1_11,.string a1_12,.slice A1_13 l1_13.length c1_13,.int .i64 a1_14,.int .i64 a1_15,.string a1_16,.slice A1_17 l1_17.length c1_17,.slice A1_18 l1_18.length c1_18]) (t := 50) ?hr ?_;(case hd => rfl);(case hg => rfl);(case hr => first|(go_simp;done)|(go_simp;rfl));intro gb231 hg w54 hbox hb;have q_ := qB (by repeat (first|(with_reducible first|exact HB.out|apply bA|apply bN|apply bD|refine bS ?_ GE230.out)|exact HB.out)) hb;have n0_ := mk0 (blk_below (by exact kX BK230.out) hb);have n1_ := mk0 (below_step q_ hb);have n2_ := mk0 (hbox);have n3_ := mk0 (below_size2 q_ hg);have n4_ := n3_;have n5_ := mk0 ((by rw [hg];exact Nat.ne_of_lt (blk_lt (by exact kX BK230.out)) : gb230 ≠ gb231));have n6_ := mk0 ((by rw [hg];exact Nat.ne_of_gt (blk_lt (by exact kX BK230.out)) : gb231 ≠ gb230));clear BK230 HB;have BK230 := n0_;have HB := n1_;have BK231 := n2_;have GW231 := n3_;have GE231 := n4_;have NB230_231 := n5_;have NB231_230 := n6_;clear q_ n0_ n1_ n2_ n3_ n4_ n5_ n6_ hb hbox hg)|((with_reducible refine gate_dst (N := 6) rfl ?_);refine normW ?_ (by (try simp only [Act.put,List.setIfInBounds_toArray,List.set_cons_zero,List.set_cons_succ]);rfl);refine ldOne rfl 3 _ rfl gb230 0 rfl (l := [.int .i64 a0_0,.string a0_1,.int .i64 a0_2,.int .i64 a0_3,.string a0_4,.slice A0_5 l0_5.length c0_5,.int .i64 a0_6,.int .i64 a0_7,.string a0_8,.slice A0_9 l0_9.length c0_9,.int .i64 a0_10,.int .i64 a0_11,.string a0_12,.slice A0_13 l0_13.length c0_13,.int .i64 a0_14,.int .i64 a0_15,.string a0_16,.slice A0_17 l0_17.length c0_17,.slice A0_18 l0_18.length c0_18]) (tb := 50) (by exact kX BK230.out) (.int .i64 a0_0) rfl (fun _ => by kernel_rfl) ?_;have hnb55 := NB230_231.out;have hnc55 := NB231_230.out)|((with_reducible refine gate_dst (N := 8) rfl ?_);refine normW ?_ (by (try simp only [Act.put,List.setIfInBounds_toArray,List.set_cons_zero,List.set_cons_succ]);rfl);refine ldOne rfl 3 _ rfl gb231 0 rfl (l := [.int .i64 a1_0,.string a1_1,.int .i64 a1_2,.int .i64 a1_3,.string a1_4,.slice A1_5 l1_5.length c1_5,.int .i64 a1_6,.int .i64 a1_7,.string a1_8,.slice A1_9 l1_9.length c1_9,.int .i64 a1_10,.int .i64 a1_11,.string a1_12,.slice A1_13 l1_13.length c1_13,.int .i64 a1_14,.int .i64 a1_15,.string a1_16,.slice A1_17 l1_17.length c1_17,.slice A1_18 l1_18.length c1_18]) (tb := 50) (by exact kX BK231.out) (.int .i64 a1_0) rfl (fun _ => by kernel_rfl) ?_)|((with_reducible refine gate_dst (N := 11) rfl ?_);refine normW ?_ (by (try simp only [Act.put,List.setIfInBounds_toArray,List.set_cons_zero,List.set_cons_succ]);rfl);refine ldOne rfl 9 _ rfl gb230 1 rfl (l := [.int .i64 a0_0,.string a0_1,.int .i64 a0_2,.int .i64 a0_3,.string a0_4,.slice A0_5 l0_5.length c0_5,.int .i64 a0_6,.int .i64 a0_7,.string a0_8,.slice A0_9 l0_9.length c0_9,.int .i64 a0_10,.int .i64 a0_11,.string a0_12,.slice A0_13 l0_13.length c0_13,.int .i64 a0_14,.int .i64 a0_15,.string a0_16,.slice A0_17 l0_17.length c0_17,.slice A0_18 l0_18.length c0_18]) (tb := 50) (by exact kX BK230.out) (.string a0_1) rfl (fun _ => by kernel_rfl) ?_)|((with_reducible refine gate_dst (N := 13) rfl ?_);refine normW ?_ (by (try simp only [Act.put,List.setIfInBounds_toArray,List.set_cons_zero,List.set_cons_succ]);rfl);refine ldOne rfl 9 _ rfl gb231 1 rfl (l := [.int .i64 a1_0,.string a1_1,.int .i64 a1_2,.int .i64 a1_3,.string a1_4,.slice A1_5 l1_5.length c1_5,.int .i64 a1_6,.int .i64 a1_7,.string a1_8,.slice A1_9 l1_9.length c1_9,.int .i64 a1_10,.int .i64 a1_11,.string a1_12,.slice A1_13 l1_13.length c1_13,.int .i64 a1_14,.int .i64 a1_15,.string a1_16,.slice A1_17 l1_17.length c1_17,.slice A1_18 l1_18.length c1_18]) (tb := 50) (by exact kX BK231.out) (.string a1_1) rfl (fun _ => by kernel_rfl) ?_))
  go_ret
  exact ⟨by first|rfl|(simp [errW_none,errW_some] <;> rfl)|(simp [*,errW_none,errW_some] <;> rfl),by repeat (first|(with_reducible first|exact HB.out|apply bA|apply bN|apply bD|refine bS ?_ GE230.out|refine bS ?_ GE231.out)|exact HB.out)⟩

set_option maxHeartbeats 8000000 in
set_option maxRecDepth 100000 in
theorem laws_eqStmtS.callsG (K : Nat) (IH : Aside0 (∀ m, m < K → ∀ (a0_0 : Int) (a0_1 : ByteArray) (a0_2 : Int) (a0_3 : Int) (a0_4 : ByteArray) (A0_5 : Option Addr) (c0_5 : Nat) (l0_5 : List (S29)) (a0_6 : Int) (a0_7 : Int) (a0_8 : ByteArray) (A0_9 : Option Addr) (c0_9 : Nat) (l0_9 : List (S29)) (a0_10 : Int) (a0_11 : Int) (a0_12 : ByteArray) (A0_13 : Option Addr) (c0_13 : Nat) (l0_13 : List (S29)) (a0_14 : Int) (a0_15 : Int) (a0_16 : ByteArray) (A0_17 : Option Addr) (c0_17 : Nat) (l0_17 : List (S29)) (A0_18 : Option Addr) (c0_18 : Nat) (l0_18 : List (S50)) (a1_0 : Int) (a1_1 : ByteArray) (a1_2 : Int) (a1_3 : Int) (a1_4 : ByteArray) (A1_5 : Option Addr) (c1_5 : Nat) (l1_5 : List (S29)) (a1_6 : Int) (a1_7 : Int) (a1_8 : ByteArray) (A1_9 : Option Addr) (c1_9 : Nat) (l1_9 : List (S29)) (a1_10 : Int) (a1_11 : Int) (a1_12 : ByteArray) (A1_13 : Option Addr) (c1_13 : Nat) (l1_13 : List (S29)) (a1_14 : Int) (a1_15 : Int) (a1_16 : ByteArray) (A1_17 : Option Addr) (c1_17 : Nat) (l1_17 : List (S29)) (A1_18 : Option Addr) (c1_18 : Nat) (l1_18 : List (S50)) (r : Bool) (w : World) (hr0_5 : Kd.C k29 w A0_5 l0_5.length l0_5) (hc0_5 : l0_5.length ≤ c0_5) (hr0_9 : Kd.C k29 w A0_9 l0_9.length l0_9) (hc0_9 : l0_9.length ≤ c0_9) (hr0_13 : Kd.C k29 w A0_13 l0_13.length l0_13) (hc0_13 : l0_13.length ≤ c0_13) (hr0_17 : Kd.C k29 w A0_17 l0_17.length l0_17) (hc0_17 : l0_17.length ≤ c0_17) (hr0_18 : Kd.C k50 w A0_18 l0_18.length l0_18) (hc0_18 : l0_18.length ≤ c0_18) (hr1_5 : Kd.C k29 w A1_5 l1_5.length l1_5) (hc1_5 : l1_5.length ≤ c1_5) (hr1_9 : Kd.C k29 w A1_9 l1_9.length l1_9) (hc1_9 : l1_9.length ≤ c1_9) (hr1_13 : Kd.C k29 w A1_13 l1_13.length l1_13) (hc1_13 : l1_13.length ≤ c1_13) (hr1_17 : Kd.C k29 w A1_17 l1_17.length l1_17) (hc1_17 : l1_17.length ≤ c1_17) (hr1_18 : Kd.C k50 w A1_18 l1_18.length l1_18) (hc1_18 : l1_18.length ≤ c1_18) (h : laws_eqStmt.f m a0_0 a0_1 a0_2 a0_3 a0_4 l0_5 a0_6 a0_7 a0_8 l0_9 a0_10 a0_11 a0_12 l0_13 a0_14 a0_15 a0_16 l0_17 l0_18 a1_0 a1_1 a1_2 a1_3 a1_4 l1_5 a1_6 a1_7 a1_8 l1_9 a1_10 a1_11 a1_12 l1_13 a1_14 a1_15 a1_16 l1_17 l1_18 = some r),
   Calls Try.prog 26 #[.agg #[.int .i64 a0_0, .string a0_1, .int .i64 a0_2, .int .i64 a0_3, .string a0_4, .slice A0_5 l0_5.length c0_5, .int .i64 a0_6, .int .i64 a0_7, .string a0_8, .slice A0_9 l0_9.length c0_9, .int .i64 a0_10, .int .i64 a0_11, .string a0_12, .slice A0_13 l0_13.length c0_13, .int .i64 a0_14, .int .i64 a0_15, .string a0_16, .slice A0_17 l0_17.length c0_17, .slice A0_18 l0_18.length c0_18], .agg #[.int .i64 a1_0, .string a1_1, .int .i64 a1_2, .int .i64 a1_3, .string a1_4, .slice A1_5 l1_5.length c1_5, .int .i64 a1_6, .int .i64 a1_7, .string a1_8, .slice A1_9 l1_9.length c1_9, .int .i64 a1_10, .int .i64 a1_11, .string a1_12, .slice A1_13 l1_13.length c1_13, .int .i64 a1_14, .int .i64 a1_15, .string a1_16, .slice A1_17 l1_17.length c1_17, .slice A1_18 l1_18.length c1_18]] w fun e w' => e = .returned (.bool r) ∧ Below w.heap.size w w')) (A0 : Option Addr) (c0 : Nat) (l0 : List (S50)) (A1 : Option Addr) (c1 : Nat) (l1 : List (S50)) (r : Bool) (w : World) (hr0 : Kd.C k50 w A0 l0.length l0) (hc0 : l0.length ≤ c0) (hr1 : Kd.C k50 w A1 l1.length l1) (hc1 : l1.length ≤ c1) (h : laws_eqStmtS.f K l0 l1 = some r) :
  Calls Try.prog 61 #[.slice A0 l0.length c0, .slice A1 l1.length c1] w fun e w' => e = .returned (.bool r) ∧ Below w.heap.size w w' := by
 cases K with
 |zero => exact absurd h (by simp [laws_eqStmtS.f])
 |succ k =>
 have hu50 := Try.underlying50
 have HR0 := mk0 hr0
 have HC0 := mk0 hc0
 clear hr0 hc0
 have HR1 := mk0 hr1
 have HC1 := mk0 hc1
 clear hr1 hc1
 have HB := mk0 (Below.refl w.heap.size w)
 have H : (if (l0.length : Int) = (l1.length : Int) then (laws_eqStmtS.l0 k l0 l1 0) else (some false)) = some r := by rw [laws_eqStmtS.f] at h;exact h
 clear h
 by_cases c3 : (l0.length : Int) = (l1.length : Int)
 ·rw [if_pos c3] at H
  have c3b0 : ((l0.length : Int) == (l1.length : Int)) = true := beq_iff_eq.mpr c3
  have c3b1 : ((l0.length : Int) != (l1.length : Int)) = false := bne_eq_false_iff_eq.mpr c3
  have c3b2 : (l0.length == l1.length) = true := by first|simpa using c3|(simp at c3 ⊢;omega)
  clear c3
  have H' := mk0 H
  clear H
  go_enter Try.func61,Try.ntmps61
  go_wp2
  go_loopg [5] k (fun kq v5 w' => ∃ (x5_1 : Int),v5 = .int .i64 x5_1 ∧ Aside0 (laws_eqStmtS.l0 kq l0 l1 x5_1 = some r) ∧ Aside0 (kq ≤ k) ∧ Aside0 (Below w.heap.size w w'))
  case atStart => exact ⟨(0),(by first|rfl|(simp;done)|(simp [*];done)),H',⟨Nat.le_refl _⟩,⟨by repeat (first|(with_reducible first|exact HB.out|apply bA|apply bN|apply bD)|exact HB.out)⟩⟩
  case round =>
   clear H'
   try clear c1
   try clear p2
   try clear c3
   try clear c3b0
   try clear c3b1
   try clear c3b2
   obtain ⟨x5_1,rfl,HA,HK1,HB⟩ := hrel
   cases gk with
     |zero => exact absurd HA.out (by simp [laws_eqStmtS.l0])
     |succ k1 =>
    have H := HA.out
    clear HA
    simp only [laws_eqStmtS.l0] at H
    by_cases c4 : x5_1 < (l0.length : Int)
    ·rw [if_pos c4] at H
     have c4b0 : decide (x5_1 < (l0.length : Int)) = true := decide_eq_true c4
     clear c4
     by_cases c5 : 0 ≤ x5_1
     ·rw [if_pos c5] at H
      have c5b0 : decide (0 ≤ x5_1) = true := decide_eq_true c5
      clear c5
      by_cases c6 : x5_1 < (l1.length : Int)
      ·rw [if_pos c6] at H
       have c6b0 : decide (x5_1 < (l1.length : Int)) = true := decide_eq_true c6
       clear c6
       obtain ⟨t229,A7,H⟩ := bindA H
       by_cases c8 : t229 = true
       ·subst c8
        rw [if_pos rfl] at H
        have H' := mk0 H
        clear H
        try go_wp2
        have n0_ := mk0 (bD HB.out)
        clear HB
        have HB := n0_
        clear n0_
        have p227 : 0 ≤ (x5_1 : Int) := of_decide_eq_true (by first|(with_reducible assumption)|assumption)
        have q227 : x5_1 < (l0.length : Int) := of_decide_eq_true (by first|(with_reducible assumption)|assumption)
        obtain ⟨ad227,A227_5,c227_5,A227_9,c227_9,A227_13,c227_13,A227_17,c227_17,A227_18,c227_18,e227,hx227_0,hx227_1,hx227_2,hx227_3,hx227_4,hx227_5,hx227_6,hx227_7,hx227_8,hx227_9,hx227_10,hx227_11,hx227_12,hx227_13,hx227_14,hx227_15,hx227_16,hx227_17,hx227_18,hl227_5,hi227_5,hl227_9,hi227_9,hl227_13,hi227_13,hl227_17,hi227_17,hl227_18,hi227_18⟩ := at_T50 HR0.out x5_1 p227 q227
        have hw227_18 := hx227_18
        have hw227_17 := hx227_17
        have hw227_16 := hx227_16
        have hw227_15 := hx227_15
        have hw227_14 := hx227_14
        have hw227_13 := hx227_13
        have hw227_12 := hx227_12
        have hw227_11 := hx227_11
        have hw227_10 := hx227_10
        have hw227_9 := hx227_9
        have hw227_8 := hx227_8
        have hw227_7 := hx227_7
        have hw227_6 := hx227_6
        have hw227_5 := hx227_5
        have hw227_4 := hx227_4
        have hw227_3 := hx227_3
        have hw227_2 := hx227_2
        have hw227_1 := hx227_1
        have hw227_0 := hx227_0
        cases e227
        replace hx227_0 := hbc HB.out hx227_0
        replace hx227_1 := hbc HB.out hx227_1
        replace hx227_2 := hbc HB.out hx227_2
        replace hx227_3 := hbc HB.out hx227_3
        replace hx227_4 := hbc HB.out hx227_4
        replace hx227_5 := hbc HB.out hx227_5
        replace hx227_6 := hbc HB.out hx227_6
        replace hx227_7 := hbc HB.out hx227_7
        replace hx227_8 := hbc HB.out hx227_8
        replace hx227_9 := hbc HB.out hx227_9
        replace hx227_10 := hbc HB.out hx227_10
        replace hx227_11 := hbc HB.out hx227_11
        replace hx227_12 := hbc HB.out hx227_12
        replace hx227_13 := hbc HB.out hx227_13
        replace hx227_14 := hbc HB.out hx227_14
        replace hx227_15 := hbc HB.out hx227_15
        replace hx227_16 := hbc HB.out hx227_16
        replace hx227_17 := hbc HB.out hx227_17
        replace hx227_18 := hbc HB.out hx227_18
        have HR227_5 := mk0 hi227_5
        have HC227_5 := mk0 hl227_5
        clear hi227_5 hl227_5
        have HR227_9 := mk0 hi227_9
        have HC227_9 := mk0 hl227_9
        clear hi227_9 hl227_9
        have HR227_13 := mk0 hi227_13
        have HC227_13 := mk0 hl227_13
        clear hi227_13 hl227_13
        have HR227_17 := mk0 hi227_17
        have HC227_17 := mk0 hl227_17
        clear hi227_17 hl227_17
        have HR227_18 := mk0 hi227_18
        have HC227_18 := mk0 hl227_18
        clear hi227_18 hl227_18
        replace p227 := eq_true p227
        replace q227 := eq_true q227
        have p228 : 0 ≤ (x5_1 : Int) := of_decide_eq_true (by first|(with_reducible assumption)|assumption)
        have q228 : x5_1 < (l1.length : Int) := of_decide_eq_true (by first|(with_reducible assumption)|assumption)
        obtain ⟨ad228,A228_5,c228_5,A228_9,c228_9,A228_13,c228_13,A228_17,c228_17,A228_18,c228_18,e228,hx228_0,hx228_1,hx228_2,hx228_3,hx228_4,hx228_5,hx228_6,hx228_7,hx228_8,hx228_9,hx228_10,hx228_11,hx228_12,hx228_13,hx228_14,hx228_15,hx228_16,hx228_17,hx228_18,hl228_5,hi228_5,hl228_9,hi228_9,hl228_13,hi228_13,hl228_17,hi228_17,hl228_18,hi228_18⟩ := at_T50 HR1.out x5_1 p228 q228
        have hw228_18 := hx228_18
        have hw228_17 := hx228_17
        have hw228_16 := hx228_16
        have hw228_15 := hx228_15
        have hw228_14 := hx228_14
        have hw228_13 := hx228_13
        have hw228_12 := hx228_12
        have hw228_11 := hx228_11
        have hw228_10 := hx228_10
        have hw228_9 := hx228_9
        have hw228_8 := hx228_8
        have hw228_7 := hx228_7
        have hw228_6 := hx228_6
        have hw228_5 := hx228_5
        have hw228_4 := hx228_4
        have hw228_3 := hx228_3
        have hw228_2 := hx228_2
        have hw228_1 := hx228_1
        have hw228_0 := hx228_0
        cases e228
        replace hx228_0 := hbc HB.out hx228_0
        replace hx228_1 := hbc HB.out hx228_1
        replace hx228_2 := hbc HB.out hx228_2
        replace hx228_3 := hbc HB.out hx228_3
        replace hx228_4 := hbc HB.out hx228_4
        replace hx228_5 := hbc HB.out hx228_5
        replace hx228_6 := hbc HB.out hx228_6
        replace hx228_7 := hbc HB.out hx228_7
        replace hx228_8 := hbc HB.out hx228_8
        replace hx228_9 := hbc HB.out hx228_9
        replace hx228_10 := hbc HB.out hx228_10
        replace hx228_11 := hbc HB.out hx228_11
        replace hx228_12 := hbc HB.out hx228_12
        replace hx228_13 := hbc HB.out hx228_13
        replace hx228_14 := hbc HB.out hx228_14
        replace hx228_15 := hbc HB.out hx228_15
        replace hx228_16 := hbc HB.out hx228_16
        replace hx228_17 := hbc HB.out hx228_17
        replace hx228_18 := hbc HB.out hx228_18
        have HR228_5 := mk0 hi228_5
        have HC228_5 := mk0 hl228_5
        clear hi228_5 hl228_5
        have HR228_9 := mk0 hi228_9
        have HC228_9 := mk0 hl228_9
        clear hi228_9 hl228_9
        have HR228_13 := mk0 hi228_13
        have HC228_13 := mk0 hl228_13
        clear hi228_13 hl228_13
        have HR228_17 := mk0 hi228_17
        have HC228_17 := mk0 hl228_17
        clear hi228_17 hl228_17
        have HR228_18 := mk0 hi228_18
        have HC228_18 := mk0 hl228_18
        clear hi228_18 hl228_18
        replace p228 := eq_true p228
        replace q228 := eq_true q228
        refine start_ (n := 10) (S := fun w' => w'.cell? (ad227.add ((x5_1).toNat * 19)) = some (.int .i64 ((rd_T50 l0 x5_1).f0)) ∧ w'.cell? ⟨(ad227.add ((x5_1).toNat * 19)).block,(ad227.add ((x5_1).toNat * 19)).off + 1,none⟩ = some (.string ((rd_T50 l0 x5_1).f1)) ∧ w'.cell? ⟨(ad227.add ((x5_1).toNat * 19)).block,(ad227.add ((x5_1).toNat * 19)).off + 2,none⟩ = some (.int .i64 ((rd_T50 l0 x5_1).f2.f0)) ∧ w'.cell? ⟨(ad227.add ((x5_1).toNat * 19)).block,(ad227.add ((x5_1).toNat * 19)).off + 3,none⟩ = some (.int .i64 ((rd_T50 l0 x5_1).f2.f1)) ∧ w'.cell? ⟨(ad227.add ((x5_1).toNat * 19)).block,(ad227.add ((x5_1).toNat * 19)).off + 4,none⟩ = some (.string ((rd_T50 l0 x5_1).f2.f2)) ∧ w'.cell? ⟨(ad227.add ((x5_1).toNat * 19)).block,(ad227.add ((x5_1).toNat * 19)).off + 5,none⟩ = some (.slice A227_5 ((rd_T50 l0 x5_1).f2.f3).length c227_5) ∧ w'.cell? ⟨(ad227.add ((x5_1).toNat * 19)).block,(ad227.add ((x5_1).toNat * 19)).off + 6,none⟩ = some (.int .i64 ((rd_T50 l0 x5_1).f3.f0)) ∧ w'.cell? ⟨(ad227.add ((x5_1).toNat * 19)).block,(ad227.add ((x5_1).toNat * 19)).off + 7,none⟩ = some (.int .i64 ((rd_T50 l0 x5_1).f3.f1)) ∧ w'.cell? ⟨(ad227.add ((x5_1).toNat * 19)).block,(ad227.add ((x5_1).toNat * 19)).off + 8,none⟩ = some (.string ((rd_T50 l0 x5_1).f3.f2)) ∧ w'.cell? ⟨(ad227.add ((x5_1).toNat * 19)).block,(ad227.add ((x5_1).toNat * 19)).off + 9,none⟩ = some (.slice A227_9 ((rd_T50 l0 x5_1).f3.f3).length c227_9) ∧ w'.cell? ⟨(ad227.add ((x5_1).toNat * 19)).block,(ad227.add ((x5_1).toNat * 19)).off + 10,none⟩ = some (.int .i64 ((rd_T50 l0 x5_1).f4.f0)) ∧ w'.cell? ⟨(ad227.add ((x5_1).toNat * 19)).block,(ad227.add ((x5_1).toNat * 19)).off + 11,none⟩ = some (.int .i64 ((rd_T50 l0 x5_1).f4.f1)) ∧ w'.cell? ⟨(ad227.add ((x5_1).toNat * 19)).block,(ad227.add ((x5_1).toNat * 19)).off + 12,none⟩ = some (.string ((rd_T50 l0 x5_1).f4.f2)) ∧ w'.cell? ⟨(ad227.add ((x5_1).toNat * 19)).block,(ad227.add ((x5_1).toNat * 19)).off + 13,none⟩ = some (.slice A227_13 ((rd_T50 l0 x5_1).f4.f3).length c227_13) ∧ w'.cell? ⟨(ad227.add ((x5_1).toNat * 19)).block,(ad227.add ((x5_1).toNat * 19)).off + 14,none⟩ = some (.int .i64 ((rd_T50 l0 x5_1).f5.f0)) ∧ w'.cell? ⟨(ad227.add ((x5_1).toNat * 19)).block,(ad227.add ((x5_1).toNat * 19)).off + 15,none⟩ = some (.int .i64 ((rd_T50 l0 x5_1).f5.f1)) ∧ w'.cell? ⟨(ad227.add ((x5_1).toNat * 19)).block,(ad227.add ((x5_1).toNat * 19)).off + 16,none⟩ = some (.string ((rd_T50 l0 x5_1).f5.f2)) ∧ w'.cell? ⟨(ad227.add ((x5_1).toNat * 19)).block,(ad227.add ((x5_1).toNat * 19)).off + 17,none⟩ = some (.slice A227_17 ((rd_T50 l0 x5_1).f5.f3).length c227_17) ∧ w'.cell? ⟨(ad227.add ((x5_1).toNat * 19)).block,(ad227.add ((x5_1).toNat * 19)).off + 18,none⟩ = some (.slice A227_18 ((rd_T50 l0 x5_1).f6).length c227_18) ∧ w'.cell? (ad228.add ((x5_1).toNat * 19)) = some (.int .i64 ((rd_T50 l1 x5_1).f0)) ∧ w'.cell? ⟨(ad228.add ((x5_1).toNat * 19)).block,(ad228.add ((x5_1).toNat * 19)).off + 1,none⟩ = some (.string ((rd_T50 l1 x5_1).f1)) ∧ w'.cell? ⟨(ad228.add ((x5_1).toNat * 19)).block,(ad228.add ((x5_1).toNat * 19)).off + 2,none⟩ = some (.int .i64 ((rd_T50 l1 x5_1).f2.f0)) ∧ w'.cell? ⟨(ad228.add ((x5_1).toNat * 19)).block,(ad228.add ((x5_1).toNat * 19)).off + 3,none⟩ = some (.int .i64 ((rd_T50 l1 x5_1).f2.f1)) ∧ w'.cell? ⟨(ad228.add ((x5_1).toNat * 19)).block,(ad228.add ((x5_1).toNat * 19)).off + 4,none⟩ = some (.string ((rd_T50 l1 x5_1).f2.f2)) ∧ w'.cell? ⟨(ad228.add ((x5_1).toNat * 19)).block,(ad228.add ((x5_1).toNat * 19)).off + 5,none⟩ = some (.slice A228_5 ((rd_T50 l1 x5_1).f2.f3).length c228_5) ∧ w'.cell? ⟨(ad228.add ((x5_1).toNat * 19)).block,(ad228.add ((x5_1).toNat * 19)).off + 6,none⟩ = some (.int .i64 ((rd_T50 l1 x5_1).f3.f0)) ∧ w'.cell? ⟨(ad228.add ((x5_1).toNat * 19)).block,(ad228.add ((x5_1).toNat * 19)).off + 7,none⟩ = some (.int .i64 ((rd_T50 l1 x5_1).f3.f1)) ∧ w'.cell? ⟨(ad228.add ((x5_1).toNat * 19)).block,(ad228.add ((x5_1).toNat * 19)).off + 8,none⟩ = some (.string ((rd_T50 l1 x5_1).f3.f2)) ∧ w'.cell? ⟨(ad228.add ((x5_1).toNat * 19)).block,(ad228.add ((x5_1).toNat * 19)).off + 9,none⟩ = some (.slice A228_9 ((rd_T50 l1 x5_1).f3.f3).length c228_9) ∧ w'.cell? ⟨(ad228.add ((x5_1).toNat * 19)).block,(ad228.add ((x5_1).toNat * 19)).off + 10,none⟩ = some (.int .i64 ((rd_T50 l1 x5_1).f4.f0)) ∧ w'.cell? ⟨(ad228.add ((x5_1).toNat * 19)).block,(ad228.add ((x5_1).toNat * 19)).off + 11,none⟩ = some (.int .i64 ((rd_T50 l1 x5_1).f4.f1)) ∧ w'.cell? ⟨(ad228.add ((x5_1).toNat * 19)).block,(ad228.add ((x5_1).toNat * 19)).off + 12,none⟩ = some (.string ((rd_T50 l1 x5_1).f4.f2)) ∧ w'.cell? ⟨(ad228.add ((x5_1).toNat * 19)).block,(ad228.add ((x5_1).toNat * 19)).off + 13,none⟩ = some (.slice A228_13 ((rd_T50 l1 x5_1).f4.f3).length c228_13) ∧ w'.cell? ⟨(ad228.add ((x5_1).toNat * 19)).block,(ad228.add ((x5_1).toNat * 19)).off + 14,none⟩ = some (.int .i64 ((rd_T50 l1 x5_1).f5.f0)) ∧ w'.cell? ⟨(ad228.add ((x5_1).toNat * 19)).block,(ad228.add ((x5_1).toNat * 19)).off + 15,none⟩ = some (.int .i64 ((rd_T50 l1 x5_1).f5.f1)) ∧ w'.cell? ⟨(ad228.add ((x5_1).toNat * 19)).block,(ad228.add ((x5_1).toNat * 19)).off + 16,none⟩ = some (.string ((rd_T50 l1 x5_1).f5.f2)) ∧ w'.cell? ⟨(ad228.add ((x5_1).toNat * 19)).block,(ad228.add ((x5_1).toNat * 19)).off + 17,none⟩ = some (.slice A228_17 ((rd_T50 l1 x5_1).f5.f3).length c228_17) ∧ w'.cell? ⟨(ad228.add ((x5_1).toNat * 19)).block,(ad228.add ((x5_1).toNat * 19)).off + 18,none⟩ = some (.slice A228_18 ((rd_T50 l1 x5_1).f6).length c228_18)) (ds := []) #[false,false,false,false,false,false,false,false,false,false] (by kernel_rfl) rfl rfl ⟨((HB.out.cell (World.block_lt_of_cell? w _ hw227_0)).trans hw227_0),((HB.out.cell (World.block_lt_of_cell? w _ hw227_1)).trans hw227_1),((HB.out.cell (World.block_lt_of_cell? w _ hw227_2)).trans hw227_2),((HB.out.cell (World.block_lt_of_cell? w _ hw227_3)).trans hw227_3),((HB.out.cell (World.block_lt_of_cell? w _ hw227_4)).trans hw227_4),((HB.out.cell (World.block_lt_of_cell? w _ hw227_5)).trans hw227_5),((HB.out.cell (World.block_lt_of_cell? w _ hw227_6)).trans hw227_6),((HB.out.cell (World.block_lt_of_cell? w _ hw227_7)).trans hw227_7),((HB.out.cell (World.block_lt_of_cell? w _ hw227_8)).trans hw227_8),((HB.out.cell (World.block_lt_of_cell? w _ hw227_9)).trans hw227_9),((HB.out.cell (World.block_lt_of_cell? w _ hw227_10)).trans hw227_10),((HB.out.cell (World.block_lt_of_cell? w _ hw227_11)).trans hw227_11),((HB.out.cell (World.block_lt_of_cell? w _ hw227_12)).trans hw227_12),((HB.out.cell (World.block_lt_of_cell? w _ hw227_13)).trans hw227_13),((HB.out.cell (World.block_lt_of_cell? w _ hw227_14)).trans hw227_14),((HB.out.cell (World.block_lt_of_cell? w _ hw227_15)).trans hw227_15),((HB.out.cell (World.block_lt_of_cell? w _ hw227_16)).trans hw227_16),((HB.out.cell (World.block_lt_of_cell? w _ hw227_17)).trans hw227_17),((HB.out.cell (World.block_lt_of_cell? w _ hw227_18)).trans hw227_18),((HB.out.cell (World.block_lt_of_cell? w _ hw228_0)).trans hw228_0),((HB.out.cell (World.block_lt_of_cell? w _ hw228_1)).trans hw228_1),((HB.out.cell (World.block_lt_of_cell? w _ hw228_2)).trans hw228_2),((HB.out.cell (World.block_lt_of_cell? w _ hw228_3)).trans hw228_3),((HB.out.cell (World.block_lt_of_cell? w _ hw228_4)).trans hw228_4),((HB.out.cell (World.block_lt_of_cell? w _ hw228_5)).trans hw228_5),((HB.out.cell (World.block_lt_of_cell? w _ hw228_6)).trans hw228_6),((HB.out.cell (World.block_lt_of_cell? w _ hw228_7)).trans hw228_7),((HB.out.cell (World.block_lt_of_cell? w _ hw228_8)).trans hw228_8),((HB.out.cell (World.block_lt_of_cell? w _ hw228_9)).trans hw228_9),((HB.out.cell (World.block_lt_of_cell? w _ hw228_10)).trans hw228_10),((HB.out.cell (World.block_lt_of_cell? w _ hw228_11)).trans hw228_11),((HB.out.cell (World.block_lt_of_cell? w _ hw228_12)).trans hw228_12),((HB.out.cell (World.block_lt_of_cell? w _ hw228_13)).trans hw228_13),((HB.out.cell (World.block_lt_of_cell? w _ hw228_14)).trans hw228_14),((HB.out.cell (World.block_lt_of_cell? w _ hw228_15)).trans hw228_15),((HB.out.cell (World.block_lt_of_cell? w _ hw228_16)).trans hw228_16),((HB.out.cell (World.block_lt_of_cell? w _ hw228_17)).trans hw228_17),((HB.out.cell (World.block_lt_of_cell? w _ hw228_18)).trans hw228_18)⟩ (fun hHeld => ?_);refine with_tabW laws_eqStmtS.tab6 laws_eqStmtS.bits6 (fun HT_ HW_ => ?_)
        generalize wr.drew = w9 at HB HR227_13 HR227_17 HR227_18 HR227_5 HR227_9 HR228_13 HR228_17 HR228_18 HR228_5 HR228_9 hx227_0 hx227_1 hx227_10 hx227_11 hx227_12 hx227_13 hx227_14 hx227_15 hx227_16 hx227_17 hx227_18 hx227_2 hx227_3 hx227_4 hx227_5 hx227_6 hx227_7 hx227_8 hx227_9 hx228_0 hx228_1 hx228_10 hx228_11 hx228_12 hx228_13 hx228_14 hx228_15 hx228_16 hx228_17 hx228_18 hx228_2 hx228_3 hx228_4 hx228_5 hx228_6 hx228_7 hx228_8 hx228_9 hHeld ⊢
        refine pure_ (i := 0) (N := some 17) (v := ?_) (a' := ?_) #[true,false,false,false,false,false,false,false,false,false] rfl rfl (any_of HT_.out (by kernel_rfl)) (fun _ _ _ h => h) (Or.inl ⟨by rfl,?_⟩) ?_ ?_
        rotate_left
        ·intro w'
         go_simp
         with_reducible rfl
        rotate_left
        ·simp only [Act.put,List.setIfInBounds_toArray,List.set_cons_zero,List.set_cons_succ,i64_w,i32_w]
         rfl
        refine pure_ (i := 1) (N := some 18) (v := ?_) (a' := ?_) #[true,true,false,false,false,false,false,false,false,false] rfl rfl (any_of HT_.out (by kernel_rfl)) (fun _ _ _ h => h) (Or.inl ⟨by rfl,?_⟩) ?_ ?_
        rotate_left
        ·intro w'
         go_simp
         with_reducible rfl
        rotate_left
        ·simp only [Act.put,List.setIfInBounds_toArray,List.set_cons_zero,List.set_cons_succ,i64_w,i32_w]
         rfl
        refine pure_ (i := 2) (N := some 19) (v := ?_) (a' := ?_) #[true,true,true,false,false,false,false,false,false,false] rfl rfl (any_of HT_.out (by kernel_rfl)) (fun _ _ _ h => h) (Or.inl ⟨by rfl,?_⟩) ?_ ?_
        rotate_left
        ·intro w'
         go_simp
         with_reducible rfl
        rotate_left
        ·simp only [Act.put,List.setIfInBounds_toArray,List.set_cons_zero,List.set_cons_succ,i64_w,i32_w]
         rfl
        refine pure_ (i := 4) (N := some 21) (v := ?_) (a' := ?_) #[true,true,true,false,true,false,false,false,false,false] rfl rfl (any_of HT_.out (by kernel_rfl)) (fun _ _ _ h => h) (Or.inl ⟨by rfl,?_⟩) ?_ ?_
        rotate_left
        ·intro w'
         go_simp
         with_reducible rfl
        rotate_left
        ·simp only [Act.put,List.setIfInBounds_toArray,List.set_cons_zero,List.set_cons_succ,i64_w,i32_w]
         rfl
        refine pure_ (i := 5) (N := some 22) (v := ?_) (a' := ?_) #[true,true,true,false,true,true,false,false,false,false] rfl rfl (any_of HT_.out (by kernel_rfl)) (fun _ _ _ h => h) (Or.inl ⟨by rfl,?_⟩) ?_ ?_
        rotate_left
        ·intro w'
         go_simp
         with_reducible rfl
        rotate_left
        ·simp only [Act.put,List.setIfInBounds_toArray,List.set_cons_zero,List.set_cons_succ,i64_w,i32_w]
         rfl
        refine pure_ (i := 6) (N := some 23) (v := ?_) (a' := ?_) #[true,true,true,false,true,true,true,false,false,false] rfl rfl (any_of HT_.out (by kernel_rfl)) (fun _ _ _ h => h) (Or.inl ⟨by rfl,?_⟩) ?_ ?_
        rotate_left
        ·intro w'
         go_simp
         with_reducible rfl
        rotate_left
        ·simp only [Act.put,List.setIfInBounds_toArray,List.set_cons_zero,List.set_cons_succ,i64_w,i32_w]
         rfl
        refine take_ (i := 3) (N := some 20) (v := ?_) (a' := ?_) #[true,true,true,true,true,true,true,false,false,false] rfl rfl (take_ofW HT_.out HW_.out (by kernel_rfl)) (fun _ _ _ h => h) (Or.inl ⟨by rfl,?_⟩) hHeld ?_ ?_
        rotate_left
        ·rintro w' ⟨s0,s1,s2,s3,s4,s5,s6,s7,s8,s9,s10,s11,s12,s13,s14,s15,s16,s17,s18,s19,s20,s21,s22,s23,s24,s25,s26,s27,s28,s29,s30,s31,s32,s33,s34,s35,s36,s37⟩
         first|(refine ldRun 50 ?x241_0 ?ho241_0 _ ?hx241_0 _ (row19 s0 s1 s2 s3 s4 s5 s6 s7 s8 s9 s10 s11 s12 s13 s14 s15 s16 s17 s18) _ Try.underlying50 (by kernel_rfl);(case ho241_0 => rfl);(case hx241_0 => rfl))|(refine ldRun 50 ?x241_19 ?ho241_19 _ ?hx241_19 _ (row19 s19 s20 s21 s22 s23 s24 s25 s26 s27 s28 s29 s30 s31 s32 s33 s34 s35 s36 s37) _ Try.underlying50 (by kernel_rfl);(case ho241_19 => rfl);(case hx241_19 => rfl))
        rotate_left
        ·simp only [Act.put,List.setIfInBounds_toArray,List.set_cons_zero,List.set_cons_succ,i64_w,i32_w]
         rfl
        refine take_ (i := 7) (N := some 24) (v := ?_) (a' := ?_) #[true,true,true,true,true,true,true,true,false,false] rfl rfl (take_ofW HT_.out HW_.out (by kernel_rfl)) (fun _ _ _ h => h) (Or.inl ⟨by rfl,?_⟩) hHeld ?_ ?_
        rotate_left
        ·rintro w' ⟨s0,s1,s2,s3,s4,s5,s6,s7,s8,s9,s10,s11,s12,s13,s14,s15,s16,s17,s18,s19,s20,s21,s22,s23,s24,s25,s26,s27,s28,s29,s30,s31,s32,s33,s34,s35,s36,s37⟩
         first|(refine ldRun 50 ?x249_0 ?ho249_0 _ ?hx249_0 _ (row19 s0 s1 s2 s3 s4 s5 s6 s7 s8 s9 s10 s11 s12 s13 s14 s15 s16 s17 s18) _ Try.underlying50 (by kernel_rfl);(case ho249_0 => rfl);(case hx249_0 => rfl))|(refine ldRun 50 ?x249_19 ?ho249_19 _ ?hx249_19 _ (row19 s19 s20 s21 s22 s23 s24 s25 s26 s27 s28 s29 s30 s31 s32 s33 s34 s35 s36 s37) _ Try.underlying50 (by kernel_rfl);(case ho249_19 => rfl);(case hx249_19 => rfl))
        rotate_left
        ·simp only [Act.put,List.setIfInBounds_toArray,List.set_cons_zero,List.set_cons_succ,i64_w,i32_w]
         rfl
        refine one_ (i := 8) (N := some 25) #[true,true,true,true,true,true,true,true,true,false] rfl rfl (one_of HT_.out (by kernel_rfl)) (by decide) (fun K hK => ?_)
        refine goes_ Try.func26 (by kernel_rfl) rfl #[.agg #[.int .i64 ((rd_T50 l0 x5_1).f0),.string ((rd_T50 l0 x5_1).f1),.int .i64 ((rd_T50 l0 x5_1).f2.f0),.int .i64 ((rd_T50 l0 x5_1).f2.f1),.string ((rd_T50 l0 x5_1).f2.f2),.slice A227_5 ((rd_T50 l0 x5_1).f2.f3).length c227_5,.int .i64 ((rd_T50 l0 x5_1).f3.f0),.int .i64 ((rd_T50 l0 x5_1).f3.f1),.string ((rd_T50 l0 x5_1).f3.f2),.slice A227_9 ((rd_T50 l0 x5_1).f3.f3).length c227_9,.int .i64 ((rd_T50 l0 x5_1).f4.f0),.int .i64 ((rd_T50 l0 x5_1).f4.f1),.string ((rd_T50 l0 x5_1).f4.f2),.slice A227_13 ((rd_T50 l0 x5_1).f4.f3).length c227_13,.int .i64 ((rd_T50 l0 x5_1).f5.f0),.int .i64 ((rd_T50 l0 x5_1).f5.f1),.string ((rd_T50 l0 x5_1).f5.f2),.slice A227_17 ((rd_T50 l0 x5_1).f5.f3).length c227_17,.slice A227_18 ((rd_T50 l0 x5_1).f6).length c227_18],.agg #[.int .i64 ((rd_T50 l1 x5_1).f0),.string ((rd_T50 l1 x5_1).f1),.int .i64 ((rd_T50 l1 x5_1).f2.f0),.int .i64 ((rd_T50 l1 x5_1).f2.f1),.string ((rd_T50 l1 x5_1).f2.f2),.slice A228_5 ((rd_T50 l1 x5_1).f2.f3).length c228_5,.int .i64 ((rd_T50 l1 x5_1).f3.f0),.int .i64 ((rd_T50 l1 x5_1).f3.f1),.string ((rd_T50 l1 x5_1).f3.f2),.slice A228_9 ((rd_T50 l1 x5_1).f3.f3).length c228_9,.int .i64 ((rd_T50 l1 x5_1).f4.f0),.int .i64 ((rd_T50 l1 x5_1).f4.f1),.string ((rd_T50 l1 x5_1).f4.f2),.slice A228_13 ((rd_T50 l1 x5_1).f4.f3).length c228_13,.int .i64 ((rd_T50 l1 x5_1).f5.f0),.int .i64 ((rd_T50 l1 x5_1).f5.f1),.string ((rd_T50 l1 x5_1).f5.f2),.slice A228_17 ((rd_T50 l1 x5_1).f5.f3).length c228_17,.slice A228_18 ((rd_T50 l1 x5_1).f6).length c228_18]] (by rfl) rfl rfl (by (try simp only [List.map_toArray,List.map_cons,List.map_nil]);first|done|rfl) ?_
        with_reducible refine (IH.out k1 (by have := HK1.out;omega) ((rd_T50 l0 x5_1).f0) ((rd_T50 l0 x5_1).f1) ((rd_T50 l0 x5_1).f2.f0) ((rd_T50 l0 x5_1).f2.f1) ((rd_T50 l0 x5_1).f2.f2) _ _ ((rd_T50 l0 x5_1).f2.f3) ((rd_T50 l0 x5_1).f3.f0) ((rd_T50 l0 x5_1).f3.f1) ((rd_T50 l0 x5_1).f3.f2) _ _ ((rd_T50 l0 x5_1).f3.f3) ((rd_T50 l0 x5_1).f4.f0) ((rd_T50 l0 x5_1).f4.f1) ((rd_T50 l0 x5_1).f4.f2) _ _ ((rd_T50 l0 x5_1).f4.f3) ((rd_T50 l0 x5_1).f5.f0) ((rd_T50 l0 x5_1).f5.f1) ((rd_T50 l0 x5_1).f5.f2) _ _ ((rd_T50 l0 x5_1).f5.f3) _ _ ((rd_T50 l0 x5_1).f6) ((rd_T50 l1 x5_1).f0) ((rd_T50 l1 x5_1).f1) ((rd_T50 l1 x5_1).f2.f0) ((rd_T50 l1 x5_1).f2.f1) ((rd_T50 l1 x5_1).f2.f2) _ _ ((rd_T50 l1 x5_1).f2.f3) ((rd_T50 l1 x5_1).f3.f0) ((rd_T50 l1 x5_1).f3.f1) ((rd_T50 l1 x5_1).f3.f2) _ _ ((rd_T50 l1 x5_1).f3.f3) ((rd_T50 l1 x5_1).f4.f0) ((rd_T50 l1 x5_1).f4.f1) ((rd_T50 l1 x5_1).f4.f2) _ _ ((rd_T50 l1 x5_1).f4.f3) ((rd_T50 l1 x5_1).f5.f0) ((rd_T50 l1 x5_1).f5.f1) ((rd_T50 l1 x5_1).f5.f2) _ _ ((rd_T50 l1 x5_1).f5.f3) _ _ ((rd_T50 l1 x5_1).f6) true _ ?side1 ?side2 ?side3 ?side4 ?side5 ?side6 ?side7 ?side8 ?side9 ?side10 ?side11 ?side12 ?side13 ?side14 ?side15 ?side16 ?side17 ?side18 ?side19 ?side20 A7.out).mono ?_
        (case side1 => repeat (first|exact (Kd.C_below HR227_5.out HB.out)|(with_reducible refine cA ?_ _)|(with_reducible refine cN ?_ _)|(with_reducible refine cD ?_)))
        (case side2 => exact HC227_5.out)
        (case side3 => repeat (first|exact (Kd.C_below HR227_9.out HB.out)|(with_reducible refine cA ?_ _)|(with_reducible refine cN ?_ _)|(with_reducible refine cD ?_)))
        (case side4 => exact HC227_9.out)
        (case side5 => repeat (first|exact (Kd.C_below HR227_13.out HB.out)|(with_reducible refine cA ?_ _)|(with_reducible refine cN ?_ _)|(with_reducible refine cD ?_)))
        (case side6 => exact HC227_13.out)
        (case side7 => repeat (first|exact (Kd.C_below HR227_17.out HB.out)|(with_reducible refine cA ?_ _)|(with_reducible refine cN ?_ _)|(with_reducible refine cD ?_)))
        (case side8 => exact HC227_17.out)
        (case side9 => repeat (first|exact (Kd.C_below HR227_18.out HB.out)|(with_reducible refine cA ?_ _)|(with_reducible refine cN ?_ _)|(with_reducible refine cD ?_)))
        (case side10 => exact HC227_18.out)
        (case side11 => repeat (first|exact (Kd.C_below HR228_5.out HB.out)|(with_reducible refine cA ?_ _)|(with_reducible refine cN ?_ _)|(with_reducible refine cD ?_)))
        (case side12 => exact HC228_5.out)
        (case side13 => repeat (first|exact (Kd.C_below HR228_9.out HB.out)|(with_reducible refine cA ?_ _)|(with_reducible refine cN ?_ _)|(with_reducible refine cD ?_)))
        (case side14 => exact HC228_9.out)
        (case side15 => repeat (first|exact (Kd.C_below HR228_13.out HB.out)|(with_reducible refine cA ?_ _)|(with_reducible refine cN ?_ _)|(with_reducible refine cD ?_)))
        (case side16 => exact HC228_13.out)
        (case side17 => repeat (first|exact (Kd.C_below HR228_17.out HB.out)|(with_reducible refine cA ?_ _)|(with_reducible refine cN ?_ _)|(with_reducible refine cD ?_)))
        (case side18 => exact HC228_17.out)
        (case side19 => repeat (first|exact (Kd.C_below HR228_18.out HB.out)|(with_reducible refine cA ?_ _)|(with_reducible refine cN ?_ _)|(with_reducible refine cD ?_)))
        (case side20 => exact HC228_18.out)
        rintro e w10 ⟨rfl,hb⟩
        refine ⟨_,rfl,?_⟩
        have n0_ := mk0 (below_step (by repeat (first|(with_reducible first|exact HB.out|apply bA|apply bN|apply bD)|exact HB.out)) hb)
        clear HB
        have HB := n0_
        clear n0_
        (try clear hb)
        (try clear hb2)
        (try clear hk)
        (try clear hi)
        refine hK.out _ _ ⟨((HB.out.cell (World.block_lt_of_cell? w _ hw227_0)).trans hw227_0),((HB.out.cell (World.block_lt_of_cell? w _ hw227_1)).trans hw227_1),((HB.out.cell (World.block_lt_of_cell? w _ hw227_2)).trans hw227_2),((HB.out.cell (World.block_lt_of_cell? w _ hw227_3)).trans hw227_3),((HB.out.cell (World.block_lt_of_cell? w _ hw227_4)).trans hw227_4),((HB.out.cell (World.block_lt_of_cell? w _ hw227_5)).trans hw227_5),((HB.out.cell (World.block_lt_of_cell? w _ hw227_6)).trans hw227_6),((HB.out.cell (World.block_lt_of_cell? w _ hw227_7)).trans hw227_7),((HB.out.cell (World.block_lt_of_cell? w _ hw227_8)).trans hw227_8),((HB.out.cell (World.block_lt_of_cell? w _ hw227_9)).trans hw227_9),((HB.out.cell (World.block_lt_of_cell? w _ hw227_10)).trans hw227_10),((HB.out.cell (World.block_lt_of_cell? w _ hw227_11)).trans hw227_11),((HB.out.cell (World.block_lt_of_cell? w _ hw227_12)).trans hw227_12),((HB.out.cell (World.block_lt_of_cell? w _ hw227_13)).trans hw227_13),((HB.out.cell (World.block_lt_of_cell? w _ hw227_14)).trans hw227_14),((HB.out.cell (World.block_lt_of_cell? w _ hw227_15)).trans hw227_15),((HB.out.cell (World.block_lt_of_cell? w _ hw227_16)).trans hw227_16),((HB.out.cell (World.block_lt_of_cell? w _ hw227_17)).trans hw227_17),((HB.out.cell (World.block_lt_of_cell? w _ hw227_18)).trans hw227_18),((HB.out.cell (World.block_lt_of_cell? w _ hw228_0)).trans hw228_0),((HB.out.cell (World.block_lt_of_cell? w _ hw228_1)).trans hw228_1),((HB.out.cell (World.block_lt_of_cell? w _ hw228_2)).trans hw228_2),((HB.out.cell (World.block_lt_of_cell? w _ hw228_3)).trans hw228_3),((HB.out.cell (World.block_lt_of_cell? w _ hw228_4)).trans hw228_4),((HB.out.cell (World.block_lt_of_cell? w _ hw228_5)).trans hw228_5),((HB.out.cell (World.block_lt_of_cell? w _ hw228_6)).trans hw228_6),((HB.out.cell (World.block_lt_of_cell? w _ hw228_7)).trans hw228_7),((HB.out.cell (World.block_lt_of_cell? w _ hw228_8)).trans hw228_8),((HB.out.cell (World.block_lt_of_cell? w _ hw228_9)).trans hw228_9),((HB.out.cell (World.block_lt_of_cell? w _ hw228_10)).trans hw228_10),((HB.out.cell (World.block_lt_of_cell? w _ hw228_11)).trans hw228_11),((HB.out.cell (World.block_lt_of_cell? w _ hw228_12)).trans hw228_12),((HB.out.cell (World.block_lt_of_cell? w _ hw228_13)).trans hw228_13),((HB.out.cell (World.block_lt_of_cell? w _ hw228_14)).trans hw228_14),((HB.out.cell (World.block_lt_of_cell? w _ hw228_15)).trans hw228_15),((HB.out.cell (World.block_lt_of_cell? w _ hw228_16)).trans hw228_16),((HB.out.cell (World.block_lt_of_cell? w _ hw228_17)).trans hw228_17),((HB.out.cell (World.block_lt_of_cell? w _ hw228_18)).trans hw228_18)⟩ (fun hHeld => ?_)
        clear hK K
        refine norm_ (a' := ?_) ?_ ?_
        rotate_left
        ·show Act.put _ (some 25) _ = _
         simp only [Act.put,List.setIfInBounds_toArray,List.set_cons_zero,List.set_cons_succ,i64_w,i32_w]
         rfl
        refine pure_ (i := 9) (N := some 26) (v := ?_) (a' := ?_) #[true,true,true,true,true,true,true,true,true,true] rfl rfl (any_of HT_.out (by kernel_rfl)) (fun _ _ _ h => h) (Or.inl ⟨by rfl,?_⟩) ?_ ?_
        rotate_left
        ·intro w'
         go_simp
         with_reducible rfl
        rotate_left
        ·simp only [Act.put,List.setIfInBounds_toArray,List.set_cons_zero,List.set_cons_succ,i64_w,i32_w]
         rfl
        refine done_ (done_of HT_.out (by kernel_rfl)) ?_
        try go_wp2_with (first|((with_reducible refine gate_dst (N := 20) rfl ?_);first|(refine ldRow rfl 50 _ rfl _ rfl _ (row19 hx227_0 hx227_1 hx227_2 hx227_3 hx227_4 hx227_5 hx227_6 hx227_7 hx227_8 hx227_9 hx227_10 hx227_11 hx227_12 hx227_13 hx227_14 hx227_15 hx227_16 hx227_17 hx227_18) _ Try.underlying50 (by kernel_rfl) ?_)|(refine ldRow rfl 50 _ rfl _ rfl _ (row19 hx228_0 hx228_1 hx228_2 hx228_3 hx228_4 hx228_5 hx228_6 hx228_7 hx228_8 hx228_9 hx228_10 hx228_11 hx228_12 hx228_13 hx228_14 hx228_15 hx228_16 hx228_17 hx228_18) _ Try.underlying50 (by kernel_rfl) ?_))|((with_reducible refine gate_dst (N := 24) rfl ?_);first|(refine ldRow rfl 50 _ rfl _ rfl _ (row19 hx227_0 hx227_1 hx227_2 hx227_3 hx227_4 hx227_5 hx227_6 hx227_7 hx227_8 hx227_9 hx227_10 hx227_11 hx227_12 hx227_13 hx227_14 hx227_15 hx227_16 hx227_17 hx227_18) _ Try.underlying50 (by kernel_rfl) ?_)|(refine ldRow rfl 50 _ rfl _ rfl _ (row19 hx228_0 hx228_1 hx228_2 hx228_3 hx228_4 hx228_5 hx228_6 hx228_7 hx228_8 hx228_9 hx228_10 hx228_11 hx228_12 hx228_13 hx228_14 hx228_15 hx228_16 hx228_17 hx228_18) _ Try.underlying50 (by kernel_rfl) ?_)))
        go_roundg k1
        case measure => have := HK1.out;omega
        case rel => exact ⟨(wrap64 (x5_1 + 1)),(by first|rfl|(simp;done)|(simp [*];done)),H',⟨by have := HK1.out;omega⟩,⟨by repeat (first|(with_reducible first|exact HB.out|apply bA|apply bN|apply bD)|exact HB.out)⟩⟩
       ·replace c8 := Bool.eq_false_iff.mpr c8
        subst c8
        rw [if_neg (show ¬ (false = true) by decide)] at H
        obtain rfl := Option.some.inj H
        try go_wp2
        have n0_ := mk0 (bD HB.out)
        clear HB
        have HB := n0_
        clear n0_
        have p227 : 0 ≤ (x5_1 : Int) := of_decide_eq_true (by first|(with_reducible assumption)|assumption)
        have q227 : x5_1 < (l0.length : Int) := of_decide_eq_true (by first|(with_reducible assumption)|assumption)
        obtain ⟨ad227,A227_5,c227_5,A227_9,c227_9,A227_13,c227_13,A227_17,c227_17,A227_18,c227_18,e227,hx227_0,hx227_1,hx227_2,hx227_3,hx227_4,hx227_5,hx227_6,hx227_7,hx227_8,hx227_9,hx227_10,hx227_11,hx227_12,hx227_13,hx227_14,hx227_15,hx227_16,hx227_17,hx227_18,hl227_5,hi227_5,hl227_9,hi227_9,hl227_13,hi227_13,hl227_17,hi227_17,hl227_18,hi227_18⟩ := at_T50 HR0.out x5_1 p227 q227
        have hw227_18 := hx227_18
        have hw227_17 := hx227_17
        have hw227_16 := hx227_16
        have hw227_15 := hx227_15
        have hw227_14 := hx227_14
        have hw227_13 := hx227_13
        have hw227_12 := hx227_12
        have hw227_11 := hx227_11
        have hw227_10 := hx227_10
        have hw227_9 := hx227_9
        have hw227_8 := hx227_8
        have hw227_7 := hx227_7
        have hw227_6 := hx227_6
        have hw227_5 := hx227_5
        have hw227_4 := hx227_4
        have hw227_3 := hx227_3
        have hw227_2 := hx227_2
        have hw227_1 := hx227_1
        have hw227_0 := hx227_0
        cases e227
        replace hx227_0 := hbc HB.out hx227_0
        replace hx227_1 := hbc HB.out hx227_1
        replace hx227_2 := hbc HB.out hx227_2
        replace hx227_3 := hbc HB.out hx227_3
        replace hx227_4 := hbc HB.out hx227_4
        replace hx227_5 := hbc HB.out hx227_5
        replace hx227_6 := hbc HB.out hx227_6
        replace hx227_7 := hbc HB.out hx227_7
        replace hx227_8 := hbc HB.out hx227_8
        replace hx227_9 := hbc HB.out hx227_9
        replace hx227_10 := hbc HB.out hx227_10
        replace hx227_11 := hbc HB.out hx227_11
        replace hx227_12 := hbc HB.out hx227_12
        replace hx227_13 := hbc HB.out hx227_13
        replace hx227_14 := hbc HB.out hx227_14
        replace hx227_15 := hbc HB.out hx227_15
        replace hx227_16 := hbc HB.out hx227_16
        replace hx227_17 := hbc HB.out hx227_17
        replace hx227_18 := hbc HB.out hx227_18
        have HR227_5 := mk0 hi227_5
        have HC227_5 := mk0 hl227_5
        clear hi227_5 hl227_5
        have HR227_9 := mk0 hi227_9
        have HC227_9 := mk0 hl227_9
        clear hi227_9 hl227_9
        have HR227_13 := mk0 hi227_13
        have HC227_13 := mk0 hl227_13
        clear hi227_13 hl227_13
        have HR227_17 := mk0 hi227_17
        have HC227_17 := mk0 hl227_17
        clear hi227_17 hl227_17
        have HR227_18 := mk0 hi227_18
        have HC227_18 := mk0 hl227_18
        clear hi227_18 hl227_18
        replace p227 := eq_true p227
        replace q227 := eq_true q227
        have p228 : 0 ≤ (x5_1 : Int) := of_decide_eq_true (by first|(with_reducible assumption)|assumption)
        have q228 : x5_1 < (l1.length : Int) := of_decide_eq_true (by first|(with_reducible assumption)|assumption)
        obtain ⟨ad228,A228_5,c228_5,A228_9,c228_9,A228_13,c228_13,A228_17,c228_17,A228_18,c228_18,e228,hx228_0,hx228_1,hx228_2,hx228_3,hx228_4,hx228_5,hx228_6,hx228_7,hx228_8,hx228_9,hx228_10,hx228_11,hx228_12,hx228_13,hx228_14,hx228_15,hx228_16,hx228_17,hx228_18,hl228_5,hi228_5,hl228_9,hi228_9,hl228_13,hi228_13,hl228_17,hi228_17,hl228_18,hi228_18⟩ := at_T50 HR1.out x5_1 p228 q228
        have hw228_18 := hx228_18
        have hw228_17 := hx228_17
        have hw228_16 := hx228_16
        have hw228_15 := hx228_15
        have hw228_14 := hx228_14
        have hw228_13 := hx228_13
        have hw228_12 := hx228_12
        have hw228_11 := hx228_11
        have hw228_10 := hx228_10
        have hw228_9 := hx228_9
        have hw228_8 := hx228_8
        have hw228_7 := hx228_7
        have hw228_6 := hx228_6
        have hw228_5 := hx228_5
        have hw228_4 := hx228_4
        have hw228_3 := hx228_3
        have hw228_2 := hx228_2
        have hw228_1 := hx228_1
        have hw228_0 := hx228_0
        cases e228
        replace hx228_0 := hbc HB.out hx228_0
        replace hx228_1 := hbc HB.out hx228_1
        replace hx228_2 := hbc HB.out hx228_2
        replace hx228_3 := hbc HB.out hx228_3
        replace hx228_4 := hbc HB.out hx228_4
        replace hx228_5 := hbc HB.out hx228_5
        replace hx228_6 := hbc HB.out hx228_6
        replace hx228_7 := hbc HB.out hx228_7
        replace hx228_8 := hbc HB.out hx228_8
        replace hx228_9 := hbc HB.out hx228_9
        replace hx228_10 := hbc HB.out hx228_10
        replace hx228_11 := hbc HB.out hx228_11
        replace hx228_12 := hbc HB.out hx228_12
        replace hx228_13 := hbc HB.out hx228_13
        replace hx228_14 := hbc HB.out hx228_14
        replace hx228_15 := hbc HB.out hx228_15
        replace hx228_16 := hbc HB.out hx228_16
        replace hx228_17 := hbc HB.out hx228_17
        replace hx228_18 := hbc HB.out hx228_18
        have HR228_5 := mk0 hi228_5
        have HC228_5 := mk0 hl228_5
        clear hi228_5 hl228_5
        have HR228_9 := mk0 hi228_9
        have HC228_9 := mk0 hl228_9
        clear hi228_9 hl228_9
        have HR228_13 := mk0 hi228_13
        have HC228_13 := mk0 hl228_13
        clear hi228_13 hl228_13
        have HR228_17 := mk0 hi228_17
        have HC228_17 := mk0 hl228_17
        clear hi228_17 hl228_17
        have HR228_18 := mk0 hi228_18
        have HC228_18 := mk0 hl228_18
        clear hi228_18 hl228_18
        replace p228 := eq_true p228
        replace q228 := eq_true q228
        refine start_ (n := 10) (S := fun w' => w'.cell? (ad227.add ((x5_1).toNat * 19)) = some (.int .i64 ((rd_T50 l0 x5_1).f0)) ∧ w'.cell? ⟨(ad227.add ((x5_1).toNat * 19)).block,(ad227.add ((x5_1).toNat * 19)).off + 1,none⟩ = some (.string ((rd_T50 l0 x5_1).f1)) ∧ w'.cell? ⟨(ad227.add ((x5_1).toNat * 19)).block,(ad227.add ((x5_1).toNat * 19)).off + 2,none⟩ = some (.int .i64 ((rd_T50 l0 x5_1).f2.f0)) ∧ w'.cell? ⟨(ad227.add ((x5_1).toNat * 19)).block,(ad227.add ((x5_1).toNat * 19)).off + 3,none⟩ = some (.int .i64 ((rd_T50 l0 x5_1).f2.f1)) ∧ w'.cell? ⟨(ad227.add ((x5_1).toNat * 19)).block,(ad227.add ((x5_1).toNat * 19)).off + 4,none⟩ = some (.string ((rd_T50 l0 x5_1).f2.f2)) ∧ w'.cell? ⟨(ad227.add ((x5_1).toNat * 19)).block,(ad227.add ((x5_1).toNat * 19)).off + 5,none⟩ = some (.slice A227_5 ((rd_T50 l0 x5_1).f2.f3).length c227_5) ∧ w'.cell? ⟨(ad227.add ((x5_1).toNat * 19)).block,(ad227.add ((x5_1).toNat * 19)).off + 6,none⟩ = some (.int .i64 ((rd_T50 l0 x5_1).f3.f0)) ∧ w'.cell? ⟨(ad227.add ((x5_1).toNat * 19)).block,(ad227.add ((x5_1).toNat * 19)).off + 7,none⟩ = some (.int .i64 ((rd_T50 l0 x5_1).f3.f1)) ∧ w'.cell? ⟨(ad227.add ((x5_1).toNat * 19)).block,(ad227.add ((x5_1).toNat * 19)).off + 8,none⟩ = some (.string ((rd_T50 l0 x5_1).f3.f2)) ∧ w'.cell? ⟨(ad227.add ((x5_1).toNat * 19)).block,(ad227.add ((x5_1).toNat * 19)).off + 9,none⟩ = some (.slice A227_9 ((rd_T50 l0 x5_1).f3.f3).length c227_9) ∧ w'.cell? ⟨(ad227.add ((x5_1).toNat * 19)).block,(ad227.add ((x5_1).toNat * 19)).off + 10,none⟩ = some (.int .i64 ((rd_T50 l0 x5_1).f4.f0)) ∧ w'.cell? ⟨(ad227.add ((x5_1).toNat * 19)).block,(ad227.add ((x5_1).toNat * 19)).off + 11,none⟩ = some (.int .i64 ((rd_T50 l0 x5_1).f4.f1)) ∧ w'.cell? ⟨(ad227.add ((x5_1).toNat * 19)).block,(ad227.add ((x5_1).toNat * 19)).off + 12,none⟩ = some (.string ((rd_T50 l0 x5_1).f4.f2)) ∧ w'.cell? ⟨(ad227.add ((x5_1).toNat * 19)).block,(ad227.add ((x5_1).toNat * 19)).off + 13,none⟩ = some (.slice A227_13 ((rd_T50 l0 x5_1).f4.f3).length c227_13) ∧ w'.cell? ⟨(ad227.add ((x5_1).toNat * 19)).block,(ad227.add ((x5_1).toNat * 19)).off + 14,none⟩ = some (.int .i64 ((rd_T50 l0 x5_1).f5.f0)) ∧ w'.cell? ⟨(ad227.add ((x5_1).toNat * 19)).block,(ad227.add ((x5_1).toNat * 19)).off + 15,none⟩ = some (.int .i64 ((rd_T50 l0 x5_1).f5.f1)) ∧ w'.cell? ⟨(ad227.add ((x5_1).toNat * 19)).block,(ad227.add ((x5_1).toNat * 19)).off + 16,none⟩ = some (.string ((rd_T50 l0 x5_1).f5.f2)) ∧ w'.cell? ⟨(ad227.add ((x5_1).toNat * 19)).block,(ad227.add ((x5_1).toNat * 19)).off + 17,none⟩ = some (.slice A227_17 ((rd_T50 l0 x5_1).f5.f3).length c227_17) ∧ w'.cell? ⟨(ad227.add ((x5_1).toNat * 19)).block,(ad227.add ((x5_1).toNat * 19)).off + 18,none⟩ = some (.slice A227_18 ((rd_T50 l0 x5_1).f6).length c227_18) ∧ w'.cell? (ad228.add ((x5_1).toNat * 19)) = some (.int .i64 ((rd_T50 l1 x5_1).f0)) ∧ w'.cell? ⟨(ad228.add ((x5_1).toNat * 19)).block,(ad228.add ((x5_1).toNat * 19)).off + 1,none⟩ = some (.string ((rd_T50 l1 x5_1).f1)) ∧ w'.cell? ⟨(ad228.add ((x5_1).toNat * 19)).block,(ad228.add ((x5_1).toNat * 19)).off + 2,none⟩ = some (.int .i64 ((rd_T50 l1 x5_1).f2.f0)) ∧ w'.cell? ⟨(ad228.add ((x5_1).toNat * 19)).block,(ad228.add ((x5_1).toNat * 19)).off + 3,none⟩ = some (.int .i64 ((rd_T50 l1 x5_1).f2.f1)) ∧ w'.cell? ⟨(ad228.add ((x5_1).toNat * 19)).block,(ad228.add ((x5_1).toNat * 19)).off + 4,none⟩ = some (.string ((rd_T50 l1 x5_1).f2.f2)) ∧ w'.cell? ⟨(ad228.add ((x5_1).toNat * 19)).block,(ad228.add ((x5_1).toNat * 19)).off + 5,none⟩ = some (.slice A228_5 ((rd_T50 l1 x5_1).f2.f3).length c228_5) ∧ w'.cell? ⟨(ad228.add ((x5_1).toNat * 19)).block,(ad228.add ((x5_1).toNat * 19)).off + 6,none⟩ = some (.int .i64 ((rd_T50 l1 x5_1).f3.f0)) ∧ w'.cell? ⟨(ad228.add ((x5_1).toNat * 19)).block,(ad228.add ((x5_1).toNat * 19)).off + 7,none⟩ = some (.int .i64 ((rd_T50 l1 x5_1).f3.f1)) ∧ w'.cell? ⟨(ad228.add ((x5_1).toNat * 19)).block,(ad228.add ((x5_1).toNat * 19)).off + 8,none⟩ = some (.string ((rd_T50 l1 x5_1).f3.f2)) ∧ w'.cell? ⟨(ad228.add ((x5_1).toNat * 19)).block,(ad228.add ((x5_1).toNat * 19)).off + 9,none⟩ = some (.slice A228_9 ((rd_T50 l1 x5_1).f3.f3).length c228_9) ∧ w'.cell? ⟨(ad228.add ((x5_1).toNat * 19)).block,(ad228.add ((x5_1).toNat * 19)).off + 10,none⟩ = some (.int .i64 ((rd_T50 l1 x5_1).f4.f0)) ∧ w'.cell? ⟨(ad228.add ((x5_1).toNat * 19)).block,(ad228.add ((x5_1).toNat * 19)).off + 11,none⟩ = some (.int .i64 ((rd_T50 l1 x5_1).f4.f1)) ∧ w'.cell? ⟨(ad228.add ((x5_1).toNat * 19)).block,(ad228.add ((x5_1).toNat * 19)).off + 12,none⟩ = some (.string ((rd_T50 l1 x5_1).f4.f2)) ∧ w'.cell? ⟨(ad228.add ((x5_1).toNat * 19)).block,(ad228.add ((x5_1).toNat * 19)).off + 13,none⟩ = some (.slice A228_13 ((rd_T50 l1 x5_1).f4.f3).length c228_13) ∧ w'.cell? ⟨(ad228.add ((x5_1).toNat * 19)).block,(ad228.add ((x5_1).toNat * 19)).off + 14,none⟩ = some (.int .i64 ((rd_T50 l1 x5_1).f5.f0)) ∧ w'.cell? ⟨(ad228.add ((x5_1).toNat * 19)).block,(ad228.add ((x5_1).toNat * 19)).off + 15,none⟩ = some (.int .i64 ((rd_T50 l1 x5_1).f5.f1)) ∧ w'.cell? ⟨(ad228.add ((x5_1).toNat * 19)).block,(ad228.add ((x5_1).toNat * 19)).off + 16,none⟩ = some (.string ((rd_T50 l1 x5_1).f5.f2)) ∧ w'.cell? ⟨(ad228.add ((x5_1).toNat * 19)).block,(ad228.add ((x5_1).toNat * 19)).off + 17,none⟩ = some (.slice A228_17 ((rd_T50 l1 x5_1).f5.f3).length c228_17) ∧ w'.cell? ⟨(ad228.add ((x5_1).toNat * 19)).block,(ad228.add ((x5_1).toNat * 19)).off + 18,none⟩ = some (.slice A228_18 ((rd_T50 l1 x5_1).f6).length c228_18)) (ds := []) #[false,false,false,false,false,false,false,false,false,false] (by kernel_rfl) rfl rfl ⟨((HB.out.cell (World.block_lt_of_cell? w _ hw227_0)).trans hw227_0),((HB.out.cell (World.block_lt_of_cell? w _ hw227_1)).trans hw227_1),((HB.out.cell (World.block_lt_of_cell? w _ hw227_2)).trans hw227_2),((HB.out.cell (World.block_lt_of_cell? w _ hw227_3)).trans hw227_3),((HB.out.cell (World.block_lt_of_cell? w _ hw227_4)).trans hw227_4),((HB.out.cell (World.block_lt_of_cell? w _ hw227_5)).trans hw227_5),((HB.out.cell (World.block_lt_of_cell? w _ hw227_6)).trans hw227_6),((HB.out.cell (World.block_lt_of_cell? w _ hw227_7)).trans hw227_7),((HB.out.cell (World.block_lt_of_cell? w _ hw227_8)).trans hw227_8),((HB.out.cell (World.block_lt_of_cell? w _ hw227_9)).trans hw227_9),((HB.out.cell (World.block_lt_of_cell? w _ hw227_10)).trans hw227_10),((HB.out.cell (World.block_lt_of_cell? w _ hw227_11)).trans hw227_11),((HB.out.cell (World.block_lt_of_cell? w _ hw227_12)).trans hw227_12),((HB.out.cell (World.block_lt_of_cell? w _ hw227_13)).trans hw227_13),((HB.out.cell (World.block_lt_of_cell? w _ hw227_14)).trans hw227_14),((HB.out.cell (World.block_lt_of_cell? w _ hw227_15)).trans hw227_15),((HB.out.cell (World.block_lt_of_cell? w _ hw227_16)).trans hw227_16),((HB.out.cell (World.block_lt_of_cell? w _ hw227_17)).trans hw227_17),((HB.out.cell (World.block_lt_of_cell? w _ hw227_18)).trans hw227_18),((HB.out.cell (World.block_lt_of_cell? w _ hw228_0)).trans hw228_0),((HB.out.cell (World.block_lt_of_cell? w _ hw228_1)).trans hw228_1),((HB.out.cell (World.block_lt_of_cell? w _ hw228_2)).trans hw228_2),((HB.out.cell (World.block_lt_of_cell? w _ hw228_3)).trans hw228_3),((HB.out.cell (World.block_lt_of_cell? w _ hw228_4)).trans hw228_4),((HB.out.cell (World.block_lt_of_cell? w _ hw228_5)).trans hw228_5),((HB.out.cell (World.block_lt_of_cell? w _ hw228_6)).trans hw228_6),((HB.out.cell (World.block_lt_of_cell? w _ hw228_7)).trans hw228_7),((HB.out.cell (World.block_lt_of_cell? w _ hw228_8)).trans hw228_8),((HB.out.cell (World.block_lt_of_cell? w _ hw228_9)).trans hw228_9),((HB.out.cell (World.block_lt_of_cell? w _ hw228_10)).trans hw228_10),((HB.out.cell (World.block_lt_of_cell? w _ hw228_11)).trans hw228_11),((HB.out.cell (World.block_lt_of_cell? w _ hw228_12)).trans hw228_12),((HB.out.cell (World.block_lt_of_cell? w _ hw228_13)).trans hw228_13),((HB.out.cell (World.block_lt_of_cell? w _ hw228_14)).trans hw228_14),((HB.out.cell (World.block_lt_of_cell? w _ hw228_15)).trans hw228_15),((HB.out.cell (World.block_lt_of_cell? w _ hw228_16)).trans hw228_16),((HB.out.cell (World.block_lt_of_cell? w _ hw228_17)).trans hw228_17),((HB.out.cell (World.block_lt_of_cell? w _ hw228_18)).trans hw228_18)⟩ (fun hHeld => ?_);refine with_tabW laws_eqStmtS.tab6 laws_eqStmtS.bits6 (fun HT_ HW_ => ?_)
        generalize wr.drew = w11 at HB HR227_13 HR227_17 HR227_18 HR227_5 HR227_9 HR228_13 HR228_17 HR228_18 HR228_5 HR228_9 hx227_0 hx227_1 hx227_10 hx227_11 hx227_12 hx227_13 hx227_14 hx227_15 hx227_16 hx227_17 hx227_18 hx227_2 hx227_3 hx227_4 hx227_5 hx227_6 hx227_7 hx227_8 hx227_9 hx228_0 hx228_1 hx228_10 hx228_11 hx228_12 hx228_13 hx228_14 hx228_15 hx228_16 hx228_17 hx228_18 hx228_2 hx228_3 hx228_4 hx228_5 hx228_6 hx228_7 hx228_8 hx228_9 hHeld ⊢
        refine pure_ (i := 0) (N := some 17) (v := ?_) (a' := ?_) #[true,false,false,false,false,false,false,false,false,false] rfl rfl (any_of HT_.out (by kernel_rfl)) (fun _ _ _ h => h) (Or.inl ⟨by rfl,?_⟩) ?_ ?_
        rotate_left
        ·intro w'
         go_simp
         with_reducible rfl
        rotate_left
        ·simp only [Act.put,List.setIfInBounds_toArray,List.set_cons_zero,List.set_cons_succ,i64_w,i32_w]
         rfl
        refine pure_ (i := 1) (N := some 18) (v := ?_) (a' := ?_) #[true,true,false,false,false,false,false,false,false,false] rfl rfl (any_of HT_.out (by kernel_rfl)) (fun _ _ _ h => h) (Or.inl ⟨by rfl,?_⟩) ?_ ?_
        rotate_left
        ·intro w'
         go_simp
         with_reducible rfl
        rotate_left
        ·simp only [Act.put,List.setIfInBounds_toArray,List.set_cons_zero,List.set_cons_succ,i64_w,i32_w]
         rfl
        refine pure_ (i := 2) (N := some 19) (v := ?_) (a' := ?_) #[true,true,true,false,false,false,false,false,false,false] rfl rfl (any_of HT_.out (by kernel_rfl)) (fun _ _ _ h => h) (Or.inl ⟨by rfl,?_⟩) ?_ ?_
        rotate_left
        ·intro w'
         go_simp
         with_reducible rfl
        rotate_left
        ·simp only [Act.put,List.setIfInBounds_toArray,List.set_cons_zero,List.set_cons_succ,i64_w,i32_w]
         rfl
        refine pure_ (i := 4) (N := some 21) (v := ?_) (a' := ?_) #[true,true,true,false,true,false,false,false,false,false] rfl rfl (any_of HT_.out (by kernel_rfl)) (fun _ _ _ h => h) (Or.inl ⟨by rfl,?_⟩) ?_ ?_
        rotate_left
        ·intro w'
         go_simp
         with_reducible rfl
        rotate_left
        ·simp only [Act.put,List.setIfInBounds_toArray,List.set_cons_zero,List.set_cons_succ,i64_w,i32_w]
         rfl
        refine pure_ (i := 5) (N := some 22) (v := ?_) (a' := ?_) #[true,true,true,false,true,true,false,false,false,false] rfl rfl (any_of HT_.out (by kernel_rfl)) (fun _ _ _ h => h) (Or.inl ⟨by rfl,?_⟩) ?_ ?_
        rotate_left
        ·intro w'
         go_simp
         with_reducible rfl
        rotate_left
        ·simp only [Act.put,List.setIfInBounds_toArray,List.set_cons_zero,List.set_cons_succ,i64_w,i32_w]
         rfl
        refine pure_ (i := 6) (N := some 23) (v := ?_) (a' := ?_) #[true,true,true,false,true,true,true,false,false,false] rfl rfl (any_of HT_.out (by kernel_rfl)) (fun _ _ _ h => h) (Or.inl ⟨by rfl,?_⟩) ?_ ?_
        rotate_left
        ·intro w'
         go_simp
         with_reducible rfl
        rotate_left
        ·simp only [Act.put,List.setIfInBounds_toArray,List.set_cons_zero,List.set_cons_succ,i64_w,i32_w]
         rfl
        refine take_ (i := 3) (N := some 20) (v := ?_) (a' := ?_) #[true,true,true,true,true,true,true,false,false,false] rfl rfl (take_ofW HT_.out HW_.out (by kernel_rfl)) (fun _ _ _ h => h) (Or.inl ⟨by rfl,?_⟩) hHeld ?_ ?_
        rotate_left
        ·rintro w' ⟨s0,s1,s2,s3,s4,s5,s6,s7,s8,s9,s10,s11,s12,s13,s14,s15,s16,s17,s18,s19,s20,s21,s22,s23,s24,s25,s26,s27,s28,s29,s30,s31,s32,s33,s34,s35,s36,s37⟩
         first|(refine ldRun 50 ?x490_0 ?ho490_0 _ ?hx490_0 _ (row19 s0 s1 s2 s3 s4 s5 s6 s7 s8 s9 s10 s11 s12 s13 s14 s15 s16 s17 s18) _ Try.underlying50 (by kernel_rfl);(case ho490_0 => rfl);(case hx490_0 => rfl))|(refine ldRun 50 ?x490_19 ?ho490_19 _ ?hx490_19 _ (row19 s19 s20 s21 s22 s23 s24 s25 s26 s27 s28 s29 s30 s31 s32 s33 s34 s35 s36 s37) _ Try.underlying50 (by kernel_rfl);(case ho490_19 => rfl);(case hx490_19 => rfl))
        rotate_left
        ·simp only [Act.put,List.setIfInBounds_toArray,List.set_cons_zero,List.set_cons_succ,i64_w,i32_w]
         rfl
        refine take_ (i := 7) (N := some 24) (v := ?_) (a' := ?_) #[true,true,true,true,true,true,true,true,false,false] rfl rfl (take_ofW HT_.out HW_.out (by kernel_rfl)) (fun _ _ _ h => h) (Or.inl ⟨by rfl,?_⟩) hHeld ?_ ?_
        rotate_left
        ·rintro w' ⟨s0,s1,s2,s3,s4,s5,s6,s7,s8,s9,s10,s11,s12,s13,s14,s15,s16,s17,s18,s19,s20,s21,s22,s23,s24,s25,s26,s27,s28,s29,s30,s31,s32,s33,s34,s35,s36,s37⟩
         first|(refine ldRun 50 ?x498_0 ?ho498_0 _ ?hx498_0 _ (row19 s0 s1 s2 s3 s4 s5 s6 s7 s8 s9 s10 s11 s12 s13 s14 s15 s16 s17 s18) _ Try.underlying50 (by kernel_rfl);(case ho498_0 => rfl);(case hx498_0 => rfl))|(refine ldRun 50 ?x498_19 ?ho498_19 _ ?hx498_19 _ (row19 s19 s20 s21 s22 s23 s24 s25 s26 s27 s28 s29 s30 s31 s32 s33 s34 s35 s36 s37) _ Try.underlying50 (by kernel_rfl);(case ho498_19 => rfl);(case hx498_19 => rfl))
        rotate_left
        ·simp only [Act.put,List.setIfInBounds_toArray,List.set_cons_zero,List.set_cons_succ,i64_w,i32_w]
         rfl
        refine one_ (i := 8) (N := some 25) #[true,true,true,true,true,true,true,true,true,false] rfl rfl (one_of HT_.out (by kernel_rfl)) (by decide) (fun K hK => ?_)
        refine goes_ Try.func26 (by kernel_rfl) rfl #[.agg #[.int .i64 ((rd_T50 l0 x5_1).f0),.string ((rd_T50 l0 x5_1).f1),.int .i64 ((rd_T50 l0 x5_1).f2.f0),.int .i64 ((rd_T50 l0 x5_1).f2.f1),.string ((rd_T50 l0 x5_1).f2.f2),.slice A227_5 ((rd_T50 l0 x5_1).f2.f3).length c227_5,.int .i64 ((rd_T50 l0 x5_1).f3.f0),.int .i64 ((rd_T50 l0 x5_1).f3.f1),.string ((rd_T50 l0 x5_1).f3.f2),.slice A227_9 ((rd_T50 l0 x5_1).f3.f3).length c227_9,.int .i64 ((rd_T50 l0 x5_1).f4.f0),.int .i64 ((rd_T50 l0 x5_1).f4.f1),.string ((rd_T50 l0 x5_1).f4.f2),.slice A227_13 ((rd_T50 l0 x5_1).f4.f3).length c227_13,.int .i64 ((rd_T50 l0 x5_1).f5.f0),.int .i64 ((rd_T50 l0 x5_1).f5.f1),.string ((rd_T50 l0 x5_1).f5.f2),.slice A227_17 ((rd_T50 l0 x5_1).f5.f3).length c227_17,.slice A227_18 ((rd_T50 l0 x5_1).f6).length c227_18],.agg #[.int .i64 ((rd_T50 l1 x5_1).f0),.string ((rd_T50 l1 x5_1).f1),.int .i64 ((rd_T50 l1 x5_1).f2.f0),.int .i64 ((rd_T50 l1 x5_1).f2.f1),.string ((rd_T50 l1 x5_1).f2.f2),.slice A228_5 ((rd_T50 l1 x5_1).f2.f3).length c228_5,.int .i64 ((rd_T50 l1 x5_1).f3.f0),.int .i64 ((rd_T50 l1 x5_1).f3.f1),.string ((rd_T50 l1 x5_1).f3.f2),.slice A228_9 ((rd_T50 l1 x5_1).f3.f3).length c228_9,.int .i64 ((rd_T50 l1 x5_1).f4.f0),.int .i64 ((rd_T50 l1 x5_1).f4.f1),.string ((rd_T50 l1 x5_1).f4.f2),.slice A228_13 ((rd_T50 l1 x5_1).f4.f3).length c228_13,.int .i64 ((rd_T50 l1 x5_1).f5.f0),.int .i64 ((rd_T50 l1 x5_1).f5.f1),.string ((rd_T50 l1 x5_1).f5.f2),.slice A228_17 ((rd_T50 l1 x5_1).f5.f3).length c228_17,.slice A228_18 ((rd_T50 l1 x5_1).f6).length c228_18]] (by rfl) rfl rfl (by (try simp only [List.map_toArray,List.map_cons,List.map_nil]);first|done|rfl) ?_
        with_reducible refine (IH.out k1 (by have := HK1.out;omega) ((rd_T50 l0 x5_1).f0) ((rd_T50 l0 x5_1).f1) ((rd_T50 l0 x5_1).f2.f0) ((rd_T50 l0 x5_1).f2.f1) ((rd_T50 l0 x5_1).f2.f2) _ _ ((rd_T50 l0 x5_1).f2.f3) ((rd_T50 l0 x5_1).f3.f0) ((rd_T50 l0 x5_1).f3.f1) ((rd_T50 l0 x5_1).f3.f2) _ _ ((rd_T50 l0 x5_1).f3.f3) ((rd_T50 l0 x5_1).f4.f0) ((rd_T50 l0 x5_1).f4.f1) ((rd_T50 l0 x5_1).f4.f2) _ _ ((rd_T50 l0 x5_1).f4.f3) ((rd_T50 l0 x5_1).f5.f0) ((rd_T50 l0 x5_1).f5.f1) ((rd_T50 l0 x5_1).f5.f2) _ _ ((rd_T50 l0 x5_1).f5.f3) _ _ ((rd_T50 l0 x5_1).f6) ((rd_T50 l1 x5_1).f0) ((rd_T50 l1 x5_1).f1) ((rd_T50 l1 x5_1).f2.f0) ((rd_T50 l1 x5_1).f2.f1) ((rd_T50 l1 x5_1).f2.f2) _ _ ((rd_T50 l1 x5_1).f2.f3) ((rd_T50 l1 x5_1).f3.f0) ((rd_T50 l1 x5_1).f3.f1) ((rd_T50 l1 x5_1).f3.f2) _ _ ((rd_T50 l1 x5_1).f3.f3) ((rd_T50 l1 x5_1).f4.f0) ((rd_T50 l1 x5_1).f4.f1) ((rd_T50 l1 x5_1).f4.f2) _ _ ((rd_T50 l1 x5_1).f4.f3) ((rd_T50 l1 x5_1).f5.f0) ((rd_T50 l1 x5_1).f5.f1) ((rd_T50 l1 x5_1).f5.f2) _ _ ((rd_T50 l1 x5_1).f5.f3) _ _ ((rd_T50 l1 x5_1).f6) false _ ?side1 ?side2 ?side3 ?side4 ?side5 ?side6 ?side7 ?side8 ?side9 ?side10 ?side11 ?side12 ?side13 ?side14 ?side15 ?side16 ?side17 ?side18 ?side19 ?side20 A7.out).mono ?_
        (case side1 => repeat (first|exact (Kd.C_below HR227_5.out HB.out)|(with_reducible refine cA ?_ _)|(with_reducible refine cN ?_ _)|(with_reducible refine cD ?_)))
        (case side2 => exact HC227_5.out)
        (case side3 => repeat (first|exact (Kd.C_below HR227_9.out HB.out)|(with_reducible refine cA ?_ _)|(with_reducible refine cN ?_ _)|(with_reducible refine cD ?_)))
        (case side4 => exact HC227_9.out)
        (case side5 => repeat (first|exact (Kd.C_below HR227_13.out HB.out)|(with_reducible refine cA ?_ _)|(with_reducible refine cN ?_ _)|(with_reducible refine cD ?_)))
        (case side6 => exact HC227_13.out)
        (case side7 => repeat (first|exact (Kd.C_below HR227_17.out HB.out)|(with_reducible refine cA ?_ _)|(with_reducible refine cN ?_ _)|(with_reducible refine cD ?_)))
        (case side8 => exact HC227_17.out)
        (case side9 => repeat (first|exact (Kd.C_below HR227_18.out HB.out)|(with_reducible refine cA ?_ _)|(with_reducible refine cN ?_ _)|(with_reducible refine cD ?_)))
        (case side10 => exact HC227_18.out)
        (case side11 => repeat (first|exact (Kd.C_below HR228_5.out HB.out)|(with_reducible refine cA ?_ _)|(with_reducible refine cN ?_ _)|(with_reducible refine cD ?_)))
        (case side12 => exact HC228_5.out)
        (case side13 => repeat (first|exact (Kd.C_below HR228_9.out HB.out)|(with_reducible refine cA ?_ _)|(with_reducible refine cN ?_ _)|(with_reducible refine cD ?_)))
        (case side14 => exact HC228_9.out)
        (case side15 => repeat (first|exact (Kd.C_below HR228_13.out HB.out)|(with_reducible refine cA ?_ _)|(with_reducible refine cN ?_ _)|(with_reducible refine cD ?_)))
        (case side16 => exact HC228_13.out)
        (case side17 => repeat (first|exact (Kd.C_below HR228_17.out HB.out)|(with_reducible refine cA ?_ _)|(with_reducible refine cN ?_ _)|(with_reducible refine cD ?_)))
        (case side18 => exact HC228_17.out)
        (case side19 => repeat (first|exact (Kd.C_below HR228_18.out HB.out)|(with_reducible refine cA ?_ _)|(with_reducible refine cN ?_ _)|(with_reducible refine cD ?_)))
        (case side20 => exact HC228_18.out)
        rintro e w12 ⟨rfl,hb⟩
        refine ⟨_,rfl,?_⟩
        have n0_ := mk0 (below_step (by repeat (first|(with_reducible first|exact HB.out|apply bA|apply bN|apply bD)|exact HB.out)) hb)
        clear HB
        have HB := n0_
        clear n0_
        (try clear hb)
        (try clear hb2)
        (try clear hk)
        (try clear hi)
        refine hK.out _ _ ⟨((HB.out.cell (World.block_lt_of_cell? w _ hw227_0)).trans hw227_0),((HB.out.cell (World.block_lt_of_cell? w _ hw227_1)).trans hw227_1),((HB.out.cell (World.block_lt_of_cell? w _ hw227_2)).trans hw227_2),((HB.out.cell (World.block_lt_of_cell? w _ hw227_3)).trans hw227_3),((HB.out.cell (World.block_lt_of_cell? w _ hw227_4)).trans hw227_4),((HB.out.cell (World.block_lt_of_cell? w _ hw227_5)).trans hw227_5),((HB.out.cell (World.block_lt_of_cell? w _ hw227_6)).trans hw227_6),((HB.out.cell (World.block_lt_of_cell? w _ hw227_7)).trans hw227_7),((HB.out.cell (World.block_lt_of_cell? w _ hw227_8)).trans hw227_8),((HB.out.cell (World.block_lt_of_cell? w _ hw227_9)).trans hw227_9),((HB.out.cell (World.block_lt_of_cell? w _ hw227_10)).trans hw227_10),((HB.out.cell (World.block_lt_of_cell? w _ hw227_11)).trans hw227_11),((HB.out.cell (World.block_lt_of_cell? w _ hw227_12)).trans hw227_12),((HB.out.cell (World.block_lt_of_cell? w _ hw227_13)).trans hw227_13),((HB.out.cell (World.block_lt_of_cell? w _ hw227_14)).trans hw227_14),((HB.out.cell (World.block_lt_of_cell? w _ hw227_15)).trans hw227_15),((HB.out.cell (World.block_lt_of_cell? w _ hw227_16)).trans hw227_16),((HB.out.cell (World.block_lt_of_cell? w _ hw227_17)).trans hw227_17),((HB.out.cell (World.block_lt_of_cell? w _ hw227_18)).trans hw227_18),((HB.out.cell (World.block_lt_of_cell? w _ hw228_0)).trans hw228_0),((HB.out.cell (World.block_lt_of_cell? w _ hw228_1)).trans hw228_1),((HB.out.cell (World.block_lt_of_cell? w _ hw228_2)).trans hw228_2),((HB.out.cell (World.block_lt_of_cell? w _ hw228_3)).trans hw228_3),((HB.out.cell (World.block_lt_of_cell? w _ hw228_4)).trans hw228_4),((HB.out.cell (World.block_lt_of_cell? w _ hw228_5)).trans hw228_5),((HB.out.cell (World.block_lt_of_cell? w _ hw228_6)).trans hw228_6),((HB.out.cell (World.block_lt_of_cell? w _ hw228_7)).trans hw228_7),((HB.out.cell (World.block_lt_of_cell? w _ hw228_8)).trans hw228_8),((HB.out.cell (World.block_lt_of_cell? w _ hw228_9)).trans hw228_9),((HB.out.cell (World.block_lt_of_cell? w _ hw228_10)).trans hw228_10),((HB.out.cell (World.block_lt_of_cell? w _ hw228_11)).trans hw228_11),((HB.out.cell (World.block_lt_of_cell? w _ hw228_12)).trans hw228_12),((HB.out.cell (World.block_lt_of_cell? w _ hw228_13)).trans hw228_13),((HB.out.cell (World.block_lt_of_cell? w _ hw228_14)).trans hw228_14),((HB.out.cell (World.block_lt_of_cell? w _ hw228_15)).trans hw228_15),((HB.out.cell (World.block_lt_of_cell? w _ hw228_16)).trans hw228_16),((HB.out.cell (World.block_lt_of_cell? w _ hw228_17)).trans hw228_17),((HB.out.cell (World.block_lt_of_cell? w _ hw228_18)).trans hw228_18)⟩ (fun hHeld => ?_)
        clear hK K
        refine norm_ (a' := ?_) ?_ ?_
        rotate_left
        ·show Act.put _ (some 25) _ = _
         simp only [Act.put,List.setIfInBounds_toArray,List.set_cons_zero,List.set_cons_succ,i64_w,i32_w]
         rfl
        refine pure_ (i := 9) (N := some 26) (v := ?_) (a' := ?_) #[true,true,true,true,true,true,true,true,true,true] rfl rfl (any_of HT_.out (by kernel_rfl)) (fun _ _ _ h => h) (Or.inl ⟨by rfl,?_⟩) ?_ ?_
        rotate_left
        ·intro w'
         go_simp
         with_reducible rfl
        rotate_left
        ·simp only [Act.put,List.setIfInBounds_toArray,List.set_cons_zero,List.set_cons_succ,i64_w,i32_w]
         rfl
        refine done_ (done_of HT_.out (by kernel_rfl)) ?_
        try go_wp2_with (first|((with_reducible refine gate_dst (N := 20) rfl ?_);first|(refine ldRow rfl 50 _ rfl _ rfl _ (row19 hx227_0 hx227_1 hx227_2 hx227_3 hx227_4 hx227_5 hx227_6 hx227_7 hx227_8 hx227_9 hx227_10 hx227_11 hx227_12 hx227_13 hx227_14 hx227_15 hx227_16 hx227_17 hx227_18) _ Try.underlying50 (by kernel_rfl) ?_)|(refine ldRow rfl 50 _ rfl _ rfl _ (row19 hx228_0 hx228_1 hx228_2 hx228_3 hx228_4 hx228_5 hx228_6 hx228_7 hx228_8 hx228_9 hx228_10 hx228_11 hx228_12 hx228_13 hx228_14 hx228_15 hx228_16 hx228_17 hx228_18) _ Try.underlying50 (by kernel_rfl) ?_))|((with_reducible refine gate_dst (N := 24) rfl ?_);first|(refine ldRow rfl 50 _ rfl _ rfl _ (row19 hx227_0 hx227_1 hx227_2 hx227_3 hx227_4 hx227_5 hx227_6 hx227_7 hx227_8 hx227_9 hx227_10 hx227_11 hx227_12 hx227_13 hx227_14 hx227_15 hx227_16 hx227_17 hx227_18) _ Try.underlying50 (by kernel_rfl) ?_)|(refine ldRow rfl 50 _ rfl _ rfl _ (row19 hx228_0 hx228_1 hx228_2 hx228_3 hx228_4 hx228_5 hx228_6 hx228_7 hx228_8 hx228_9 hx228_10 hx228_11 hx228_12 hx228_13 hx228_14 hx228_15 hx228_16 hx228_17 hx228_18) _ Try.underlying50 (by kernel_rfl) ?_)))
        go_ret
        exact ⟨by first|rfl|(simp [errW_none,errW_some] <;> rfl)|(simp [*,errW_none,errW_some] <;> rfl),by repeat (first|(with_reducible first|exact HB.out|apply bA|apply bN|apply bD)|exact HB.out)⟩
      ·rw [if_neg c6] at H
       exact absurd H (by simp)
     ·rw [if_neg c5] at H
      exact absurd H (by simp)
    ·rw [if_neg c4] at H
     have c4b0 : decide (x5_1 < (l0.length : Int)) = false := decide_eq_false c4
     clear c4
     obtain rfl := Option.some.inj H
     go_wp2
     go_ret
     exact ⟨by first|rfl|(simp [errW_none,errW_some] <;> rfl)|(simp [*,errW_none,errW_some] <;> rfl),by repeat (first|(with_reducible first|exact HB.out|apply bA|apply bN|apply bD)|exact HB.out)⟩
 ·rw [if_neg c3] at H
  have c3b0 : ((l0.length : Int) == (l1.length : Int)) = false := beq_eq_false_iff_ne.mpr c3
  have c3b1 : ((l0.length : Int) != (l1.length : Int)) = true := bne_iff_ne.mpr c3
  have c3b2 : (l0.length == l1.length) = false := by first|simpa using c3|(simp at c3 ⊢;omega)
  obtain rfl := Option.some.inj H
  go_enter Try.func61,Try.ntmps61
  go_wp2
  go_ret
  exact ⟨by first|rfl|(simp [errW_none,errW_some] <;> rfl)|(simp [*,errW_none,errW_some] <;> rfl),by repeat (first|(with_reducible first|exact HB.out|apply bA|apply bN|apply bD)|exact HB.out)⟩
theorem laws_eqStmt_eqStmtS_both.calls : ∀ k, (∀ (a0_0 : Int) (a0_1 : ByteArray) (a0_2 : Int) (a0_3 : Int) (a0_4 : ByteArray) (A0_5 : Option Addr) (c0_5 : Nat) (l0_5 : List (S29)) (a0_6 : Int) (a0_7 : Int) (a0_8 : ByteArray) (A0_9 : Option Addr) (c0_9 : Nat) (l0_9 : List (S29)) (a0_10 : Int) (a0_11 : Int) (a0_12 : ByteArray) (A0_13 : Option Addr) (c0_13 : Nat) (l0_13 : List (S29)) (a0_14 : Int) (a0_15 : Int) (a0_16 : ByteArray) (A0_17 : Option Addr) (c0_17 : Nat) (l0_17 : List (S29)) (A0_18 : Option Addr) (c0_18 : Nat) (l0_18 : List (S50)) (a1_0 : Int) (a1_1 : ByteArray) (a1_2 : Int) (a1_3 : Int) (a1_4 : ByteArray) (A1_5 : Option Addr) (c1_5 : Nat) (l1_5 : List (S29)) (a1_6 : Int) (a1_7 : Int) (a1_8 : ByteArray) (A1_9 : Option Addr) (c1_9 : Nat) (l1_9 : List (S29)) (a1_10 : Int) (a1_11 : Int) (a1_12 : ByteArray) (A1_13 : Option Addr) (c1_13 : Nat) (l1_13 : List (S29)) (a1_14 : Int) (a1_15 : Int) (a1_16 : ByteArray) (A1_17 : Option Addr) (c1_17 : Nat) (l1_17 : List (S29)) (A1_18 : Option Addr) (c1_18 : Nat) (l1_18 : List (S50)) (r : Bool) (w : World) (hr0_5 : Kd.C k29 w A0_5 l0_5.length l0_5) (hc0_5 : l0_5.length ≤ c0_5) (hr0_9 : Kd.C k29 w A0_9 l0_9.length l0_9) (hc0_9 : l0_9.length ≤ c0_9) (hr0_13 : Kd.C k29 w A0_13 l0_13.length l0_13) (hc0_13 : l0_13.length ≤ c0_13) (hr0_17 : Kd.C k29 w A0_17 l0_17.length l0_17) (hc0_17 : l0_17.length ≤ c0_17) (hr0_18 : Kd.C k50 w A0_18 l0_18.length l0_18) (hc0_18 : l0_18.length ≤ c0_18) (hr1_5 : Kd.C k29 w A1_5 l1_5.length l1_5) (hc1_5 : l1_5.length ≤ c1_5) (hr1_9 : Kd.C k29 w A1_9 l1_9.length l1_9) (hc1_9 : l1_9.length ≤ c1_9) (hr1_13 : Kd.C k29 w A1_13 l1_13.length l1_13) (hc1_13 : l1_13.length ≤ c1_13) (hr1_17 : Kd.C k29 w A1_17 l1_17.length l1_17) (hc1_17 : l1_17.length ≤ c1_17) (hr1_18 : Kd.C k50 w A1_18 l1_18.length l1_18) (hc1_18 : l1_18.length ≤ c1_18) (h : laws_eqStmt.f k a0_0 a0_1 a0_2 a0_3 a0_4 l0_5 a0_6 a0_7 a0_8 l0_9 a0_10 a0_11 a0_12 l0_13 a0_14 a0_15 a0_16 l0_17 l0_18 a1_0 a1_1 a1_2 a1_3 a1_4 l1_5 a1_6 a1_7 a1_8 l1_9 a1_10 a1_11 a1_12 l1_13 a1_14 a1_15 a1_16 l1_17 l1_18 = some r),
   Calls Try.prog 26 #[.agg #[.int .i64 a0_0, .string a0_1, .int .i64 a0_2, .int .i64 a0_3, .string a0_4, .slice A0_5 l0_5.length c0_5, .int .i64 a0_6, .int .i64 a0_7, .string a0_8, .slice A0_9 l0_9.length c0_9, .int .i64 a0_10, .int .i64 a0_11, .string a0_12, .slice A0_13 l0_13.length c0_13, .int .i64 a0_14, .int .i64 a0_15, .string a0_16, .slice A0_17 l0_17.length c0_17, .slice A0_18 l0_18.length c0_18], .agg #[.int .i64 a1_0, .string a1_1, .int .i64 a1_2, .int .i64 a1_3, .string a1_4, .slice A1_5 l1_5.length c1_5, .int .i64 a1_6, .int .i64 a1_7, .string a1_8, .slice A1_9 l1_9.length c1_9, .int .i64 a1_10, .int .i64 a1_11, .string a1_12, .slice A1_13 l1_13.length c1_13, .int .i64 a1_14, .int .i64 a1_15, .string a1_16, .slice A1_17 l1_17.length c1_17, .slice A1_18 l1_18.length c1_18]] w fun e w' => e = .returned (.bool r) ∧ Below w.heap.size w w') ∧ (∀ (A0 : Option Addr) (c0 : Nat) (l0 : List (S50)) (A1 : Option Addr) (c1 : Nat) (l1 : List (S50)) (r : Bool) (w : World) (hr0 : Kd.C k50 w A0 l0.length l0) (hc0 : l0.length ≤ c0) (hr1 : Kd.C k50 w A1 l1.length l1) (hc1 : l1.length ≤ c1) (h : laws_eqStmtS.f k l0 l1 = some r),
   Calls Try.prog 61 #[.slice A0 l0.length c0, .slice A1 l1.length c1] w fun e w' => e = .returned (.bool r) ∧ Below w.heap.size w w') := by
 intro k
 induction k using Nat.strongRecOn with
 |_ k ih =>
 exact ⟨fun a0_0 a0_1 a0_2 a0_3 a0_4 A0_5 c0_5 l0_5 a0_6 a0_7 a0_8 A0_9 c0_9 l0_9 a0_10 a0_11 a0_12 A0_13 c0_13 l0_13 a0_14 a0_15 a0_16 A0_17 c0_17 l0_17 A0_18 c0_18 l0_18 a1_0 a1_1 a1_2 a1_3 a1_4 A1_5 c1_5 l1_5 a1_6 a1_7 a1_8 A1_9 c1_9 l1_9 a1_10 a1_11 a1_12 A1_13 c1_13 l1_13 a1_14 a1_15 a1_16 A1_17 c1_17 l1_17 A1_18 c1_18 l1_18 r w hr0_5 hc0_5 hr0_9 hc0_9 hr0_13 hc0_13 hr0_17 hc0_17 hr0_18 hc0_18 hr1_5 hc1_5 hr1_9 hc1_9 hr1_13 hc1_13 hr1_17 hc1_17 hr1_18 hc1_18 h => laws_eqStmt.callsG k ⟨fun m hm => (ih m hm).2⟩ a0_0 a0_1 a0_2 a0_3 a0_4 A0_5 c0_5 l0_5 a0_6 a0_7 a0_8 A0_9 c0_9 l0_9 a0_10 a0_11 a0_12 A0_13 c0_13 l0_13 a0_14 a0_15 a0_16 A0_17 c0_17 l0_17 A0_18 c0_18 l0_18 a1_0 a1_1 a1_2 a1_3 a1_4 A1_5 c1_5 l1_5 a1_6 a1_7 a1_8 A1_9 c1_9 l1_9 a1_10 a1_11 a1_12 A1_13 c1_13 l1_13 a1_14 a1_15 a1_16 A1_17 c1_17 l1_17 A1_18 c1_18 l1_18 r w hr0_5 hc0_5 hr0_9 hc0_9 hr0_13 hc0_13 hr0_17 hc0_17 hr0_18 hc0_18 hr1_5 hc1_5 hr1_9 hc1_9 hr1_13 hc1_13 hr1_17 hc1_17 hr1_18 hc1_18 h,fun A0 c0 l0 A1 c1 l1 r w hr0 hc0 hr1 hc1 h => laws_eqStmtS.callsG k ⟨fun m hm => (ih m hm).1⟩ A0 c0 l0 A1 c1 l1 r w hr0 hc0 hr1 hc1 h⟩
theorem laws_eqStmt.calls (k : Nat) (a0_0 : Int) (a0_1 : ByteArray) (a0_2 : Int) (a0_3 : Int) (a0_4 : ByteArray) (A0_5 : Option Addr) (c0_5 : Nat) (l0_5 : List (S29)) (a0_6 : Int) (a0_7 : Int) (a0_8 : ByteArray) (A0_9 : Option Addr) (c0_9 : Nat) (l0_9 : List (S29)) (a0_10 : Int) (a0_11 : Int) (a0_12 : ByteArray) (A0_13 : Option Addr) (c0_13 : Nat) (l0_13 : List (S29)) (a0_14 : Int) (a0_15 : Int) (a0_16 : ByteArray) (A0_17 : Option Addr) (c0_17 : Nat) (l0_17 : List (S29)) (A0_18 : Option Addr) (c0_18 : Nat) (l0_18 : List (S50)) (a1_0 : Int) (a1_1 : ByteArray) (a1_2 : Int) (a1_3 : Int) (a1_4 : ByteArray) (A1_5 : Option Addr) (c1_5 : Nat) (l1_5 : List (S29)) (a1_6 : Int) (a1_7 : Int) (a1_8 : ByteArray) (A1_9 : Option Addr) (c1_9 : Nat) (l1_9 : List (S29)) (a1_10 : Int) (a1_11 : Int) (a1_12 : ByteArray) (A1_13 : Option Addr) (c1_13 : Nat) (l1_13 : List (S29)) (a1_14 : Int) (a1_15 : Int) (a1_16 : ByteArray) (A1_17 : Option Addr) (c1_17 : Nat) (l1_17 : List (S29)) (A1_18 : Option Addr) (c1_18 : Nat) (l1_18 : List (S50)) (r : Bool) (w : World) (hr0_5 : Kd.C k29 w A0_5 l0_5.length l0_5) (hc0_5 : l0_5.length ≤ c0_5) (hr0_9 : Kd.C k29 w A0_9 l0_9.length l0_9) (hc0_9 : l0_9.length ≤ c0_9) (hr0_13 : Kd.C k29 w A0_13 l0_13.length l0_13) (hc0_13 : l0_13.length ≤ c0_13) (hr0_17 : Kd.C k29 w A0_17 l0_17.length l0_17) (hc0_17 : l0_17.length ≤ c0_17) (hr0_18 : Kd.C k50 w A0_18 l0_18.length l0_18) (hc0_18 : l0_18.length ≤ c0_18) (hr1_5 : Kd.C k29 w A1_5 l1_5.length l1_5) (hc1_5 : l1_5.length ≤ c1_5) (hr1_9 : Kd.C k29 w A1_9 l1_9.length l1_9) (hc1_9 : l1_9.length ≤ c1_9) (hr1_13 : Kd.C k29 w A1_13 l1_13.length l1_13) (hc1_13 : l1_13.length ≤ c1_13) (hr1_17 : Kd.C k29 w A1_17 l1_17.length l1_17) (hc1_17 : l1_17.length ≤ c1_17) (hr1_18 : Kd.C k50 w A1_18 l1_18.length l1_18) (hc1_18 : l1_18.length ≤ c1_18) (h : laws_eqStmt.f k a0_0 a0_1 a0_2 a0_3 a0_4 l0_5 a0_6 a0_7 a0_8 l0_9 a0_10 a0_11 a0_12 l0_13 a0_14 a0_15 a0_16 l0_17 l0_18 a1_0 a1_1 a1_2 a1_3 a1_4 l1_5 a1_6 a1_7 a1_8 l1_9 a1_10 a1_11 a1_12 l1_13 a1_14 a1_15 a1_16 l1_17 l1_18 = some r) :
  Calls Try.prog 26 #[.agg #[.int .i64 a0_0, .string a0_1, .int .i64 a0_2, .int .i64 a0_3, .string a0_4, .slice A0_5 l0_5.length c0_5, .int .i64 a0_6, .int .i64 a0_7, .string a0_8, .slice A0_9 l0_9.length c0_9, .int .i64 a0_10, .int .i64 a0_11, .string a0_12, .slice A0_13 l0_13.length c0_13, .int .i64 a0_14, .int .i64 a0_15, .string a0_16, .slice A0_17 l0_17.length c0_17, .slice A0_18 l0_18.length c0_18], .agg #[.int .i64 a1_0, .string a1_1, .int .i64 a1_2, .int .i64 a1_3, .string a1_4, .slice A1_5 l1_5.length c1_5, .int .i64 a1_6, .int .i64 a1_7, .string a1_8, .slice A1_9 l1_9.length c1_9, .int .i64 a1_10, .int .i64 a1_11, .string a1_12, .slice A1_13 l1_13.length c1_13, .int .i64 a1_14, .int .i64 a1_15, .string a1_16, .slice A1_17 l1_17.length c1_17, .slice A1_18 l1_18.length c1_18]] w fun e w' => e = .returned (.bool r) ∧ Below w.heap.size w w' := (laws_eqStmt_eqStmtS_both.calls k).1 a0_0 a0_1 a0_2 a0_3 a0_4 A0_5 c0_5 l0_5 a0_6 a0_7 a0_8 A0_9 c0_9 l0_9 a0_10 a0_11 a0_12 A0_13 c0_13 l0_13 a0_14 a0_15 a0_16 A0_17 c0_17 l0_17 A0_18 c0_18 l0_18 a1_0 a1_1 a1_2 a1_3 a1_4 A1_5 c1_5 l1_5 a1_6 a1_7 a1_8 A1_9 c1_9 l1_9 a1_10 a1_11 a1_12 A1_13 c1_13 l1_13 a1_14 a1_15 a1_16 A1_17 c1_17 l1_17 A1_18 c1_18 l1_18 r w hr0_5 hc0_5 hr0_9 hc0_9 hr0_13 hc0_13 hr0_17 hc0_17 hr0_18 hc0_18 hr1_5 hc1_5 hr1_9 hc1_9 hr1_13 hc1_13 hr1_17 hc1_17 hr1_18 hc1_18 h

theorem laws_eqStmtS.calls (k : Nat) (A0 : Option Addr) (c0 : Nat) (l0 : List (S50)) (A1 : Option Addr) (c1 : Nat) (l1 : List (S50)) (r : Bool) (w : World) (hr0 : Kd.C k50 w A0 l0.length l0) (hc0 : l0.length ≤ c0) (hr1 : Kd.C k50 w A1 l1.length l1) (hc1 : l1.length ≤ c1) (h : laws_eqStmtS.f k l0 l1 = some r) :
  Calls Try.prog 61 #[.slice A0 l0.length c0, .slice A1 l1.length c1] w fun e w' => e = .returned (.bool r) ∧ Below w.heap.size w w' := (laws_eqStmt_eqStmtS_both.calls k).2 A0 c0 l0 A1 c1 l1 r w hr0 hc0 hr1 hc1 h

/-! ### laws_eqArr: function 86 -/
def laws_eqArr.f (a0_0 : ByteArray) (a0_1 : Int) (a1_0 : ByteArray) (a1_1 : Int) : Option (Bool) := if a0_0.toList = a1_0.toList then (if a0_1 = a1_1 then (some true) else (some false)) else (some false)
set_option maxHeartbeats 8000000 in
set_option maxRecDepth 100000 in
theorem laws_eqArr.calls (a0_0 : ByteArray) (a0_1 : Int) (a1_0 : ByteArray) (a1_1 : Int) (r : Bool) (w : World) (h : laws_eqArr.f a0_0 a0_1 a1_0 a1_1 = some r) :
  Calls Try.prog 86 #[.agg #[.string a0_0, .int .i64 a0_1], .agg #[.string a1_0, .int .i64 a1_1]] w fun e w' => e = .returned (.bool r) ∧ Below w.heap.size w w' := by
 have hu98 := Try.underlying98
 have HB := mk0 (Below.refl w.heap.size w)
 have H : (if a0_0.toList = a1_0.toList then (if a0_1 = a1_1 then (some true) else (some false)) else (some false)) = some r := h
 clear h
 by_cases c3 : a0_0.toList = a1_0.toList
 ·rw [if_pos c3] at H
  have c3b0 : (a0_0.toList == a1_0.toList) = true := beq_iff_eq.mpr c3
  have c3b1 : (a0_0.toList != a1_0.toList) = false := bne_eq_false_iff_eq.mpr c3
  clear c3
  refine Or.elim (Classical.em (a0_1 = a1_1)) (fun c4 => ?yes24) (fun c4 => ?no24)
  case' yes24 =>
   rw [if_pos c4] at H
   have c4b0 : (a0_1 == a1_1) = true := beq_iff_eq.mpr c4
   have c4b1 : (a0_1 != a1_1) = false := bne_eq_false_iff_eq.mpr c4
   clear c4
   obtain rfl := Option.some.inj H
  case' no24 =>
   rw [if_neg c4] at H
   have c4b0 : (a0_1 == a1_1) = false := beq_eq_false_iff_ne.mpr c4
   have c4b1 : (a0_1 != a1_1) = true := bne_iff_ne.mpr c4
   obtain rfl := Option.some.inj H
  all_goals
   go_enter Try.func86,Try.ntmps86
   go_wp2_with (first|((with_reducible refine gate_dst (N := 2) rfl ?_);refine box_event ?hg (N := 2) ?hd (cs := #[.string a0_0,.int .i64 a0_1]) (t := 98) ?hr ?_;(case hd => rfl);(case hg => rfl);(case hr => first|(go_simp;done)|(go_simp;rfl));intro gb237 hg w5 hbox hb;have q_ := qB (by repeat (first|(with_reducible first|exact HB.out|apply bA|apply bN|apply bD)|exact HB.out)) hb;have n0_ := mk0 (below_step q_ hb);have n1_ := mk0 (hbox);have n2_ := mk0 (below_size2 q_ hg);have n3_ := n2_;clear HB;have HB := n0_;have BK237 := n1_;have GW237 := n2_;have GE237 := n3_;clear q_ n0_ n1_ n2_ n3_ hb hbox hg)|((with_reducible refine gate_dst (N := 3) rfl ?_);refine box_event ?hg (N := 3) ?hd (cs := #[.string a1_0,.int .i64 a1_1]) (t := 98) ?hr ?_;(case hd => rfl);(case hg => rfl);(case hr => first|(go_simp;done)|(go_simp;rfl));intro gb238 hg w6 hbox hb;have q_ := qB (by repeat (first|(with_reducible first|exact HB.out|apply bA|apply bN|apply bD|refine bS ?_ GE237.out)|exact HB.out)) hb;have n0_ := mk0 (blk_below (by exact kX BK237.out) hb);have n1_ := mk0 (below_step q_ hb);have n2_ := mk0 (hbox);have n3_ := mk0 (below_size2 q_ hg);have n4_ := n3_;have n5_ := mk0 ((by rw [hg];exact Nat.ne_of_lt (blk_lt (by exact kX BK237.out)) : gb237 ≠ gb238));have n6_ := mk0 ((by rw [hg];exact Nat.ne_of_gt (blk_lt (by exact kX BK237.out)) : gb238 ≠ gb237));clear BK237 HB;have BK237 := n0_;have HB := n1_;have BK238 := n2_;have GW238 := n3_;have GE238 := n4_;have NB237_238 := n5_;have NB238_237 := n6_;clear q_ n0_ n1_ n2_ n3_ n4_ n5_ n6_ hb hbox hg;have hnb7 := NB237_238.out;have hnc7 := NB238_237.out;have z8 := bc2 BK237.out;have z9 := bc2 BK238.out))
   go_ret
   exact ⟨by first|rfl|(simp [errW_none,errW_some] <;> rfl)|(simp [*,errW_none,errW_some] <;> rfl),by repeat (first|(with_reducible first|exact HB.out|apply bA|apply bN|apply bD|refine bS ?_ GE237.out|refine bS ?_ GE238.out)|exact HB.out)⟩
 ·rw [if_neg c3] at H
  have c3b0 : (a0_0.toList == a1_0.toList) = false := beq_eq_false_iff_ne.mpr c3
  have c3b1 : (a0_0.toList != a1_0.toList) = true := bne_iff_ne.mpr c3
  obtain rfl := Option.some.inj H
  go_enter Try.func86,Try.ntmps86
  go_wp2_with (first|((with_reducible refine gate_dst (N := 2) rfl ?_);refine box_event ?hg (N := 2) ?hd (cs := #[.string a0_0,.int .i64 a0_1]) (t := 98) ?hr ?_;(case hd => rfl);(case hg => rfl);(case hr => first|(go_simp;done)|(go_simp;rfl));intro gb237 hg w15 hbox hb;have q_ := qB (by repeat (first|(with_reducible first|exact HB.out|apply bA|apply bN|apply bD)|exact HB.out)) hb;have n0_ := mk0 (below_step q_ hb);have n1_ := mk0 (hbox);have n2_ := mk0 (below_size2 q_ hg);have n3_ := n2_;clear HB;have HB := n0_;have BK237 := n1_;have GW237 := n2_;have GE237 := n3_;clear q_ n0_ n1_ n2_ n3_ hb hbox hg)|((with_reducible refine gate_dst (N := 3) rfl ?_);refine box_event ?hg (N := 3) ?hd (cs := #[.string a1_0,.int .i64 a1_1]) (t := 98) ?hr ?_;(case hd => rfl);(case hg => rfl);(case hr => first|(go_simp;done)|(go_simp;rfl));intro gb238 hg w16 hbox hb;have q_ := qB (by repeat (first|(with_reducible first|exact HB.out|apply bA|apply bN|apply bD|refine bS ?_ GE237.out)|exact HB.out)) hb;have n0_ := mk0 (blk_below (by exact kX BK237.out) hb);have n1_ := mk0 (below_step q_ hb);have n2_ := mk0 (hbox);have n3_ := mk0 (below_size2 q_ hg);have n4_ := n3_;have n5_ := mk0 ((by rw [hg];exact Nat.ne_of_lt (blk_lt (by exact kX BK237.out)) : gb237 ≠ gb238));have n6_ := mk0 ((by rw [hg];exact Nat.ne_of_gt (blk_lt (by exact kX BK237.out)) : gb238 ≠ gb237));clear BK237 HB;have BK237 := n0_;have HB := n1_;have BK238 := n2_;have GW238 := n3_;have GE238 := n4_;have NB237_238 := n5_;have NB238_237 := n6_;clear q_ n0_ n1_ n2_ n3_ n4_ n5_ n6_ hb hbox hg;have hnb17 := NB237_238.out;have hnc17 := NB238_237.out;have z18 := bc2 BK237.out;have z19 := bc2 BK238.out))
  go_ret
  exact ⟨by first|rfl|(simp [errW_none,errW_some] <;> rfl)|(simp [*,errW_none,errW_some] <;> rfl),by repeat (first|(with_reducible first|exact HB.out|apply bA|apply bN|apply bD|refine bS ?_ GE237.out|refine bS ?_ GE238.out)|exact HB.out)⟩
end Go.Proofs.Ytmmdgciefehbcaa.PFnExactArrAt
