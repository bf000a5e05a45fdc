-- The functions of a law as plain Lean functions, each with its contract: written by a program of this session.
import Derived.Test.YtmmdgciefehbcaaPFnExactSameStmtx0
import Derived.Test.YtmmdgciefehbcaaPFnExactSameStmtx6
namespace Go.Proofs.Ytmmdgciefehbcaa.PFnExactSameStmt
open Go.RowKit Go.Proofs.YtmmdgciefehbcaaW.PrintWords Go.Proofs.YtmmdgciefehbcaaW.PrintLast Go.Proofs.YtmmdgciefehbcaaW.PrintMore
attribute [local go_sem] max2_int min2_int max_two min_two max_three min_three max_four min_four   -- for this text's walks alone
set_option linter.unusedVariables false
set_option linter.unusedSimpArgs false

/-! ### laws_eqStmtS: function 61 -/
def laws_eqStmtS.T6 : Bool × List (List Nat × List Nat) := (true, [([], []), ([], []), ([0, 1], [0, 1]), ([2], [2]), ([], []), ([], []), ([4, 5], [4, 5]), ([6], [6]), ([3, 7], [3, 7]), ([8], [8])])
def laws_eqStmtS.B6 : List Nat := [0, 0, 3, 7, 0, 0, 48, 112, 255, 511]
theorem laws_eqStmtS.tab6 : rtab .any (opsOf Try.f61 6) = laws_eqStmtS.T6 := by kernel_rfl
theorem laws_eqStmtS.bits6 : waitsOk laws_eqStmtS.T6.2 laws_eqStmtS.B6 = true := by kernel_rfl

/-! ### laws_eqStmt: function 26 -/

mutual
def laws_eqStmt.f : Nat → (Int) → (ByteArray) → (Int) → (Int) → (ByteArray) → (List (S29)) → (Int) → (Int) → (ByteArray) → (List (S29)) → (Int) → (Int) → (ByteArray) → (List (S29)) → (Int) → (Int) → (ByteArray) → (List (S29)) → (List (S50)) → (Int) → (ByteArray) → (Int) → (Int) → (ByteArray) → (List (S29)) → (Int) → (Int) → (ByteArray) → (List (S29)) → (Int) → (Int) → (ByteArray) → (List (S29)) → (Int) → (Int) → (ByteArray) → (List (S29)) → (List (S50)) → Option (Bool)
 | 0, _, _, _, _, _, _, _, _, _, _, _, _, _, _, _, _, _, _, _, _, _, _, _, _, _, _, _, _, _, _, _, _, _, _, _, _, _, _ => none
 | k + 1, a0_0, a0_1, a0_2, a0_3, a0_4, l0_5, a0_6, a0_7, a0_8, l0_9, a0_10, a0_11, a0_12, l0_13, a0_14, a0_15, a0_16, l0_17, l0_18, a1_0, a1_1, a1_2, a1_3, a1_4, l1_5, a1_6, a1_7, a1_8, l1_9, a1_10, a1_11, a1_12, l1_13, a1_14, a1_15, a1_16, l1_17, l1_18 => if a0_0 = a1_0 then (if a0_1.toList = a1_1.toList then ((laws_eqExp.f k a0_2 a0_3 a0_4 l0_5 a1_2 a1_3 a1_4 l1_5).bind fun t239 => (if t239 = true then ((laws_eqExp.f k a0_6 a0_7 a0_8 l0_9 a1_6 a1_7 a1_8 l1_9).bind fun t240 => (if t240 = true then ((laws_eqExp.f k a0_10 a0_11 a0_12 l0_13 a1_10 a1_11 a1_12 l1_13).bind fun t241 => (if t241 = true then ((laws_eqExp.f k a0_14 a0_15 a0_16 l0_17 a1_14 a1_15 a1_16 l1_17).bind fun t242 => (if t242 = true then ((laws_eqStmtS.f k l0_18 l1_18).bind fun t243 => (if t243 = true then (some true) else (some false))) else (some false))) else (some false))) else (some false))) else (some false))) else (some false)) else (some false)
def laws_eqStmtS.l0 : Nat → List (S50) → List (S50) → Int → Option (Bool)
 | 0, _, _, _ => none
 | k + 1, x0, x1, x5 => if x5 < (x0.length : Int) then (if 0 ≤ x5 then (if x5 < (x1.length : Int) then ((laws_eqStmt.f k ((rd_T50 x0 x5).f0) ((rd_T50 x0 x5).f1) ((rd_T50 x0 x5).f2.f0) ((rd_T50 x0 x5).f2.f1) ((rd_T50 x0 x5).f2.f2) ((rd_T50 x0 x5).f2.f3) ((rd_T50 x0 x5).f3.f0) ((rd_T50 x0 x5).f3.f1) ((rd_T50 x0 x5).f3.f2) ((rd_T50 x0 x5).f3.f3) ((rd_T50 x0 x5).f4.f0) ((rd_T50 x0 x5).f4.f1) ((rd_T50 x0 x5).f4.f2) ((rd_T50 x0 x5).f4.f3) ((rd_T50 x0 x5).f5.f0) ((rd_T50 x0 x5).f5.f1) ((rd_T50 x0 x5).f5.f2) ((rd_T50 x0 x5).f5.f3) ((rd_T50 x0 x5).f6) ((rd_T50 x1 x5).f0) ((rd_T50 x1 x5).f1) ((rd_T50 x1 x5).f2.f0) ((rd_T50 x1 x5).f2.f1) ((rd_T50 x1 x5).f2.f2) ((rd_T50 x1 x5).f2.f3) ((rd_T50 x1 x5).f3.f0) ((rd_T50 x1 x5).f3.f1) ((rd_T50 x1 x5).f3.f2) ((rd_T50 x1 x5).f3.f3) ((rd_T50 x1 x5).f4.f0) ((rd_T50 x1 x5).f4.f1) ((rd_T50 x1 x5).f4.f2) ((rd_T50 x1 x5).f4.f3) ((rd_T50 x1 x5).f5.f0) ((rd_T50 x1 x5).f5.f1) ((rd_T50 x1 x5).f5.f2) ((rd_T50 x1 x5).f5.f3) ((rd_T50 x1 x5).f6)).bind fun t236 => (if t236 = true then (laws_eqStmtS.l0 k x0 x1 (wrap64 (x5 + 1))) else (some false))) else (none)) else (none)) else (some true)
def laws_eqStmtS.f : Nat → (List (S50)) → (List (S50)) → Option (Bool)
 | 0, _, _ => none
 | k + 1, l0, l1 => if (l0.length : Int) = (l1.length : Int) then (laws_eqStmtS.l0 k l0 l1 0) else (some false)
end

theorem laws_eqStmt_eqStmtS_both.mono : ∀ k, (∀ y0 y1 y2 y3 y4 y5 y6 y7 y8 y9 y10 y11 y12 y13 y14 y15 y16 y17 y18 y19 y20 y21 y22 y23 y24 y25 y26 y27 y28 y29 y30 y31 y32 y33 y34 y35 y36 y37, LeO (laws_eqStmt.f k y0 y1 y2 y3 y4 y5 y6 y7 y8 y9 y10 y11 y12 y13 y14 y15 y16 y17 y18 y19 y20 y21 y22 y23 y24 y25 y26 y27 y28 y29 y30 y31 y32 y33 y34 y35 y36 y37) (laws_eqStmt.f (k + 1) y0 y1 y2 y3 y4 y5 y6 y7 y8 y9 y10 y11 y12 y13 y14 y15 y16 y17 y18 y19 y20 y21 y22 y23 y24 y25 y26 y27 y28 y29 y30 y31 y32 y33 y34 y35 y36 y37)) ∧ (∀ y0 y1 y2, LeO (laws_eqStmtS.l0 k y0 y1 y2) (laws_eqStmtS.l0 (k + 1) y0 y1 y2)) ∧ (∀ y0 y1, LeO (laws_eqStmtS.f k y0 y1) (laws_eqStmtS.f (k + 1) y0 y1))
 | 0 => ⟨fun _ _ _ _ _ _ _ _ _ _ _ _ _ _ _ _ _ _ _ _ _ _ _ _ _ _ _ _ _ _ _ _ _ _ _ _ _ _ r h => by simp [laws_eqStmt.f] at h, fun _ _ _ r h => by simp [laws_eqStmtS.l0] at h, fun _ _ r h => by simp [laws_eqStmtS.f] at h⟩
 | k + 1 => by
  have ih := laws_eqStmt_eqStmtS_both.mono k
  refine ⟨?_, ?_, ?_⟩
  ·intro y0 y1 y2 y3 y4 y5 y6 y7 y8 y9 y10 y11 y12 y13 y14 y15 y16 y17 y18 y19 y20 y21 y22 y23 y24 y25 y26 y27 y28 y29 y30 y31 y32 y33 y34 y35 y36 y37
   rw [laws_eqStmt.f, laws_eqStmt.f]
   repeat' first
   | (with_reducible exact ih.1 _ _ _ _ _ _ _ _ _ _ _ _ _ _ _ _ _ _ _ _ _ _ _ _ _ _ _ _ _ _ _ _ _ _ _ _ _ _)
   | (with_reducible exact ih.2.1 _ _ _)
   | (with_reducible exact ih.2.2 _ _)
   | (with_reducible exact laws_eqExp.mono _ _ _ _ _ _ _ _ _)
   | (with_reducible exact LeO.refl _)
   | (with_reducible exact LeO.none _)
   | (with_reducible refine LeO.ite ?_ ?_)
   | (with_reducible refine LeO.bind ?_ (fun _ => ?_))
  ·intro y0 y1 y2
   rw [laws_eqStmtS.l0, laws_eqStmtS.l0]
   repeat' first
   | (with_reducible exact ih.1 _ _ _ _ _ _ _ _ _ _ _ _ _ _ _ _ _ _ _ _ _ _ _ _ _ _ _ _ _ _ _ _ _ _ _ _ _ _)
   | (with_reducible exact ih.2.1 _ _ _)
   | (with_reducible exact ih.2.2 _ _)
   | (with_reducible exact laws_eqExp.mono _ _ _ _ _ _ _ _ _)
   | (with_reducible exact LeO.refl _)
   | (with_reducible exact LeO.none _)
   | (with_reducible refine LeO.ite ?_ ?_)
   | (with_reducible refine LeO.bind ?_ (fun _ => ?_))
  ·intro y0 y1
   rw [laws_eqStmtS.f, laws_eqStmtS.f]
   repeat' first
   | (with_reducible exact ih.1 _ _ _ _ _ _ _ _ _ _ _ _ _ _ _ _ _ _ _ _ _ _ _ _ _ _ _ _ _ _ _ _ _ _ _ _ _ _)
   | (with_reducible exact ih.2.1 _ _ _)
   | (with_reducible exact ih.2.2 _ _)
   | (with_reducible exact laws_eqExp.mono _ _ _ _ _ _ _ _ _)
   | (with_reducible exact LeO.refl _)
   | (with_reducible exact LeO.none _)
   | (with_reducible refine LeO.ite ?_ ?_)
   | (with_reducible refine LeO.bind ?_ (fun _ => ?_))

theorem laws_eqStmt.mono : ∀ a0 a1 a2 a3 a4 a5 a6 a7 a8 a9 a10 a11 a12 a13 a14 a15 a16 a17 a18 a19 a20 a21 a22 a23 a24 a25 a26 a27 a28 a29 a30 a31 a32 a33 a34 a35 a36 a37 k, LeO (laws_eqStmt.f k a0 a1 a2 a3 a4 a5 a6 a7 a8 a9 a10 a11 a12 a13 a14 a15 a16 a17 a18 a19 a20 a21 a22 a23 a24 a25 a26 a27 a28 a29 a30 a31 a32 a33 a34 a35 a36 a37) (laws_eqStmt.f (k + 1) a0 a1 a2 a3 a4 a5 a6 a7 a8 a9 a10 a11 a12 a13 a14 a15 a16 a17 a18 a19 a20 a21 a22 a23 a24 a25 a26 a27 a28 a29 a30 a31 a32 a33 a34 a35 a36 a37) := fun a0 a1 a2 a3 a4 a5 a6 a7 a8 a9 a10 a11 a12 a13 a14 a15 a16 a17 a18 a19 a20 a21 a22 a23 a24 a25 a26 a27 a28 a29 a30 a31 a32 a33 a34 a35 a36 a37 k => (laws_eqStmt_eqStmtS_both.mono k).1 a0 a1 a2 a3 a4 a5 a6 a7 a8 a9 a10 a11 a12 a13 a14 a15 a16 a17 a18 a19 a20 a21 a22 a23 a24 a25 a26 a27 a28 a29 a30 a31 a32 a33 a34 a35 a36 a37

theorem laws_eqStmtS.mono : ∀ a0 a1 k, LeO (laws_eqStmtS.f k a0 a1) (laws_eqStmtS.f (k + 1) a0 a1) := fun a0 a1 k => (laws_eqStmt_eqStmtS_both.mono k).2.2 a0 a1

set_option maxHeartbeats 8000000 in
set_option maxRecDepth 100000 in
theorem laws_eqStmt.callsG (K : Nat) (IH : Aside0 (∀ m, m < K → ∀ (A0 : Option Addr) (c0 : Nat) (l0 : List (S50)) (A1 : Option Addr) (c1 : Nat) (l1 : List (S50)) (r : Bool) (w : World) (hr0 : Kd.C k50 w A0 l0.length l0) (hc0 : l0.length ≤ c0) (hr1 : Kd.C k50 w A1 l1.length l1) (hc1 : l1.length ≤ c1) (h : laws_eqStmtS.f m l0 l1 = some r),
   Calls Try.prog 61 #[.slice A0 l0.length c0, .slice A1 l1.length c1] w fun e w' => e = .returned (.bool r) ∧ Below w.heap.size w w')) (a0_0 : Int) (a0_1 : ByteArray) (a0_2 : Int) (a0_3 : Int) (a0_4 : ByteArray) (A0_5 : Option Addr) (c0_5 : Nat) (l0_5 : List (S29)) (a0_6 : Int) (a0_7 : Int) (a0_8 : ByteArray) (A0_9 : Option Addr) (c0_9 : Nat) (l0_9 : List (S29)) (a0_10 : Int) (a0_11 : Int) (a0_12 : ByteArray) (A0_13 : Option Addr) (c0_13 : Nat) (l0_13 : List (S29)) (a0_14 : Int) (a0_15 : Int) (a0_16 : ByteArray) (A0_17 : Option Addr) (c0_17 : Nat) (l0_17 : List (S29)) (A0_18 : Option Addr) (c0_18 : Nat) (l0_18 : List (S50)) (a1_0 : Int) (a1_1 : ByteArray) (a1_2 : Int) (a1_3 : Int) (a1_4 : ByteArray) (A1_5 : Option Addr) (c1_5 : Nat) (l1_5 : List (S29)) (a1_6 : Int) (a1_7 : Int) (a1_8 : ByteArray) (A1_9 : Option Addr) (c1_9 : Nat) (l1_9 : List (S29)) (a1_10 : Int) (a1_11 : Int) (a1_12 : ByteArray) (A1_13 : Option Addr) (c1_13 : Nat) (l1_13 : List (S29)) (a1_14 : Int) (a1_15 : Int) (a1_16 : ByteArray) (A1_17 : Option Addr) (c1_17 : Nat) (l1_17 : List (S29)) (A1_18 : Option Addr) (c1_18 : Nat) (l1_18 : List (S50)) (r : Bool) (w : World) (hr0_5 : Kd.C k29 w A0_5 l0_5.length l0_5) (hc0_5 : l0_5.length ≤ c0_5) (hr0_9 : Kd.C k29 w A0_9 l0_9.length l0_9) (hc0_9 : l0_9.length ≤ c0_9) (hr0_13 : Kd.C k29 w A0_13 l0_13.length l0_13) (hc0_13 : l0_13.length ≤ c0_13) (hr0_17 : Kd.C k29 w A0_17 l0_17.length l0_17) (hc0_17 : l0_17.length ≤ c0_17) (hr0_18 : Kd.C k50 w A0_18 l0_18.length l0_18) (hc0_18 : l0_18.length ≤ c0_18) (hr1_5 : Kd.C k29 w A1_5 l1_5.length l1_5) (hc1_5 : l1_5.length ≤ c1_5) (hr1_9 : Kd.C k29 w A1_9 l1_9.length l1_9) (hc1_9 : l1_9.length ≤ c1_9) (hr1_13 : Kd.C k29 w A1_13 l1_13.length l1_13) (hc1_13 : l1_13.length ≤ c1_13) (hr1_17 : Kd.C k29 w A1_17 l1_17.length l1_17) (hc1_17 : l1_17.length ≤ c1_17) (hr1_18 : Kd.C k50 w A1_18 l1_18.length l1_18) (hc1_18 : l1_18.length ≤ c1_18) (h : laws_eqStmt.f K a0_0 a0_1 a0_2 a0_3 a0_4 l0_5 a0_6 a0_7 a0_8 l0_9 a0_10 a0_11 a0_12 l0_13 a0_14 a0_15 a0_16 l0_17 l0_18 a1_0 a1_1 a1_2 a1_3 a1_4 l1_5 a1_6 a1_7 a1_8 l1_9 a1_10 a1_11 a1_12 l1_13 a1_14 a1_15 a1_16 l1_17 l1_18 = some r) :
  Calls Try.prog 26 #[.agg #[.int .i64 a0_0, .string a0_1, .int .i64 a0_2, .int .i64 a0_3, .string a0_4, .slice A0_5 l0_5.length c0_5, .int .i64 a0_6, .int .i64 a0_7, .string a0_8, .slice A0_9 l0_9.length c0_9, .int .i64 a0_10, .int .i64 a0_11, .string a0_12, .slice A0_13 l0_13.length c0_13, .int .i64 a0_14, .int .i64 a0_15, .string a0_16, .slice A0_17 l0_17.length c0_17, .slice A0_18 l0_18.length c0_18], .agg #[.int .i64 a1_0, .string a1_1, .int .i64 a1_2, .int .i64 a1_3, .string a1_4, .slice A1_5 l1_5.length c1_5, .int .i64 a1_6, .int .i64 a1_7, .string a1_8, .slice A1_9 l1_9.length c1_9, .int .i64 a1_10, .int .i64 a1_11, .string a1_12, .slice A1_13 l1_13.length c1_13, .int .i64 a1_14, .int .i64 a1_15, .string a1_16, .slice A1_17 l1_17.length c1_17, .slice A1_18 l1_18.length c1_18]] w fun e w' => e = .returned (.bool r) ∧ Below w.heap.size w w' := by
 cases K with
 |zero => exact absurd h (by simp [laws_eqStmt.f])
 |succ k =>
 have hu50 := Try.underlying50
 have hu29 := Try.underlying29
 have HR0_5 := mk0 hr0_5
 have HC0_5 := mk0 hc0_5
 clear hr0_5 hc0_5
 have HR0_9 := mk0 hr0_9
 have HC0_9 := mk0 hc0_9
 clear hr0_9 hc0_9
 have HR0_13 := mk0 hr0_13
 have HC0_13 := mk0 hc0_13
 clear hr0_13 hc0_13
 have HR0_17 := mk0 hr0_17
 have HC0_17 := mk0 hc0_17
 clear hr0_17 hc0_17
 have HR0_18 := mk0 hr0_18
 have HC0_18 := mk0 hc0_18
 clear hr0_18 hc0_18
 have HR1_5 := mk0 hr1_5
 have HC1_5 := mk0 hc1_5
 clear hr1_5 hc1_5
 have HR1_9 := mk0 hr1_9
 have HC1_9 := mk0 hc1_9
 clear hr1_9 hc1_9
 have HR1_13 := mk0 hr1_13
 have HC1_13 := mk0 hc1_13
 clear hr1_13 hc1_13
 have HR1_17 := mk0 hr1_17
 have HC1_17 := mk0 hc1_17
 clear hr1_17 hc1_17
 have HR1_18 := mk0 hr1_18
 have HC1_18 := mk0 hc1_18
 clear hr1_18 hc1_18
 have HB := mk0 (Below.refl w.heap.size w)
 have H : (if a0_0 = a1_0 then (if a0_1.toList = a1_1.toList then ((laws_eqExp.f k a0_2 a0_3 a0_4 l0_5 a1_2 a1_3 a1_4 l1_5).bind fun t239 => (if t239 = true then ((laws_eqExp.f k a0_6 a0_7 a0_8 l0_9 a1_6 a1_7 a1_8 l1_9).bind fun t240 => (if t240 = true then ((laws_eqExp.f k a0_10 a0_11 a0_12 l0_13 a1_10 a1_11 a1_12 l1_13).bind fun t241 => (if t241 = true then ((laws_eqExp.f k a0_14 a0_15 a0_16 l0_17 a1_14 a1_15 a1_16 l1_17).bind fun t242 => (if t242 = true then ((laws_eqStmtS.f k l0_18 l1_18).bind fun t243 => (if t243 = true then (some true) else (some false))) else (some false))) else (some false))) else (some false))) else (some false))) else (some false)) else (some false)) = some r := by rw [laws_eqStmt.f] at h;exact h
 clear h
 refine Or.elim (Classical.em (a0_0 = a1_0)) (fun c3 => ?yes37) (fun c3 => ?no37)
 case' yes37 =>
  rw [if_pos c3] at H
  have c3b0 : (a0_0 == a1_0) = true := beq_iff_eq.mpr c3
  have c3b1 : (a0_0 != a1_0) = false := bne_eq_false_iff_eq.mpr c3
  clear c3
  refine Or.elim (Classical.em (a0_1.toList = a1_1.toList)) (fun c4 => ?yes38) (fun c4 => ?no38)
  case' yes38 =>
   rw [if_pos c4] at H
   have c4b0 : (a0_1.toList == a1_1.toList) = true := beq_iff_eq.mpr c4
   have c4b1 : (a0_1.toList != a1_1.toList) = false := bne_eq_false_iff_eq.mpr c4
   clear c4
   obtain ⟨t239,A5,H⟩ := bindA H
   refine Or.elim (Classical.em (t239 = true)) (fun c6 => ?yes35) (fun c6 => ?no35)
   case' yes35 =>
    subst c6
    rw [if_pos rfl] at H
    obtain ⟨t240,A7,H⟩ := bindA H
    refine Or.elim (Classical.em (t240 = true)) (fun c8 => ?yes36) (fun c8 => ?no36)
    case' yes36 =>
     subst c8
     rw [if_pos rfl] at H
     obtain ⟨t241,A9,H⟩ := bindA H
     refine Or.elim (Classical.em (t241 = true)) (fun c10 => ?yes33) (fun c10 => ?no33)
     case' yes33 =>
      subst c10
      rw [if_pos rfl] at H
      obtain ⟨t242,A11,H⟩ := bindA H
      refine Or.elim (Classical.em (t242 = true)) (fun c12 => ?yes34) (fun c12 => ?no34)
      case' yes34 =>
       subst c12
       rw [if_pos rfl] at H
       obtain ⟨t243,A13,H⟩ := bindA H
       refine Or.elim (Classical.em (t243 = true)) (fun c14 => ?yes32) (fun c14 => ?no32)
       case' yes32 =>
        subst c14
        rw [if_pos rfl] at H
        obtain rfl := Option.some.inj H
       case' no32 =>
        replace c14 := Bool.eq_false_iff.mpr c14
        subst c14
        rw [if_neg (show ¬ (false = true) by decide)] at H
        obtain rfl := Option.some.inj H
       all_goals
        go_enter Try.func26,Try.ntmps26
        go_wp2_with (first|((with_reducible refine gate_dst (N := 2) rfl ?_);refine box_event ?hg (N := 2) ?hd (cs := #[.int .i64 a0_0,.string a0_1,.int .i64 a0_2,.int .i64 a0_3,.string a0_4,.slice A0_5 l0_5.length c0_5,.int .i64 a0_6,.int .i64 a0_7,.string a0_8,.slice A0_9 l0_9.length c0_9,.int .i64 a0_10,.int .i64 a0_11,.string a0_12,.slice A0_13 l0_13.length c0_13,.int .i64 a0_14,.int .i64 a0_15,.string a0_16,.slice A0_17 l0_17.length c0_17,.slice A0_18 l0_18.length c0_18]) (t := 50) ?hr ?_;(case hd => rfl);(case hg => rfl);(case hr => first|(go_simp;done)|(go_simp;rfl));intro gb237 hg w15 hbox hb;have q_ := qB (by repeat (first|(with_reducible first|exact HB.out|apply bA|apply bN|apply bD)|exact HB.out)) hb;have n0_ := mk0 (below_step q_ hb);have n1_ := mk0 (hbox);have n2_ := mk0 (below_size2 q_ hg);have n3_ := n2_;clear HB;have HB := n0_;have BK237 := n1_;have GW237 := n2_;have GE237 := n3_;clear q_ n0_ n1_ n2_ n3_ hb hbox hg)|((with_reducible refine gate_dst (N := 3) rfl ?_);refine box_event ?hg (N := 3) ?hd (cs := #[.int .i64 a1_0,.string a1_1,.int .i64 a1_2,.int .i64 a1_3,.string a1_4,.slice A1_5 l1_5.length c1_5,.int .i64 a1_6,.int .i64 a1_7,.string a1_8,.slice A1_9 l1_9.length c1_9,.int .i64 a1_10,.int .i64 a1_11,.string a1_12,.slice A1_13 l1_13.length c1_13,.int .i64 a1_14,.int .i64 a1_15,.string a1_16,.slice A1_17 l1_17.length c1_17,.slice A1_18 l1_18.length c1_18]) (t := 50) ?hr ?_;(case hd => rfl);(case hg => rfl);(case hr => first|(go_simp;done)|(go_simp;rfl));intro gb238 hg w16 hbox hb;have q_ := qB (by repeat (first|(with_reducible first|exact HB.out|apply bA|apply bN|apply bD|refine bS ?_ GE237.out)|exact HB.out)) hb;have n0_ := mk0 (blk_below (by exact kX BK237.out) hb);have n1_ := mk0 (below_step q_ hb);have n2_ := mk0 (hbox);have n3_ := mk0 (below_size2 q_ hg);have n4_ := n3_;have n5_ := mk0 ((by rw [hg];exact Nat.ne_of_lt (blk_lt (by exact kX BK237.out)) : gb237 ≠ gb238));have n6_ := mk0 ((by rw [hg];exact Nat.ne_of_gt (blk_lt (by exact kX BK237.out)) : gb238 ≠ gb237));clear BK237 HB;have BK237 := n0_;have HB := n1_;have BK238 := n2_;have GW238 := n3_;have GE238 := n4_;have NB237_238 := n5_;have NB238_237 := n6_;clear q_ n0_ n1_ n2_ n3_ n4_ n5_ n6_ hb hbox hg)|((with_reducible refine gate_dst (N := 6) rfl ?_);refine normW ?_ (by (try simp only [Act.put,List.setIfInBounds_toArray,List.set_cons_zero,List.set_cons_succ]);rfl);refine ldOne rfl 3 _ rfl gb237 0 rfl (l := [.int .i64 a0_0,.string a0_1,.int .i64 a0_2,.int .i64 a0_3,.string a0_4,.slice A0_5 l0_5.length c0_5,.int .i64 a0_6,.int .i64 a0_7,.string a0_8,.slice A0_9 l0_9.length c0_9,.int .i64 a0_10,.int .i64 a0_11,.string a0_12,.slice A0_13 l0_13.length c0_13,.int .i64 a0_14,.int .i64 a0_15,.string a0_16,.slice A0_17 l0_17.length c0_17,.slice A0_18 l0_18.length c0_18]) (tb := 50) (by exact kX BK237.out) (.int .i64 a0_0) rfl (fun _ => by kernel_rfl) ?_;have hnb17 := NB237_238.out;have hnc17 := NB238_237.out)|((with_reducible refine gate_dst (N := 8) rfl ?_);refine normW ?_ (by (try simp only [Act.put,List.setIfInBounds_toArray,List.set_cons_zero,List.set_cons_succ]);rfl);refine ldOne rfl 3 _ rfl gb238 0 rfl (l := [.int .i64 a1_0,.string a1_1,.int .i64 a1_2,.int .i64 a1_3,.string a1_4,.slice A1_5 l1_5.length c1_5,.int .i64 a1_6,.int .i64 a1_7,.string a1_8,.slice A1_9 l1_9.length c1_9,.int .i64 a1_10,.int .i64 a1_11,.string a1_12,.slice A1_13 l1_13.length c1_13,.int .i64 a1_14,.int .i64 a1_15,.string a1_16,.slice A1_17 l1_17.length c1_17,.slice A1_18 l1_18.length c1_18]) (tb := 50) (by exact kX BK238.out) (.int .i64 a1_0) rfl (fun _ => by kernel_rfl) ?_)|((with_reducible refine gate_dst (N := 11) rfl ?_);refine normW ?_ (by (try simp only [Act.put,List.setIfInBounds_toArray,List.set_cons_zero,List.set_cons_succ]);rfl);refine ldOne rfl 9 _ rfl gb237 1 rfl (l := [.int .i64 a0_0,.string a0_1,.int .i64 a0_2,.int .i64 a0_3,.string a0_4,.slice A0_5 l0_5.length c0_5,.int .i64 a0_6,.int .i64 a0_7,.string a0_8,.slice A0_9 l0_9.length c0_9,.int .i64 a0_10,.int .i64 a0_11,.string a0_12,.slice A0_13 l0_13.length c0_13,.int .i64 a0_14,.int .i64 a0_15,.string a0_16,.slice A0_17 l0_17.length c0_17,.slice A0_18 l0_18.length c0_18]) (tb := 50) (by exact kX BK237.out) (.string a0_1) rfl (fun _ => by kernel_rfl) ?_)|((with_reducible refine gate_dst (N := 13) rfl ?_);refine normW ?_ (by (try simp only [Act.put,List.setIfInBounds_toArray,List.set_cons_zero,List.set_cons_succ]);rfl);refine ldOne rfl 9 _ rfl gb238 1 rfl (l := [.int .i64 a1_0,.string a1_1,.int .i64 a1_2,.int .i64 a1_3,.string a1_4,.slice A1_5 l1_5.length c1_5,.int .i64 a1_6,.int .i64 a1_7,.string a1_8,.slice A1_9 l1_9.length c1_9,.int .i64 a1_10,.int .i64 a1_11,.string a1_12,.slice A1_13 l1_13.length c1_13,.int .i64 a1_14,.int .i64 a1_15,.string a1_16,.slice A1_17 l1_17.length c1_17,.slice A1_18 l1_18.length c1_18]) (tb := 50) (by exact kX BK238.out) (.string a1_1) rfl (fun _ => by kernel_rfl) ?_)|((with_reducible refine gate_dst (N := 16) rfl ?_);refine normW ?_ (by (try simp only [Act.put,List.setIfInBounds_toArray,List.set_cons_zero,List.set_cons_succ]);rfl);refine ldBox rfl 29 _ rfl gb237 2 rfl (l := [.int .i64 a0_0,.string a0_1,.int .i64 a0_2,.int .i64 a0_3,.string a0_4,.slice A0_5 l0_5.length c0_5,.int .i64 a0_6,.int .i64 a0_7,.string a0_8,.slice A0_9 l0_9.length c0_9,.int .i64 a0_10,.int .i64 a0_11,.string a0_12,.slice A0_13 l0_13.length c0_13,.int .i64 a0_14,.int .i64 a0_15,.string a0_16,.slice A0_17 l0_17.length c0_17,.slice A0_18 l0_18.length c0_18]) (tb := 50) (by exact kX BK237.out) [.int .i64 a0_2,.int .i64 a0_3,.string a0_4,.slice A0_5 l0_5.length c0_5] rfl _ hu29 (by kernel_rfl) ?_)|((with_reducible refine gate_dst (N := 18) rfl ?_);refine normW ?_ (by (try simp only [Act.put,List.setIfInBounds_toArray,List.set_cons_zero,List.set_cons_succ]);rfl);refine ldBox rfl 29 _ rfl gb238 2 rfl (l := [.int .i64 a1_0,.string a1_1,.int .i64 a1_2,.int .i64 a1_3,.string a1_4,.slice A1_5 l1_5.length c1_5,.int .i64 a1_6,.int .i64 a1_7,.string a1_8,.slice A1_9 l1_9.length c1_9,.int .i64 a1_10,.int .i64 a1_11,.string a1_12,.slice A1_13 l1_13.length c1_13,.int .i64 a1_14,.int .i64 a1_15,.string a1_16,.slice A1_17 l1_17.length c1_17,.slice A1_18 l1_18.length c1_18]) (tb := 50) (by exact kX BK238.out) [.int .i64 a1_2,.int .i64 a1_3,.string a1_4,.slice A1_5 l1_5.length c1_5] rfl _ hu29 (by kernel_rfl) ?_)|((with_reducible refine gate_callee (f := 14) rfl ?_);refine goesL_ (some 19) rfl rfl Try.func14 (by kernel_rfl) rfl #[.agg #[.int .i64 a0_2,.int .i64 a0_3,.string a0_4,.slice A0_5 l0_5.length c0_5],.agg #[.int .i64 a1_2,.int .i64 a1_3,.string a1_4,.slice A1_5 l1_5.length c1_5]] rfl (by (try simp only [List.map_toArray,List.map_cons,List.map_nil]);first|done|rfl) ?_;(with_reducible refine (laws_eqExp.calls k a0_2 a0_3 a0_4 _ _ l0_5 a1_2 a1_3 a1_4 _ _ l1_5 _ _ ?side1 ?side2 ?side3 ?side4 A5.out).mono ?_);(case side1 => repeat (first|exact (Kd.C_below HR0_5.out HB.out)|(with_reducible refine cA ?_ _)|(with_reducible refine cN ?_ _)|(with_reducible refine cD ?_)));(case side2 => exact HC0_5.out);(case side3 => repeat (first|exact (Kd.C_below HR1_5.out HB.out)|(with_reducible refine cA ?_ _)|(with_reducible refine cN ?_ _)|(with_reducible refine cD ?_)));(case side4 => exact HC1_5.out);rintro e w18 ⟨rfl,hb⟩;refine ⟨_,rfl,?_⟩;have n0_ := mk0 (blk_below (by exact kX BK237.out) hb);have n1_ := mk0 (blk_below (by exact kX BK238.out) hb);have n2_ := mk0 (below_step (by repeat (first|(with_reducible first|exact HB.out|apply bA|apply bN|apply bD|refine bS ?_ GE237.out|refine bS ?_ GE238.out)|exact HB.out)) hb);clear BK237 BK238 HB;have BK237 := n0_;have BK238 := n1_;have HB := n2_;clear n0_ n1_ n2_;(try clear hb);(try clear hb2);(try clear hk);(try clear hi))|((with_reducible refine gate_dst (N := 22) rfl ?_);refine normW ?_ (by (try simp only [Act.put,List.setIfInBounds_toArray,List.set_cons_zero,List.set_cons_succ]);rfl);refine ldBox rfl 29 _ rfl gb237 6 rfl (l := [.int .i64 a0_0,.string a0_1,.int .i64 a0_2,.int .i64 a0_3,.string a0_4,.slice A0_5 l0_5.length c0_5,.int .i64 a0_6,.int .i64 a0_7,.string a0_8,.slice A0_9 l0_9.length c0_9,.int .i64 a0_10,.int .i64 a0_11,.string a0_12,.slice A0_13 l0_13.length c0_13,.int .i64 a0_14,.int .i64 a0_15,.string a0_16,.slice A0_17 l0_17.length c0_17,.slice A0_18 l0_18.length c0_18]) (tb := 50) (by exact kX BK237.out) [.int .i64 a0_6,.int .i64 a0_7,.string a0_8,.slice A0_9 l0_9.length c0_9] rfl _ hu29 (by kernel_rfl) ?_)|((with_reducible refine gate_dst (N := 24) rfl ?_);refine normW ?_ (by (try simp only [Act.put,List.setIfInBounds_toArray,List.set_cons_zero,List.set_cons_succ]);rfl);refine ldBox rfl 29 _ rfl gb238 6 rfl (l := [.int .i64 a1_0,.string a1_1,.int .i64 a1_2,.int .i64 a1_3,.string a1_4,.slice A1_5 l1_5.length c1_5,.int .i64 a1_6,.int .i64 a1_7,.string a1_8,.slice A1_9 l1_9.length c1_9,.int .i64 a1_10,.int .i64 a1_11,.string a1_12,.slice A1_13 l1_13.length c1_13,.int .i64 a1_14,.int .i64 a1_15,.string a1_16,.slice A1_17 l1_17.length c1_17,.slice A1_18 l1_18.length c1_18]) (tb := 50) (by exact kX BK238.out) [.int .i64 a1_6,.int .i64 a1_7,.string a1_8,.slice A1_9 l1_9.length c1_9] rfl _ hu29 (by kernel_rfl) ?_)|((with_reducible refine gate_callee (f := 14) rfl ?_);refine goesL_ (some 25) rfl rfl Try.func14 (by kernel_rfl) rfl #[.agg #[.int .i64 a0_6,.int .i64 a0_7,.string a0_8,.slice A0_9 l0_9.length c0_9],.agg #[.int .i64 a1_6,.int .i64 a1_7,.string a1_8,.slice A1_9 l1_9.length c1_9]] rfl (by (try simp only [List.map_toArray,List.map_cons,List.map_nil]);first|done|rfl) ?_;(with_reducible refine (laws_eqExp.calls k a0_6 a0_7 a0_8 _ _ l0_9 a1_6 a1_7 a1_8 _ _ l1_9 _ _ ?side1 ?side2 ?side3 ?side4 A7.out).mono ?_);(case side1 => repeat (first|exact (Kd.C_below HR0_9.out HB.out)|(with_reducible refine cA ?_ _)|(with_reducible refine cN ?_ _)|(with_reducible refine cD ?_)));(case side2 => exact HC0_9.out);(case side3 => repeat (first|exact (Kd.C_below HR1_9.out HB.out)|(with_reducible refine cA ?_ _)|(with_reducible refine cN ?_ _)|(with_reducible refine cD ?_)));(case side4 => exact HC1_9.out);rintro e w19 ⟨rfl,hb⟩;refine ⟨_,rfl,?_⟩;have n0_ := mk0 (blk_below (by exact kX BK237.out) hb);have n1_ := mk0 (blk_below (by exact kX BK238.out) hb);have n2_ := mk0 (below_step (by repeat (first|(with_reducible first|exact HB.out|apply bA|apply bN|apply bD|refine bS ?_ GE237.out|refine bS ?_ GE238.out)|exact HB.out)) hb);clear BK237 BK238 HB;have BK237 := n0_;have BK238 := n1_;have HB := n2_;clear n0_ n1_ n2_;(try clear hb);(try clear hb2);(try clear hk);(try clear hi))|((with_reducible refine gate_dst (N := 28) rfl ?_);refine normW ?_ (by (try simp only [Act.put,List.setIfInBounds_toArray,List.set_cons_zero,List.set_cons_succ]);rfl);refine ldBox rfl 29 _ rfl gb237 10 rfl (l := [.int .i64 a0_0,.string a0_1,.int .i64 a0_2,.int .i64 a0_3,.string a0_4,.slice A0_5 l0_5.length c0_5,.int .i64 a0_6,.int .i64 a0_7,.string a0_8,.slice A0_9 l0_9.length c0_9,.int .i64 a0_10,.int .i64 a0_11,.string a0_12,.slice A0_13 l0_13.length c0_13,.int .i64 a0_14,.int .i64 a0_15,.string a0_16,.slice A0_17 l0_17.length c0_17,.slice A0_18 l0_18.length c0_18]) (tb := 50) (by exact kX BK237.out) [.int .i64 a0_10,.int .i64 a0_11,.string a0_12,.slice A0_13 l0_13.length c0_13] rfl _ hu29 (by kernel_rfl) ?_)|((with_reducible refine gate_dst (N := 30) rfl ?_);refine normW ?_ (by (try simp only [Act.put,List.setIfInBounds_toArray,List.set_cons_zero,List.set_cons_succ]);rfl);refine ldBox rfl 29 _ rfl gb238 10 rfl (l := [.int .i64 a1_0,.string a1_1,.int .i64 a1_2,.int .i64 a1_3,.string a1_4,.slice A1_5 l1_5.length c1_5,.int .i64 a1_6,.int .i64 a1_7,.string a1_8,.slice A1_9 l1_9.length c1_9,.int .i64 a1_10,.int .i64 a1_11,.string a1_12,.slice A1_13 l1_13.length c1_13,.int .i64 a1_14,.int .i64 a1_15,.string a1_16,.slice A1_17 l1_17.length c1_17,.slice A1_18 l1_18.length c1_18]) (tb := 50) (by exact kX BK238.out) [.int .i64 a1_10,.int .i64 a1_11,.string a1_12,.slice A1_13 l1_13.length c1_13] rfl _ hu29 (by kernel_rfl) ?_)|((with_reducible refine gate_callee (f := 14) rfl ?_);refine goesL_ (some 31) rfl rfl Try.func14 (by kernel_rfl) rfl #[.agg #[.int .i64 a0_10,.int .i64 a0_11,.string a0_12,.slice A0_13 l0_13.length c0_13],.agg #[.int .i64 a1_10,.int .i64 a1_11,.string a1_12,.slice A1_13 l1_13.length c1_13]] rfl (by (try simp only [List.map_toArray,List.map_cons,List.map_nil]);first|done|rfl) ?_;(with_reducible refine (laws_eqExp.calls k a0_10 a0_11 a0_12 _ _ l0_13 a1_10 a1_11 a1_12 _ _ l1_13 _ _ ?side1 ?side2 ?side3 ?side4 A9.out).mono ?_);(case side1 => repeat (first|exact (Kd.C_below HR0_13.out HB.out)|(with_reducible refine cA ?_ _)|(with_reducible refine cN ?_ _)|(with_reducible refine cD ?_)));(case side2 => exact HC0_13.out);(case side3 => repeat (first|exact (Kd.C_below HR1_13.out HB.out)|(with_reducible refine cA ?_ _)|(with_reducible refine cN ?_ _)|(with_reducible refine cD ?_)));(case side4 => exact HC1_13.out);rintro e w20 ⟨rfl,hb⟩;refine ⟨_,rfl,?_⟩;have n0_ := mk0 (blk_below (by exact kX BK237.out) hb);have n1_ := mk0 (blk_below (by exact kX BK238.out) hb);have n2_ := mk0 (below_step (by repeat (first|(with_reducible first|exact HB.out|apply bA|apply bN|apply bD|refine bS ?_ GE237.out|refine bS ?_ GE238.out)|exact HB.out)) hb);clear BK237 BK238 HB;have BK237 := n0_;have BK238 := n1_;have HB := n2_;clear n0_ n1_ n2_;(try clear hb);(try clear hb2);(try clear hk);(try clear hi))|((with_reducible refine gate_dst (N := 34) rfl ?_);refine normW ?_ (by (try simp only [Act.put,List.setIfInBounds_toArray,List.set_cons_zero,List.set_cons_succ]);rfl);refine ldBox rfl 29 _ rfl gb237 14 rfl (l := [.int .i64 a0_0,.string a0_1,.int .i64 a0_2,.int .i64 a0_3,.string a0_4,.slice A0_5 l0_5.length c0_5,.int .i64 a0_6,.int .i64 a0_7,.string a0_8,.slice A0_9 l0_9.length c0_9,.int .i64 a0_10,.int .i64 a0_11,.string a0_12,.slice A0_13 l0_13.length c0_13,.int .i64 a0_14,.int .i64 a0_15,.string a0_16,.slice A0_17 l0_17.length c0_17,.slice A0_18 l0_18.length c0_18]) (tb := 50) (by exact kX BK237.out) [.int .i64 a0_14,.int .i64 a0_15,.string a0_16,.slice A0_17 l0_17.length c0_17] rfl _ hu29 (by kernel_rfl) ?_)|((with_reducible refine gate_dst (N := 36) rfl ?_);refine normW ?_ (by (try simp only [Act.put,List.setIfInBounds_toArray,List.set_cons_zero,List.set_cons_succ]);rfl);refine ldBox rfl 29 _ rfl gb238 14 rfl (l := [.int .i64 a1_0,.string a1_1,.int .i64 a1_2,.int .i64 a1_3,.string a1_4,.slice A1_5 l1_5.length c1_5,.int .i64 a1_6,.int .i64 a1_7,.string a1_8,.slice A1_9 l1_9.length c1_9,.int .i64 a1_10,.int .i64 a1_11,.string a1_12,.slice A1_13 l1_13.length c1_13,.int .i64 a1_14,.int .i64 a1_15,.string a1_16,.slice A1_17 l1_17.length c1_17,.slice A1_18 l1_18.length c1_18]) (tb := 50) (by exact kX BK238.out) [.int .i64 a1_14,.int .i64 a1_15,.string a1_16,.slice A1_17 l1_17.length c1_17] rfl _ hu29 (by kernel_rfl) ?_)|((with_reducible refine gate_callee (f := 14) rfl ?_);refine goesL_ (some 37) rfl rfl Try.func14 (by kernel_rfl) rfl #[.agg #[.int .i64 a0_14,.int .i64 a0_15,.string a0_16,.slice A0_17 l0_17.length c0_17],.agg #[.int .i64 a1_14,.int .i64 a1_15,.string a1_16,.slice A1_17 l1_17.length c1_17]] rfl (by (try simp only [List.map_toArray,List.map_cons,List.map_nil]);first|done|rfl) ?_;(with_reducible refine (laws_eqExp.calls k a0_14 a0_15 a0_16 _ _ l0_17 a1_14 a1_15 a1_16 _ _ l1_17 _ _ ?side1 ?side2 ?side3 ?side4 A11.out).mono ?_);(case side1 => repeat (first|exact (Kd.C_below HR0_17.out HB.out)|(with_reducible refine cA ?_ _)|(with_reducible refine cN ?_ _)|(with_reducible refine cD ?_)));(case side2 => exact HC0_17.out);(case side3 => repeat (first|exact (Kd.C_below HR1_17.out HB.out)|(with_reducible refine cA ?_ _)|(with_reducible refine cN ?_ _)|(with_reducible refine cD ?_)));(case side4 => exact HC1_17.out);rintro e w21 ⟨rfl,hb⟩;refine ⟨_,rfl,?_⟩;have n0_ := mk0 (blk_below (by exact kX BK237.out) hb);have n1_ := mk0 (blk_below (by exact kX BK238.out) hb);have n2_ := mk0 (below_step (by repeat (first|(with_reducible first|exact HB.out|apply bA|apply bN|apply bD|refine bS ?_ GE237.out|refine bS ?_ GE238.out)|exact HB.out)) hb);clear BK237 BK238 HB;have BK237 := n0_;have BK238 := n1_;have HB := n2_;clear n0_ n1_ n2_;(try clear hb);(try clear hb2);(try clear hk);(try clear hi))|((with_reducible refine gate_dst (N := 40) rfl ?_);refine normW ?_ (by (try simp only [Act.put,List.setIfInBounds_toArray,List.set_cons_zero,List.set_cons_succ]);rfl);refine ldOne rfl 48 _ rfl gb237 18 rfl (l := [.int .i64 a0_0,.string a0_1,.int .i64 a0_2,.int .i64 a0_3,.string a0_4,.slice A0_5 l0_5.length c0_5,.int .i64 a0_6,.int .i64 a0_7,.string a0_8,.slice A0_9 l0_9.length c0_9,.int .i64 a0_10,.int .i64 a0_11,.string a0_12,.slice A0_13 l0_13.length c0_13,.int .i64 a0_14,.int .i64 a0_15,.string a0_16,.slice A0_17 l0_17.length c0_17,.slice A0_18 l0_18.length c0_18]) (tb := 50) (by exact kX BK237.out) (.slice A0_18 l0_18.length c0_18) rfl (fun _ => by kernel_rfl) ?_)|((with_reducible refine gate_dst (N := 42) rfl ?_);refine normW ?_ (by (try simp only [Act.put,List.setIfInBounds_toArray,List.set_cons_zero,List.set_cons_succ]);rfl);refine ldOne rfl 48 _ rfl gb238 18 rfl (l := [.int .i64 a1_0,.string a1_1,.int .i64 a1_2,.int .i64 a1_3,.string a1_4,.slice A1_5 l1_5.length c1_5,.int .i64 a1_6,.int .i64 a1_7,.string a1_8,.slice A1_9 l1_9.length c1_9,.int .i64 a1_10,.int .i64 a1_11,.string a1_12,.slice A1_13 l1_13.length c1_13,.int .i64 a1_14,.int .i64 a1_15,.string a1_16,.slice A1_17 l1_17.length c1_17,.slice A1_18 l1_18.length c1_18]) (tb := 50) (by exact kX BK238.out) (.slice A1_18 l1_18.length c1_18) rfl (fun _ => by kernel_rfl) ?_)|((with_reducible refine gate_callee (f := 61) rfl ?_);refine goesL_ (some 43) rfl rfl Try.func61 (by kernel_rfl) rfl #[.slice A0_18 l0_18.length c0_18,.slice A1_18 l1_18.length c1_18] rfl (by (try simp only [List.map_toArray,List.map_cons,List.map_nil]);first|done|rfl) ?_;(with_reducible refine (IH.out k (by omega) _ _ l0_18 _ _ l1_18 _ _ ?side1 ?side2 ?side3 ?side4 A13.out).mono ?_);(case side1 => repeat (first|exact (Kd.C_below HR0_18.out HB.out)|(with_reducible refine cA ?_ _)|(with_reducible refine cN ?_ _)|(with_reducible refine cD ?_)));(case side2 => exact HC0_18.out);(case side3 => repeat (first|exact (Kd.C_below HR1_18.out HB.out)|(with_reducible refine cA ?_ _)|(with_reducible refine cN ?_ _)|(with_reducible refine cD ?_)));(case side4 => exact HC1_18.out);rintro e w22 ⟨rfl,hb⟩;refine ⟨_,rfl,?_⟩;have n0_ := mk0 (blk_below (by exact kX BK237.out) hb);have n1_ := mk0 (blk_below (by exact kX BK238.out) hb);have n2_ := mk0 (below_step (by repeat (first|(with_reducible first|exact HB.out|apply bA|apply bN|apply bD|refine bS ?_ GE237.out|refine bS ?_ GE238.out)|exact HB.out)) hb);clear BK237 BK238 HB;have BK237 := n0_;have BK238 := n1_;have HB := n2_;clear n0_ n1_ n2_;(try clear hb);(try clear hb2);(try clear hk);(try clear hi)))
        go_ret
        exact ⟨by first|rfl|(simp [errW_none,errW_some] <;> rfl)|(simp [*,errW_none,errW_some] <;> rfl),by repeat (first|(with_reducible first|exact HB.out|apply bA|apply bN|apply bD|refine bS ?_ GE237.out|refine bS ?_ GE238.out)|exact HB.out)⟩
      case' no34 =>
       replace c12 := Bool.eq_false_iff.mpr c12
       subst c12
       rw [if_neg (show ¬ (false = true) by decide)] at H
       obtain rfl := Option.some.inj H
     case' no33 =>
      replace c10 := Bool.eq_false_iff.mpr c10
      subst c10
      rw [if_neg (show ¬ (false = true) by decide)] at H
      obtain rfl := Option.some.inj H
     all_goals
      go_enter Try.func26,Try.ntmps26
      go_wp2_with (first|((with_reducible refine gate_dst (N := 2) rfl ?_);refine box_event ?hg (N := 2) ?hd (cs := #[.int .i64 a0_0,.string a0_1,.int .i64 a0_2,.int .i64 a0_3,.string a0_4,.slice A0_5 l0_5.length c0_5,.int .i64 a0_6,.int .i64 a0_7,.string a0_8,.slice A0_9 l0_9.length c0_9,.int .i64 a0_10,.int .i64 a0_11,.string a0_12,.slice A0_13 l0_13.length c0_13,.int .i64 a0_14,.int .i64 a0_15,.string a0_16,.slice A0_17 l0_17.length c0_17,.slice A0_18 l0_18.length c0_18]) (t := 50) ?hr ?_;(case hd => rfl);(case hg => rfl);(case hr => first|(go_simp;done)|(go_simp;rfl));intro gb237 hg w31 hbox hb;have q_ := qB (by repeat (first|(with_reducible first|exact HB.out|apply bA|apply bN|apply bD)|exact HB.out)) hb;have n0_ := mk0 (below_step q_ hb);have n1_ := mk0 (hbox);have n2_ := mk0 (below_size2 q_ hg);have n3_ := n2_;clear HB;have HB := n0_;have BK237 := n1_;have GW237 := n2_;have GE237 := n3_;clear q_ n0_ n1_ n2_ n3_ hb hbox hg)|((with_reducible refine gate_dst (N := 3) rfl ?_);refine box_event ?hg (N := 3) ?hd (cs := #[.int .i64 a1_0,.string a1_1,.int .i64 a1_2,.int .i64 a1_3,.string a1_4,.slice A1_5 l1_5.length c1_5,.int .i64 a1_6,.int .i64 a1_7,.string a1_8,.slice A1_9 l1_9.length c1_9,.int .i64 a1_10,.int .i64 a1_11,.string a1_12,.slice A1_13 l1_13.length c1_13,.int .i64 a1_14,.int .i64 a1_15,.string a1_16,.slice A1_17 l1_17.length c1_17,.slice A1_18 l1_18.length c1_18]) (t := 50) ?hr ?_;(case hd => rfl);(case hg => rfl);(case hr => first|(go_simp;done)|(go_simp;rfl));intro gb238 hg w32 hbox hb;have q_ := qB (by repeat (first|(with_reducible first|exact HB.out|apply bA|apply bN|apply bD|refine bS ?_ GE237.out)|exact HB.out)) hb;have n0_ := mk0 (blk_below (by exact kX BK237.out) hb);have n1_ := mk0 (below_step q_ hb);have n2_ := mk0 (hbox);have n3_ := mk0 (below_size2 q_ hg);have n4_ := n3_;have n5_ := mk0 ((by rw [hg];exact Nat.ne_of_lt (blk_lt (by exact kX BK237.out)) : gb237 ≠ gb238));have n6_ := mk0 ((by rw [hg];exact Nat.ne_of_gt (blk_lt (by exact kX BK237.out)) : gb238 ≠ gb237));clear BK237 HB;have BK237 := n0_;have HB := n1_;have BK238 := n2_;have GW238 := n3_;have GE238 := n4_;have NB237_238 := n5_;have NB238_237 := n6_;clear q_ n0_ n1_ n2_ n3_ n4_ n5_ n6_ hb hbox hg)|((with_reducible refine gate_dst (N := 6) rfl ?_);refine normW ?_ (by (try simp only [Act.put,List.setIfInBounds_toArray,List.set_cons_zero,List.set_cons_succ]);rfl);refine ldOne rfl 3 _ rfl gb237 0 rfl (l := [.int .i64 a0_0,.string a0_1,.int .i64 a0_2,.int .i64 a0_3,.string a0_4,.slice A0_5 l0_5.length c0_5,.int .i64 a0_6,.int .i64 a0_7,.string a0_8,.slice A0_9 l0_9.length c0_9,.int .i64 a0_10,.int .i64 a0_11,.string a0_12,.slice A0_13 l0_13.length c0_13,.int .i64 a0_14,.int .i64 a0_15,.string a0_16,.slice A0_17 l0_17.length c0_17,.slice A0_18 l0_18.length c0_18]) (tb := 50) (by exact kX BK237.out) (.int .i64 a0_0) rfl (fun _ => by kernel_rfl) ?_;have hnb33 := NB237_238.out;have hnc33 := NB238_237.out)|((with_reducible refine gate_dst (N := 8) rfl ?_);refine normW ?_ (by (try simp only [Act.put,List.setIfInBounds_toArray,List.set_cons_zero,List.set_cons_succ]);rfl);refine ldOne rfl 3 _ rfl gb238 0 rfl (l := [.int .i64 a1_0,.string a1_1,.int .i64 a1_2,.int .i64 a1_3,.string a1_4,.slice A1_5 l1_5.length c1_5,.int .i64 a1_6,.int .i64 a1_7,.string a1_8,.slice A1_9 l1_9.length c1_9,.int .i64 a1_10,.int .i64 a1_11,.string a1_12,.slice A1_13 l1_13.length c1_13,.int .i64 a1_14,.int .i64 a1_15,.string a1_16,.slice A1_17 l1_17.length c1_17,.slice A1_18 l1_18.length c1_18]) (tb := 50) (by exact kX BK238.out) (.int .i64 a1_0) rfl (fun _ => by kernel_rfl) ?_)|((with_reducible refine gate_dst (N := 11) rfl ?_);refine normW ?_ (by (try simp only [Act.put,List.setIfInBounds_toArray,List.set_cons_zero,List.set_cons_succ]);rfl);refine ldOne rfl 9 _ rfl gb237 1 rfl (l := [.int .i64 a0_0,.string a0_1,.int .i64 a0_2,.int .i64 a0_3,.string a0_4,.slice A0_5 l0_5.length c0_5,.int .i64 a0_6,.int .i64 a0_7,.string a0_8,.slice A0_9 l0_9.length c0_9,.int .i64 a0_10,.int .i64 a0_11,.string a0_12,.slice A0_13 l0_13.length c0_13,.int .i64 a0_14,.int .i64 a0_15,.string a0_16,.slice A0_17 l0_17.length c0_17,.slice A0_18 l0_18.length c0_18]) (tb := 50) (by exact kX BK237.out) (.string a0_1) rfl (fun _ => by kernel_rfl) ?_)|((with_reducible refine gate_dst (N := 13) rfl ?_);refine normW ?_ (by (try simp only [Act.put,List.setIfInBounds_toArray,List.set_cons_zero,List.set_cons_succ]);rfl);refine ldOne rfl 9 _ rfl gb238 1 rfl (l := [.int .i64 a1_0,.string a1_1,.int .i64 a1_2,.int .i64 a1_3,.string a1_4,.slice A1_5 l1_5.length c1_5,.int .i64 a1_6,.int .i64 a1_7,.string a1_8,.slice A1_9 l1_9.length c1_9,.int .i64 a1_10,.int .i64 a1_11,.string a1_12,.slice A1_13 l1_13.length c1_13,.int .i64 a1_14,.int .i64 a1_15,.string a1_16,.slice A1_17 l1_17.length c1_17,.slice A1_18 l1_18.length c1_18]) (tb := 50) (by exact kX BK238.out) (.string a1_1) rfl (fun _ => by kernel_rfl) ?_)|((with_reducible refine gate_dst (N := 16) rfl ?_);refine normW ?_ (by (try simp only [Act.put,List.setIfInBounds_toArray,List.set_cons_zero,List.set_cons_succ]);rfl);refine ldBox rfl 29 _ rfl gb237 2 rfl (l := [.int .i64 a0_0,.string a0_1,.int .i64 a0_2,.int .i64 a0_3,.string a0_4,.slice A0_5 l0_5.length c0_5,.int .i64 a0_6,.int .i64 a0_7,.string a0_8,.slice A0_9 l0_9.length c0_9,.int .i64 a0_10,.int .i64 a0_11,.string a0_12,.slice A0_13 l0_13.length c0_13,.int .i64 a0_14,.int .i64 a0_15,.string a0_16,.slice A0_17 l0_17.length c0_17,.slice A0_18 l0_18.length c0_18]) (tb := 50) (by exact kX BK237.out) [.int .i64 a0_2,.int .i64 a0_3,.string a0_4,.slice A0_5 l0_5.length c0_5] rfl _ hu29 (by kernel_rfl) ?_)|((with_reducible refine gate_dst (N := 18) rfl ?_);refine normW ?_ (by (try simp only [Act.put,List.setIfInBounds_toArray,List.set_cons_zero,List.set_cons_succ]);rfl);refine ldBox rfl 29 _ rfl gb238 2 rfl (l := [.int .i64 a1_0,.string a1_1,.int .i64 a1_2,.int .i64 a1_3,.string a1_4,.slice A1_5 l1_5.length c1_5,.int .i64 a1_6,.int .i64 a1_7,.string a1_8,.slice A1_9 l1_9.length c1_9,.int .i64 a1_10,.int .i64 a1_11,.string a1_12,.slice A1_13 l1_13.length c1_13,.int .i64 a1_14,.int .i64 a1_15,.string a1_16,.slice A1_17 l1_17.length c1_17,.slice A1_18 l1_18.length c1_18]) (tb := 50) (by exact kX BK238.out) [.int .i64 a1_2,.int .i64 a1_3,.string a1_4,.slice A1_5 l1_5.length c1_5] rfl _ hu29 (by kernel_rfl) ?_)|((with_reducible refine gate_callee (f := 14) rfl ?_);refine goesL_ (some 19) rfl rfl Try.func14 (by kernel_rfl) rfl #[.agg #[.int .i64 a0_2,.int .i64 a0_3,.string a0_4,.slice A0_5 l0_5.length c0_5],.agg #[.int .i64 a1_2,.int .i64 a1_3,.string a1_4,.slice A1_5 l1_5.length c1_5]] rfl (by (try simp only [List.map_toArray,List.map_cons,List.map_nil]);first|done|rfl) ?_;(with_reducible refine (laws_eqExp.calls k a0_2 a0_3 a0_4 _ _ l0_5 a1_2 a1_3 a1_4 _ _ l1_5 _ _ ?side1 ?side2 ?side3 ?side4 A5.out).mono ?_);(case side1 => repeat (first|exact (Kd.C_below HR0_5.out HB.out)|(with_reducible refine cA ?_ _)|(with_reducible refine cN ?_ _)|(with_reducible refine cD ?_)));(case side2 => exact HC0_5.out);(case side3 => repeat (first|exact (Kd.C_below HR1_5.out HB.out)|(with_reducible refine cA ?_ _)|(with_reducible refine cN ?_ _)|(with_reducible refine cD ?_)));(case side4 => exact HC1_5.out);rintro e w34 ⟨rfl,hb⟩;refine ⟨_,rfl,?_⟩;have n0_ := mk0 (blk_below (by exact kX BK237.out) hb);have n1_ := mk0 (blk_below (by exact kX BK238.out) hb);have n2_ := mk0 (below_step (by repeat (first|(with_reducible first|exact HB.out|apply bA|apply bN|apply bD|refine bS ?_ GE237.out|refine bS ?_ GE238.out)|exact HB.out)) hb);clear BK237 BK238 HB;have BK237 := n0_;have BK238 := n1_;have HB := n2_;clear n0_ n1_ n2_;(try clear hb);(try clear hb2);(try clear hk);(try clear hi))|((with_reducible refine gate_dst (N := 22) rfl ?_);refine normW ?_ (by (try simp only [Act.put,List.setIfInBounds_toArray,List.set_cons_zero,List.set_cons_succ]);rfl);refine ldBox rfl 29 _ rfl gb237 6 rfl (l := [.int .i64 a0_0,.string a0_1,.int .i64 a0_2,.int .i64 a0_3,.string a0_4,.slice A0_5 l0_5.length c0_5,.int .i64 a0_6,.int .i64 a0_7,.string a0_8,.slice A0_9 l0_9.length c0_9,.int .i64 a0_10,.int .i64 a0_11,.string a0_12,.slice A0_13 l0_13.length c0_13,.int .i64 a0_14,.int .i64 a0_15,.string a0_16,.slice A0_17 l0_17.length c0_17,.slice A0_18 l0_18.length c0_18]) (tb := 50) (by exact kX BK237.out) [.int .i64 a0_6,.int .i64 a0_7,.string a0_8,.slice A0_9 l0_9.length c0_9] rfl _ hu29 (by kernel_rfl) ?_)|((with_reducible refine gate_dst (N := 24) rfl ?_);refine normW ?_ (by (try simp only [Act.put,List.setIfInBounds_toArray,List.set_cons_zero,List.set_cons_succ]);rfl);refine ldBox rfl 29 _ rfl gb238 6 rfl (l := [.int .i64 a1_0,.string a1_1,.int .i64 a1_2,.int .i64 a1_3,.string a1_4,.slice A1_5 l1_5.length c1_5,.int .i64 a1_6,.int .i64 a1_7,.string a1_8,.slice A1_9 l1_9.length c1_9,.int .i64 a1_10,.int .i64 a1_11,.string a1_12,.slice A1_13 l1_13.length c1_13,.int .i64 a1_14,.int .i64 a1_15,.string a1_16,.slice A1_17 l1_17.length c1_17,.slice A1_18 l1_18.length c1_18]) (tb := 50) (by exact kX BK238.out) [.int .i64 a1_6,.int .i64 a1_7,.string a1_8,.slice A1_9 l1_9.length c1_9] rfl _ hu29 (by kernel_rfl) ?_)|((with_reducible refine gate_callee (f := 14) rfl ?_);refine goesL_ (some 25) rfl rfl Try.func14 (by kernel_rfl) rfl #[.agg #[.int .i64 a0_6,.int .i64 a0_7,.string a0_8,.slice A0_9 l0_9.length c0_9],.agg #[.int .i64 a1_6,.int .i64 a1_7,.string a1_8,.slice A1_9 l1_9.length c1_9]] rfl (by (try simp only [List.map_toArray,List.map_cons,List.map_nil]);first|done|rfl) ?_;(with_reducible refine (laws_eqExp.calls k a0_6 a0_7 a0_8 _ _ l0_9 a1_6 a1_7 a1_8 _ _ l1_9 _ _ ?side1 ?side2 ?side3 ?side4 A7.out).mono ?_);(case side1 => repeat (first|exact (Kd.C_below HR0_9.out HB.out)|(with_reducible refine cA ?_ _)|(with_reducible refine cN ?_ _)|(with_reducible refine cD ?_)));(case side2 => exact HC0_9.out);(case side3 => repeat (first|exact (Kd.C_below HR1_9.out HB.out)|(with_reducible refine cA ?_ _)|(with_reducible refine cN ?_ _)|(with_reducible refine cD ?_)));(case side4 => exact HC1_9.out);rintro e w35 ⟨rfl,hb⟩;refine ⟨_,rfl,?_⟩;have n0_ := mk0 (blk_below (by exact kX BK237.out) hb);have n1_ := mk0 (blk_below (by exact kX BK238.out) hb);have n2_ := mk0 (below_step (by repeat (first|(with_reducible first|exact HB.out|apply bA|apply bN|apply bD|refine bS ?_ GE237.out|refine bS ?_ GE238.out)|exact HB.out)) hb);clear BK237 BK238 HB;have BK237 := n0_;have BK238 := n1_;have HB := n2_;clear n0_ n1_ n2_;(try clear hb);(try clear hb2);(try clear hk);(try clear hi))|((with_reducible refine gate_dst (N := 28) rfl ?_);refine normW ?_ (by (try simp only [Act.put,List.setIfInBounds_toArray,List.set_cons_zero,List.set_cons_succ]);rfl);refine ldBox rfl 29 _ rfl gb237 10 rfl (l := [.int .i64 a0_0,.string a0_1,.int .i64 a0_2,.int .i64 a0_3,.string a0_4,.slice A0_5 l0_5.length c0_5,.int .i64 a0_6,.int .i64 a0_7,.string a0_8,.slice A0_9 l0_9.length c0_9,.int .i64 a0_10,.int .i64 a0_11,.string a0_12,.slice A0_13 l0_13.length c0_13,.int .i64 a0_14,.int .i64 a0_15,.string a0_16,.slice A0_17 l0_17.length c0_17,.slice A0_18 l0_18.length c0_18]) (tb := 50) (by exact kX BK237.out) [.int .i64 a0_10,.int .i64 a0_11,.string a0_12,.slice A0_13 l0_13.length c0_13] rfl _ hu29 (by kernel_rfl) ?_)|((with_reducible refine gate_dst (N := 30) rfl ?_);refine normW ?_ (by (try simp only [Act.put,List.setIfInBounds_toArray,List.set_cons_zero,List.set_cons_succ]);rfl);refine ldBox rfl 29 _ rfl gb238 10 rfl (l := [.int .i64 a1_0,.string a1_1,.int .i64 a1_2,.int .i64 a1_3,.string a1_4,.slice A1_5 l1_5.length c1_5,.int .i64 a1_6,.int .i64 a1_7,.string a1_8,.slice A1_9 l1_9.length c1_9,.int .i64 a1_10,.int .i64 a1_11,.string a1_12,.slice A1_13 l1_13.length c1_13,.int .i64 a1_14,.int .i64 a1_15,.string a1_16,.slice A1_17 l1_17.length c1_17,.slice A1_18 l1_18.length c1_18]) (tb := 50) (by exact kX BK238.out) [.int .i64 a1_10,.int .i64 a1_11,.string a1_12,.slice A1_13 l1_13.length c1_13] rfl _ hu29 (by kernel_rfl) ?_)|((with_reducible refine gate_callee (f := 14) rfl ?_);refine goesL_ (some 31) rfl rfl Try.func14 (by kernel_rfl) rfl #[.agg #[.int .i64 a0_10,.int .i64 a0_11,.string a0_12,.slice A0_13 l0_13.length c0_13],.agg #[.int .i64 a1_10,.int .i64 a1_11,.string a1_12,.slice A1_13 l1_13.length c1_13]] rfl (by (try simp only [List.map_toArray,List.map_cons,List.map_nil]);first|done|rfl) ?_;(with_reducible refine (laws_eqExp.calls k a0_10 a0_11 a0_12 _ _ l0_13 a1_10 a1_11 a1_12 _ _ l1_13 _ _ ?side1 ?side2 ?side3 ?side4 A9.out).mono ?_);(case side1 => repeat (first|exact (Kd.C_below HR0_13.out HB.out)|(with_reducible refine cA ?_ _)|(with_reducible refine cN ?_ _)|(with_reducible refine cD ?_)));(case side2 => exact HC0_13.out);(case side3 => repeat (first|exact (Kd.C_below HR1_13.out HB.out)|(with_reducible refine cA ?_ _)|(with_reducible refine cN ?_ _)|(with_reducible refine cD ?_)));(case side4 => exact HC1_13.out);rintro e w36 ⟨rfl,hb⟩;refine ⟨_,rfl,?_⟩;have n0_ := mk0 (blk_below (by exact kX BK237.out) hb);have n1_ := mk0 (blk_below (by exact kX BK238.out) hb);have n2_ := mk0 (below_step (by repeat (first|(with_reducible first|exact HB.out|apply bA|apply bN|apply bD|refine bS ?_ GE237.out|refine bS ?_ GE238.out)|exact HB.out)) hb);clear BK237 BK238 HB;have BK237 := n0_;have BK238 := n1_;have HB := n2_;clear n0_ n1_ n2_;(try clear hb);(try clear hb2);(try clear hk);(try clear hi))|((with_reducible refine gate_dst (N := 34) rfl ?_);refine normW ?_ (by (try simp only [Act.put,List.setIfInBounds_toArray,List.set_cons_zero,List.set_cons_succ]);rfl);refine ldBox rfl 29 _ rfl gb237 14 rfl (l := [.int .i64 a0_0,.string a0_1,.int .i64 a0_2,.int .i64 a0_3,.string a0_4,.slice A0_5 l0_5.length c0_5,.int .i64 a0_6,.int .i64 a0_7,.string a0_8,.slice A0_9 l0_9.length c0_9,.int .i64 a0_10,.int .i64 a0_11,.string a0_12,.slice A0_13 l0_13.length c0_13,.int .i64 a0_14,.int .i64 a0_15,.string a0_16,.slice A0_17 l0_17.length c0_17,.slice A0_18 l0_18.length c0_18]) (tb := 50) (by exact kX BK237.out) [.int .i64 a0_14,.int .i64 a0_15,.string a0_16,.slice A0_17 l0_17.length c0_17] rfl _ hu29 (by kernel_rfl) ?_)|((with_reducible refine gate_dst (N := 36) rfl ?_);refine normW ?_ (by (try simp only [Act.put,List.setIfInBounds_toArray,List.set_cons_zero,List.set_cons_succ]);rfl);refine ldBox rfl 29 _ rfl gb238 14 rfl (l := [.int .i64 a1_0,.string a1_1,.int .i64 a1_2,.int .i64 a1_3,.string a1_4,.slice A1_5 l1_5.length c1_5,.int .i64 a1_6,.int .i64 a1_7,.string a1_8,.slice A1_9 l1_9.length c1_9,.int .i64 a1_10,.int .i64 a1_11,.string a1_12,.slice A1_13 l1_13.length c1_13,.int .i64 a1_14,.int .i64 a1_15,.string a1_16,.slice A1_17 l1_17.length c1_17,.slice A1_18 l1_18.length c1_18]) (tb := 50) (by exact kX BK238.out) [.int .i64 a1_14,.int .i64 a1_15,.string a1_16,.slice A1_17 l1_17.length c1_17] rfl _ hu29 (by kernel_rfl) ?_)|((with_reducible refine gate_callee (f := 14) rfl ?_);refine goesL_ (some 37) rfl rfl Try.func14 (by kernel_rfl) rfl #[.agg #[.int .i64 a0_14,.int .i64 a0_15,.string a0_16,.slice A0_17 l0_17.length c0_17],.agg #[.int .i64 a1_14,.int .i64 a1_15,.string a1_16,.slice A1_17 l1_17.length c1_17]] rfl (by (try simp only [List.map_toArray,List.map_cons,List.map_nil]);first|done|rfl) ?_;(with_reducible refine (laws_eqExp.calls k a0_14 a0_15 a0_16 _ _ l0_17 a1_14 a1_15 a1_16 _ _ l1_17 _ _ ?side1 ?side2 ?side3 ?side4 A11.out).mono ?_);(case side1 => repeat (first|exact (Kd.C_below HR0_17.out HB.out)|(with_reducible refine cA ?_ _)|(with_reducible refine cN ?_ _)|(with_reducible refine cD ?_)));(case side2 => exact HC0_17.out);(case side3 => repeat (first|exact (Kd.C_below HR1_17.out HB.out)|(with_reducible refine cA ?_ _)|(with_reducible refine cN ?_ _)|(with_reducible refine cD ?_)));(case side4 => exact HC1_17.out);rintro e w37 ⟨rfl,hb⟩;refine ⟨_,rfl,?_⟩;have n0_ := mk0 (blk_below (by exact kX BK237.out) hb);have n1_ := mk0 (blk_below (by exact kX BK238.out) hb);have n2_ := mk0 (below_step (by repeat (first|(with_reducible first|exact HB.out|apply bA|apply bN|apply bD|refine bS ?_ GE237.out|refine bS ?_ GE238.out)|exact HB.out)) hb);clear BK237 BK238 HB;have BK237 := n0_;have BK238 := n1_;have HB := n2_;clear n0_ n1_ n2_;(try clear hb);(try clear hb2);(try clear hk);(try clear hi)))
      go_ret
      exact ⟨by first|rfl|(simp [errW_none,errW_some] <;> rfl)|(simp [*,errW_none,errW_some] <;> rfl),by repeat (first|(with_reducible first|exact HB.out|apply bA|apply bN|apply bD|refine bS ?_ GE237.out|refine bS ?_ GE238.out)|exact HB.out)⟩
    case' no36 =>
     replace c8 := Bool.eq_false_iff.mpr c8
     subst c8
     rw [if_neg (show ¬ (false = true) by decide)] at H
     obtain rfl := Option.some.inj H
   case' no35 =>
    replace c6 := Bool.eq_false_iff.mpr c6
    subst c6
    rw [if_neg (show ¬ (false = true) by decide)] at H
    obtain rfl := Option.some.inj H
   all_goals
    go_enter Try.func26,Try.ntmps26
    go_wp2_with (first|((with_reducible refine gate_dst (N := 2) rfl ?_);refine box_event ?hg (N := 2) ?hd (cs := #[.int .i64 a0_0,.string a0_1,.int .i64 a0_2,.int .i64 a0_3,.string a0_4,.slice A0_5 l0_5.length c0_5,.int .i64 a0_6,.int .i64 a0_7,.string a0_8,.slice A0_9 l0_9.length c0_9,.int .i64 a0_10,.int .i64 a0_11,.string a0_12,.slice A0_13 l0_13.length c0_13,.int .i64 a0_14,.int .i64 a0_15,.string a0_16,.slice A0_17 l0_17.length c0_17,.slice A0_18 l0_18.length c0_18]) (t := 50) ?hr ?_;(case hd => rfl);(case hg => rfl);(case hr => first|(go_simp;done)|(go_simp;rfl));intro gb237 hg w44 hbox hb;have q_ := qB (by repeat (first|(with_reducible first|exact HB.out|apply bA|apply bN|apply bD)|exact HB.out)) hb;have n0_ := mk0 (below_step q_ hb);have n1_ := mk0 (hbox);have n2_ := mk0 (below_size2 q_ hg);have n3_ := n2_;clear HB;have HB := n0_;have BK237 := n1_;have GW237 := n2_;have GE237 := n3_;clear q_ n0_ n1_ n2_ n3_ hb hbox hg)|((with_reducible refine gate_dst (N := 3) rfl ?_);refine box_event ?hg (N := 3) ?hd (cs := #[.int .i64 a1_0,.string a1_1,.int .i64 a1_2,.int .i64 a1_3,.string a1_4,.slice A1_5 l1_5.length c1_5,.int .i64 a1_6,.int .i64 a1_7,.string a1_8,.slice A1_9 l1_9.length c1_9,.int .i64 a1_10,.int .i64 a1_11,.string a1_12,.slice A1_13 l1_13.length c1_13,.int .i64 a1_14,.int .i64 a1_15,.string a1_16,.slice A1_17 l1_17.length c1_17,.slice A1_18 l1_18.length c1_18]) (t := 50) ?hr ?_;(case hd => rfl);(case hg => rfl);(case hr => first|(go_simp;done)|(go_simp;rfl));intro gb238 hg w45 hbox hb;have q_ := qB (by repeat (first|(with_reducible first|exact HB.out|apply bA|apply bN|apply bD|refine bS ?_ GE237.out)|exact HB.out)) hb;have n0_ := mk0 (blk_below (by exact kX BK237.out) hb);have n1_ := mk0 (below_step q_ hb);have n2_ := mk0 (hbox);have n3_ := mk0 (below_size2 q_ hg);have n4_ := n3_;have n5_ := mk0 ((by rw [hg];exact Nat.ne_of_lt (blk_lt (by exact kX BK237.out)) : gb237 ≠ gb238));have n6_ := mk0 ((by rw [hg];exact Nat.ne_of_gt (blk_lt (by exact kX BK237.out)) : gb238 ≠ gb237));clear BK237 HB;have BK237 := n0_;have HB := n1_;have BK238 := n2_;have GW238 := n3_;have GE238 := n4_;have NB237_238 := n5_;have NB238_237 := n6_;clear q_ n0_ n1_ n2_ n3_ n4_ n5_ n6_ hb hbox hg)|((with_reducible refine gate_dst (N := 6) rfl ?_);refine normW ?_ (by (try simp only [Act.put,List.setIfInBounds_toArray,List.set_cons_zero,List.set_cons_succ]);rfl);refine ldOne rfl 3 _ rfl gb237 0 rfl (l := [.int .i64 a0_0,.string a0_1,.int .i64 a0_2,.int .i64 a0_3,.string a0_4,.slice A0_5 l0_5.length c0_5,.int .i64 a0_6,.int .i64 a0_7,.string a0_8,.slice A0_9 l0_9.length c0_9,.int .i64 a0_10,.int .i64 a0_11,.string a0_12,.slice A0_13 l0_13.length c0_13,.int .i64 a0_14,.int .i64 a0_15,.string a0_16,.slice A0_17 l0_17.length c0_17,.slice A0_18 l0_18.length c0_18]) (tb := 50) (by exact kX BK237.out) (.int .i64 a0_0) rfl (fun _ => by kernel_rfl) ?_;have hnb46 := NB237_238.out;have hnc46 := NB238_237.out)|((with_reducible refine gate_dst (N := 8) rfl ?_);refine normW ?_ (by (try simp only [Act.put,List.setIfInBounds_toArray,List.set_cons_zero,List.set_cons_succ]);rfl);refine ldOne rfl 3 _ rfl gb238 0 rfl (l := [.int .i64 a1_0,.string a1_1,.int .i64 a1_2,.int .i64 a1_3,.string a1_4,.slice A1_5 l1_5.length c1_5,.int .i64 a1_6,.int .i64 a1_7,.string a1_8,.slice A1_9 l1_9.length c1_9,.int .i64 a1_10,.int .i64 a1_11,.string a1_12,.slice A1_13 l1_13.length c1_13,.int .i64 a1_14,.int .i64 a1_15,.string a1_16,.slice A1_17 l1_17.length c1_17,.slice A1_18 l1_18.length c1_18]) (tb := 50) (by exact kX BK238.out) (.int .i64 a1_0) rfl (fun _ => by kernel_rfl) ?_)|((with_reducible refine gate_dst (N := 11) rfl ?_);refine normW ?_ (by (try simp only [Act.put,List.setIfInBounds_toArray,List.set_cons_zero,List.set_cons_succ]);rfl);refine ldOne rfl 9 _ rfl gb237 1 rfl (l := [.int .i64 a0_0,.string a0_1,.int .i64 a0_2,.int .i64 a0_3,.string a0_4,.slice A0_5 l0_5.length c0_5,.int .i64 a0_6,.int .i64 a0_7,.string a0_8,.slice A0_9 l0_9.length c0_9,.int .i64 a0_10,.int .i64 a0_11,.string a0_12,.slice A0_13 l0_13.length c0_13,.int .i64 a0_14,.int .i64 a0_15,.string a0_16,.slice A0_17 l0_17.length c0_17,.slice A0_18 l0_18.length c0_18]) (tb := 50) (by exact kX BK237.out) (.string a0_1) rfl (fun _ => by kernel_rfl) ?_)|((with_reducible refine gate_dst (N := 13) rfl ?_);refine normW ?_ (by (try simp only [Act.put,List.setIfInBounds_toArray,List.set_cons_zero,List.set_cons_succ]);rfl);refine ldOne rfl 9 _ rfl gb238 1 rfl (l := [.int .i64 a1_0,.string a1_1,.int .i64 a1_2,.int .i64 a1_3,.string a1_4,.slice A1_5 l1_5.length c1_5,.int .i64 a1_6,.int .i64 a1_7,.string a1_8,.slice A1_9 l1_9.length c1_9,.int .i64 a1_10,.int .i64 a1_11,.string a1_12,.slice A1_13 l1_13.length c1_13,.int .i64 a1_14,.int .i64 a1_15,.string a1_16,.slice A1_17 l1_17.length c1_17,.slice A1_18 l1_18.length c1_18]) (tb := 50) (by exact kX BK238.out) (.string a1_1) rfl (fun _ => by kernel_rfl) ?_)|((with_reducible refine gate_dst (N := 16) rfl ?_);refine normW ?_ (by (try simp only [Act.put,List.setIfInBounds_toArray,List.set_cons_zero,List.set_cons_succ]);rfl);refine ldBox rfl 29 _ rfl gb237 2 rfl (l := [.int .i64 a0_0,.string a0_1,.int .i64 a0_2,.int .i64 a0_3,.string a0_4,.slice A0_5 l0_5.length c0_5,.int .i64 a0_6,.int .i64 a0_7,.string a0_8,.slice A0_9 l0_9.length c0_9,.int .i64 a0_10,.int .i64 a0_11,.string a0_12,.slice A0_13 l0_13.length c0_13,.int .i64 a0_14,.int .i64 a0_15,.string a0_16,.slice A0_17 l0_17.length c0_17,.slice A0_18 l0_18.length c0_18]) (tb := 50) (by exact kX BK237.out) [.int .i64 a0_2,.int .i64 a0_3,.string a0_4,.slice A0_5 l0_5.length c0_5] rfl _ hu29 (by kernel_rfl) ?_)|((with_reducible refine gate_dst (N := 18) rfl ?_);refine normW ?_ (by (try simp only [Act.put,List.setIfInBounds_toArray,List.set_cons_zero,List.set_cons_succ]);rfl);refine ldBox rfl 29 _ rfl gb238 2 rfl (l := [.int .i64 a1_0,.string a1_1,.int .i64 a1_2,.int .i64 a1_3,.string a1_4,.slice A1_5 l1_5.length c1_5,.int .i64 a1_6,.int .i64 a1_7,.string a1_8,.slice A1_9 l1_9.length c1_9,.int .i64 a1_10,.int .i64 a1_11,.string a1_12,.slice A1_13 l1_13.length c1_13,.int .i64 a1_14,.int .i64 a1_15,.string a1_16,.slice A1_17 l1_17.length c1_17,.slice A1_18 l1_18.length c1_18]) (tb := 50) (by exact kX BK238.out) [.int .i64 a1_2,.int .i64 a1_3,.string a1_4,.slice A1_5 l1_5.length c1_5] rfl _ hu29 (by kernel_rfl) ?_)|((with_reducible refine gate_callee (f := 14) rfl ?_);refine goesL_ (some 19) rfl rfl Try.func14 (by kernel_rfl) rfl #[.agg #[.int .i64 a0_2,.int .i64 a0_3,.string a0_4,.slice A0_5 l0_5.length c0_5],.agg #[.int .i64 a1_2,.int .i64 a1_3,.string a1_4,.slice A1_5 l1_5.length c1_5]] rfl (by (try simp only [List.map_toArray,List.map_cons,List.map_nil]);first|done|rfl) ?_;(with_reducible refine (laws_eqExp.calls k a0_2 a0_3 a0_4 _ _ l0_5 a1_2 a1_3 a1_4 _ _ l1_5 _ _ ?side1 ?side2 ?side3 ?side4 A5.out).mono ?_);(case side1 => repeat (first|exact (Kd.C_below HR0_5.out HB.out)|(with_reducible refine cA ?_ _)|(with_reducible refine cN ?_ _)|(with_reducible refine cD ?_)));(case side2 => exact HC0_5.out);(case side3 => repeat (first|exact (Kd.C_below HR1_5.out HB.out)|(with_reducible refine cA ?_ _)|(with_reducible refine cN ?_ _)|(with_reducible refine cD ?_)));(case side4 => exact HC1_5.out);rintro e w47 ⟨rfl,hb⟩;refine ⟨_,rfl,?_⟩;have n0_ := mk0 (blk_below (by exact kX BK237.out) hb);have n1_ := mk0 (blk_below (by exact kX BK238.out) hb);have n2_ := mk0 (below_step (by repeat (first|(with_reducible first|exact HB.out|apply bA|apply bN|apply bD|refine bS ?_ GE237.out|refine bS ?_ GE238.out)|exact HB.out)) hb);clear BK237 BK238 HB;have BK237 := n0_;have BK238 := n1_;have HB := n2_;clear n0_ n1_ n2_;(try clear hb);(try clear hb2);(try clear hk);(try clear hi))|((with_reducible refine gate_dst (N := 22) rfl ?_);refine normW ?_ (by (try simp only [Act.put,List.setIfInBounds_toArray,List.set_cons_zero,List.set_cons_succ]);rfl);refine ldBox rfl 29 _ rfl gb237 6 rfl (l := [.int .i64 a0_0,.string a0_1,.int .i64 a0_2,.int .i64 a0_3,.string a0_4,.slice A0_5 l0_5.length c0_5,.int .i64 a0_6,.int .i64 a0_7,.string a0_8,.slice A0_9 l0_9.length c0_9,.int .i64 a0_10,.int .i64 a0_11,.string a0_12,.slice A0_13 l0_13.length c0_13,.int .i64 a0_14,.int .i64 a0_15,.string a0_16,.slice A0_17 l0_17.length c0_17,.slice A0_18 l0_18.length c0_18]) (tb := 50) (by exact kX BK237.out) [.int .i64 a0_6,.int .i64 a0_7,.string a0_8,.slice A0_9 l0_9.length c0_9] rfl _ hu29 (by kernel_rfl) ?_)|((with_reducible refine gate_dst (N := 24) rfl ?_);refine normW ?_ (by (try simp only [Act.put,List.setIfInBounds_toArray,List.set_cons_zero,List.set_cons_succ]);rfl);refine ldBox rfl 29 _ rfl gb238 6 rfl (l := [.int .i64 a1_0,.string a1_1,.int .i64 a1_2,.int .i64 a1_3,.string a1_4,.slice A1_5 l1_5.length c1_5,.int .i64 a1_6,.int .i64 a1_7,.string a1_8,.slice A1_9 l1_9.length c1_9,.int .i64 a1_10,.int .i64 a1_11,.string a1_12,.slice A1_13 l1_13.length c1_13,.int .i64 a1_14,.int .i64 a1_15,.string a1_16,.slice A1_17 l1_17.length c1_17,.slice A1_18 l1_18.length c1_18]) (tb := 50) (by exact kX BK238.out) [.int .i64 a1_6,.int .i64 a1_7,.string a1_8,.slice A1_9 l1_9.length c1_9] rfl _ hu29 (by kernel_rfl) ?_)|((with_reducible refine gate_callee (f := 14) rfl ?_);refine goesL_ (some 25) rfl rfl Try.func14 (by kernel_rfl) rfl #[.agg #[.int .i64 a0_6,.int .i64 a0_7,.string a0_8,.slice A0_9 l0_9.length c0_9],.agg #[.int .i64 a1_6,.int .i64 a1_7,.string a1_8,.slice A1_9 l1_9.length c1_9]] rfl (by (try simp only [List.map_toArray,List.map_cons,List.map_nil]);first|done|rfl) ?_;(with_reducible refine (laws_eqExp.calls k a0_6 a0_7 a0_8 _ _ l0_9 a1_6 a1_7 a1_8 _ _ l1_9 _ _ ?side1 ?side2 ?side3 ?side4 A7.out).mono ?_);(case side1 => repeat (first|exact (Kd.C_below HR0_9.out HB.out)|(with_reducible refine cA ?_ _)|(with_reducible refine cN ?_ _)|(with_reducible refine cD ?_)));(case side2 => exact HC0_9.out);(case side3 => repeat (first|exact (Kd.C_below HR1_9.out HB.out)|(with_reducible refine cA ?_ _)|(with_reducible refine cN ?_ _)|(with_reducible refine cD ?_)));(case side4 => exact HC1_9.out);rintro e w48 ⟨rfl,hb⟩;refine ⟨_,rfl,?_⟩;have n0_ := mk0 (blk_below (by exact kX BK237.out) hb);have n1_ := mk0 (blk_below (by exact kX BK238.out) hb);have n2_ := mk0 (below_step (by repeat (first|(with_reducible first|exact HB.out|apply bA|apply bN|apply bD|refine bS ?_ GE237.out|refine bS ?_ GE238.out)|exact HB.out)) hb);clear BK237 BK238 HB;have BK237 := n0_;have BK238 := n1_;have HB := n2_;clear n0_ n1_ n2_;(try clear hb);(try clear hb2);(try clear hk);(try clear hi)))
    go_ret
    exact ⟨by first|rfl|(simp [errW_none,errW_some] <;> rfl)|(simp [*,errW_none,errW_some] <;> rfl),by repeat (first|(with_reducible first|exact HB.out|apply bA|apply bN|apply bD|refine bS ?_ GE237.out|refine bS ?_ GE238.out)|exact HB.out)⟩
  case' no38 =>
   rw [if_neg c4] at H
   have c4b0 : (a0_1.toList == a1_1.toList) = false := beq_eq_false_iff_ne.mpr c4
   have c4b1 : (a0_1.toList != a1_1.toList) = true := bne_iff_ne.mpr c4
   obtain rfl := Option.some.inj H
 case' no37 =>
  rw [if_neg c3] at H
  have c3b0 : (a0_0 == a1_0) = false := beq_eq_false_iff_ne.mpr c3
  have c3b1 : (a0_0 != a1_0) = true := bne_iff_ne.mpr c3
  obtain rfl := Option.some.inj H
 all_goals
  go_enter Try.func26,Try.ntmps26
  go_wp2_with (first|((with_reducible refine gate_dst (N := 2) rfl ?_);refine box_event ?hg (N := 2) ?hd (cs := #[.int .i64 a0_0,.string a0_1,.int .i64 a0_2,.int .i64 a0_3,.string a0_4,.slice A0_5 l0_5.length c0_5,.int .i64 a0_6,.int .i64 a0_7,.string a0_8,.slice A0_9 l0_9.length c0_9,.int .i64 a0_10,.int .i64 a0_11,.string a0_12,.slice A0_13 l0_13.length c0_13,.int .i64 a0_14,.int .i64 a0_15,.string a0_16,.slice A0_17 l0_17.length c0_17,.slice A0_18 l0_18.length c0_18]) (t := 50) ?hr ?_;(case hd => rfl);(case hg => rfl);(case hr => first|(go_simp;done)|(go_simp;rfl));intro gb237 hg w53 hbox hb;have q_ := qB (by repeat (first|(with_reducible first|exact HB.out|apply bA|apply bN|apply bD)|exact HB.out)) hb;have n0_ := mk0 (below_step q_ hb);have n1_ := mk0 (hbox);have n2_ := mk0 (below_size2 q_ hg);have n3_ := n2_;clear HB;have HB := n0_;have BK237 := n1_;have GW237 := n2_;have GE237 := n3_;clear q_ n0_ n1_ n2_ n3_ hb hbox hg)|((with_reducible refine gate_dst (N := 3) rfl ?_);refine box_event ?hg (N := 3) ?hd (cs := #[.int .i64 a1_0,.string a1_1,.int .i64 a1_2,.int .i64 a1_3,.string a1_4,.slice A1_5 l1_5.length c1_5,.int .i64 a1_6,.int .i64 a1_7,.string a1_8,.slice A1_9 l1_9.length c1_9,.int .i64 a1_10,.int .i64 a1_11,.string a1_12,.slice A1_13 l1_13.length c1_13,.int .i64 a1_14,.int .i64 a1_15,.string a1_16,.slice A1_17 l1_17.length c1_17,.slice A1_18 l1_18.length c1_18]) (t := 50) ?hr ?_;(case hd => rfl);(case hg => rfl);(case hr => first|(go_simp;done)|(go_simp;rfl));intro gb238 hg w54 hbox hb;have q_ := qB (by repeat (first|(with_reducible first|exact HB.out|apply bA|apply bN|apply bD|refine bS ?_ GE237.out)|exact HB.out)) hb;have n0_ := mk0 (blk_below (by exact kX BK237.out) hb);have n1_ := mk0 (below_step q_ hb);have n2_ := mk0 (hbox);have n3_ := mk0 (below_size2 q_ hg);have n4_ := n3_;have n5_ := mk0 ((by rw [hg];exact Nat.ne_of_lt (blk_lt (by exact kX BK237.out)) : gb237 ≠ gb238));have n6_ := mk0 ((by rw [hg];exact Nat.ne_of_gt (blk_lt (by exact kX BK237.out)) : gb238 ≠ gb237));clear BK237 HB;have BK237 := n0_;have HB := n1_;have BK238 := n2_;have GW238 := n3_;have GE238 := n4_;have NB237_238 := n5_;have NB238_237 := n6_;clear q_ n0_ n1_ n2_ n3_ n4_ n5_ n6_ hb hbox hg)|((with_reducible refine gate_dst (N := 6) rfl ?_);refine normW ?_ (by (try simp only [Act.put,List.setIfInBounds_toArray,List.set_cons_zero,List.set_cons_succ]);rfl);refine ldOne rfl 3 _ rfl gb237 0 rfl (l := [.int .i64 a0_0,.string a0_1,.int .i64 a0_2,.int .i64 a0_3,.string a0_4,.slice A0_5 l0_5.length c0_5,.int .i64 a0_6,.int .i64 a0_7,.string a0_8,.slice A0_9 l0_9.length c0_9,.int .i64 a0_10,.int .i64 a0_11,.string a0_12,.slice A0_13 l0_13.length c0_13,.int .i64 a0_14,.int .i64 a0_15,.string a0_16,.slice A0_17 l0_17.length c0_17,.slice A0_18 l0_18.length c0_18]) (tb := 50) (by exact kX BK237.out) (.int .i64 a0_0) rfl (fun _ => by kernel_rfl) ?_;have hnb55 := NB237_238.out;have hnc55 := NB238_237.out)|((with_reducible refine gate_dst (N := 8) rfl ?_);refine normW ?_ (by (try simp only [Act.put,List.setIfInBounds_toArray,List.set_cons_zero,List.set_cons_succ]);rfl);refine ldOne rfl 3 _ rfl gb238 0 rfl (l := [.int .i64 a1_0,.string a1_1,.int .i64 a1_2,.int .i64 a1_3,.string a1_4,.slice A1_5 l1_5.length c1_5,.int .i64 a1_6,.int .i64 a1_7,.string a1_8,.slice A1_9 l1_9.length c1_9,.int .i64 a1_10,.int .i64 a1_11,.string a1_12,.slice A1_13 l1_13.length c1_13,.int .i64 a1_14,.int .i64 a1_15,.string a1_16,.slice A1_17 l1_17.length c1_17,.slice A1_18 l1_18.length c1_18]) (tb := 50) (by exact kX BK238.out) (.int .i64 a1_0) rfl (fun _ => by kernel_rfl) ?_)|((with_reducible refine gate_dst (N := 11) rfl ?_);refine normW ?_ (by (try simp only [Act.put,List.setIfInBounds_toArray,List.set_cons_zero,List.set_cons_succ]);rfl);refine ldOne rfl 9 _ rfl gb237 1 rfl (l := [.int .i64 a0_0,.string a0_1,.int .i64 a0_2,.int .i64 a0_3,.string a0_4,.slice A0_5 l0_5.length c0_5,.int .i64 a0_6,.int .i64 a0_7,.string a0_8,.slice A0_9 l0_9.length c0_9,.int .i64 a0_10,.int .i64 a0_11,.string a0_12,.slice A0_13 l0_13.length c0_13,.int .i64 a0_14,.int .i64 a0_15,.string a0_16,.slice A0_17 l0_17.length c0_17,.slice A0_18 l0_18.length c0_18]) (tb := 50) (by exact kX BK237.out) (.string a0_1) rfl (fun _ => by kernel_rfl) ?_)|((with_reducible refine gate_dst (N := 13) rfl ?_);refine normW ?_ (by (try simp only [Act.put,List.setIfInBounds_toArray,List.set_cons_zero,List.set_cons_succ]);rfl);refine ldOne rfl 9 _ rfl gb238 1 rfl (l := [.int .i64 a1_0,.string a1_1,.int .i64 a1_2,.int .i64 a1_3,.string a1_4,.slice A1_5 l1_5.length c1_5,.int .i64 a1_6,.int .i64 a1_7,.string a1_8,.slice A1_9 l1_9.length c1_9,.int .i64 a1_10,.int .i64 a1_11,.string a1_12,.slice A1_13 l1_13.length c1_13,.int .i64 a1_14,.int .i64 a1_15,.string a1_16,.slice A1_17 l1_17.length c1_17,.slice A1_18 l1_18.length c1_18]) (tb := 50) (by exact kX BK238.out) (.string a1_1) rfl (fun _ => by kernel_rfl) ?_))
  go_ret
  exact ⟨by first|rfl|(simp [errW_none,errW_some] <;> rfl)|(simp [*,errW_none,errW_some] <;> rfl),by repeat (first|(with_reducible first|exact HB.out|apply bA|apply bN|apply bD|refine bS ?_ GE237.out|refine bS ?_ GE238.out)|exact HB.out)⟩

set_option maxHeartbeats 8000000 in
set_option maxRecDepth 100000 in
theorem laws_eqStmtS.callsG (K : Nat) (IH : Aside0 (∀ m, m < K → ∀ (a0_0 : Int) (a0_1 : ByteArray) (a0_2 : Int) (a0_3 : Int) (a0_4 : ByteArray) (A0_5 : Option Addr) (c0_5 : Nat) (l0_5 : List (S29)) (a0_6 : Int) (a0_7 : Int) (a0_8 : ByteArray) (A0_9 : Option Addr) (c0_9 : Nat) (l0_9 : List (S29)) (a0_10 : Int) (a0_11 : Int) (a0_12 : ByteArray) (A0_13 : Option Addr) (c0_13 : Nat) (l0_13 : List (S29)) (a0_14 : Int) (a0_15 : Int) (a0_16 : ByteArray) (A0_17 : Option Addr) (c0_17 : Nat) (l0_17 : List (S29)) (A0_18 : Option Addr) (c0_18 : Nat) (l0_18 : List (S50)) (a1_0 : Int) (a1_1 : ByteArray) (a1_2 : Int) (a1_3 : Int) (a1_4 : ByteArray) (A1_5 : Option Addr) (c1_5 : Nat) (l1_5 : List (S29)) (a1_6 : Int) (a1_7 : Int) (a1_8 : ByteArray) (A1_9 : Option Addr) (c1_9 : Nat) (l1_9 : List (S29)) (a1_10 : Int) (a1_11 : Int) (a1_12 : ByteArray) (A1_13 : Option Addr) (c1_13 : Nat) (l1_13 : List (S29)) (a1_14 : Int) (a1_15 : Int) (a1_16 : ByteArray) (A1_17 : Option Addr) (c1_17 : Nat) (l1_17 : List (S29)) (A1_18 : Option Addr) (c1_18 : Nat) (l1_18 : List (S50)) (r : Bool) (w : World) (hr0_5 : Kd.C k29 w A0_5 l0_5.length l0_5) (hc0_5 : l0_5.length ≤ c0_5) (hr0_9 : Kd.C k29 w A0_9 l0_9.length l0_9) (hc0_9 : l0_9.length ≤ c0_9) (hr0_13 : Kd.C k29 w A0_13 l0_13.length l0_13) (hc0_13 : l0_13.length ≤ c0_13) (hr0_17 : Kd.C k29 w A0_17 l0_17.length l0_17) (hc0_17 : l0_17.length ≤ c0_17) (hr0_18 : Kd.C k50 w A0_18 l0_18.length l0_18) (hc0_18 : l0_18.length ≤ c0_18) (hr1_5 : Kd.C k29 w A1_5 l1_5.length l1_5) (hc1_5 : l1_5.length ≤ c1_5) (hr1_9 : Kd.C k29 w A1_9 l1_9.length l1_9) (hc1_9 : l1_9.length ≤ c1_9) (hr1_13 : Kd.C k29 w A1_13 l1_13.length l1_13) (hc1_13 : l1_13.length ≤ c1_13) (hr1_17 : Kd.C k29 w A1_17 l1_17.length l1_17) (hc1_17 : l1_17.length ≤ c1_17) (hr1_18 : Kd.C k50 w A1_18 l1_18.length l1_18) (hc1_18 : l1_18.length ≤ c1_18) (h : laws_eqStmt.f m a0_0 a0_1 a0_2 a0_3 a0_4 l0_5 a0_6 a0_7 a0_8 l0_9 a0_10 a0_11 a0_12 l0_13 a0_14 a0_15 a0_16 l0_17 l0_18 a1_0 a1_1 a1_2 a1_3 a1_4 l1_5 a1_6 a1_7 a1_8 l1_9 a1_10 a1_11 a1_12 l1_13 a1_14 a1_15 a1_16 l1_17 l1_18 = some r),
   Calls Try.prog 26 #[.agg #[.int .i64 a0_0, .string a0_1, .int .i64 a0_2, .int .i64 a0_3, .string a0_4, .slice A0_5 l0_5.length c0_5, .int .i64 a0_6, .int .i64 a0_7, .string a0_8, .slice A0_9 l0_9.length c0_9, .int .i64 a0_10, .int .i64 a0_11, .string a0_12, .slice A0_13 l0_13.length c0_13, .int .i64 a0_14, .int .i64 a0_15, .string a0_16, .slice A0_17 l0_17.length c0_17, .slice A0_18 l0_18.length c0_18], .agg #[.int .i64 a1_0, .string a1_1, .int .i64 a1_2, .int .i64 a1_3, .string a1_4, .slice A1_5 l1_5.length c1_5, .int .i64 a1_6, .int .i64 a1_7, .string a1_8, .slice A1_9 l1_9.length c1_9, .int .i64 a1_10, .int .i64 a1_11, .string a1_12, .slice A1_13 l1_13.length c1_13, .int .i64 a1_14, .int .i64 a1_15, .string a1_16, .slice A1_17 l1_17.length c1_17, .slice A1_18 l1_18.length c1_18]] w fun e w' => e = .returned (.bool r) ∧ Below w.heap.size w w')) (A0 : Option Addr) (c0 : Nat) (l0 : List (S50)) (A1 : Option Addr) (c1 : Nat) (l1 : List (S50)) (r : Bool) (w : World) (hr0 : Kd.C k50 w A0 l0.length l0) (hc0 : l0.length ≤ c0) (hr1 : Kd.C k50 w A1 l1.length l1) (hc1 : l1.length ≤ c1) (h : laws_eqStmtS.f K l0 l1 = some r) :
  Calls Try.prog 61 #[.slice A0 l0.length c0, .slice A1 l1.length c1] w fun e w' => e = .returned (.bool r) ∧ Below w.heap.size w w' := by
 cases K with
 |zero => exact absurd h (by simp [laws_eqStmtS.f])
 |succ k =>
 have hu50 := Try.underlying50
 have HR0 := mk0 hr0
 have HC0 := mk0 hc0
 clear hr0 hc0
 have HR1 := mk0 hr1
 have HC1 := mk0 hc1
 clear hr1 hc1
 have HB := mk0 (Below.refl w.heap.size w)
 have H : (if (l0.length : Int) = (l1.length : Int) then (laws_eqStmtS.l0 k l0 l1 0) else (some false)) = some r := by rw [laws_eqStmtS.f] at h;exact h
 clear h
 by_cases c3 : (l0.length : Int) = (l1.length : Int)
 ·rw [if_pos c3] at H
  have c3b0 : ((l0.length : Int) == (l1.length : Int)) = true := beq_iff_eq.mpr c3
  have c3b1 : ((l0.length : Int) != (l1.length : Int)) = false := bne_eq_false_iff_eq.mpr c3
  have c3b2 : (l0.length == l1.length) = true := by first|simpa using c3|(simp at c3 ⊢;omega)
  clear c3
  have H' := mk0 H
  clear H
  go_enter Try.func61,Try.ntmps61
  go_wp2
  go_loopg [5] k (fun kq v5 w' => ∃ (x5_1 : Int),v5 = .int .i64 x5_1 ∧ Aside0 (laws_eqStmtS.l0 kq l0 l1 x5_1 = some r) ∧ Aside0 (kq ≤ k) ∧ Aside0 (Below w.heap.size w w'))
  case atStart => exact ⟨(0),(by first|rfl|(simp;done)|(simp [*];done)),H',⟨Nat.le_refl _⟩,⟨by repeat (first|(with_reducible first|exact HB.out|apply bA|apply bN|apply bD)|exact HB.out)⟩⟩
  case round =>
   clear H'
   try clear c1
   try clear p2
   try clear c3
   try clear c3b0
   try clear c3b1
   try clear c3b2
   obtain ⟨x5_1,rfl,HA,HK1,HB⟩ := hrel
   cases gk with
     |zero => exact absurd HA.out (by simp [laws_eqStmtS.l0])
     |succ k1 =>
    have H := HA.out
    clear HA
    simp only [laws_eqStmtS.l0] at H
    by_cases c4 : x5_1 < (l0.length : Int)
    ·rw [if_pos c4] at H
     have c4b0 : decide (x5_1 < (l0.length : Int)) = true := decide_eq_true c4
     clear c4
     by_cases c5 : 0 ≤ x5_1
     ·rw [if_pos c5] at H
      have c5b0 : decide (0 ≤ x5_1) = true := decide_eq_true c5
      clear c5
      by_cases c6 : x5_1 < (l1.length : Int)
      ·rw [if_pos c6] at H
       have c6b0 : decide (x5_1 < (l1.length : Int)) = true := decide_eq_true c6
       clear c6
       obtain ⟨t236,A7,H⟩ := bindA H
       by_cases c8 : t236 = true
       ·subst c8
        rw [if_pos rfl] at H
        have H' := mk0 H
        clear H
        try go_wp2
        have n0_ := mk0 (bD HB.out)
        clear HB
        have HB := n0_
        clear n0_
        have p234 : 0 ≤ (x5_1 : Int) := of_decide_eq_true (by first|(with_reducible assumption)|assumption)
        have q234 : x5_1 < (l0.length : Int) := of_decide_eq_true (by first|(with_reducible assumption)|assumption)
        obtain ⟨ad234,A234_5,c234_5,A234_9,c234_9,A234_13,c234_13,A234_17,c234_17,A234_18,c234_18,e234,hx234_0,hx234_1,hx234_2,hx234_3,hx234_4,hx234_5,hx234_6,hx234_7,hx234_8,hx234_9,hx234_10,hx234_11,hx234_12,hx234_13,hx234_14,hx234_15,hx234_16,hx234_17,hx234_18,hl234_5,hi234_5,hl234_9,hi234_9,hl234_13,hi234_13,hl234_17,hi234_17,hl234_18,hi234_18⟩ := at_T50 HR0.out x5_1 p234 q234
        have hw234_18 := hx234_18
        have hw234_17 := hx234_17
        have hw234_16 := hx234_16
        have hw234_15 := hx234_15
        have hw234_14 := hx234_14
        have hw234_13 := hx234_13
        have hw234_12 := hx234_12
        have hw234_11 := hx234_11
        have hw234_10 := hx234_10
        have hw234_9 := hx234_9
        have hw234_8 := hx234_8
        have hw234_7 := hx234_7
        have hw234_6 := hx234_6
        have hw234_5 := hx234_5
        have hw234_4 := hx234_4
        have hw234_3 := hx234_3
        have hw234_2 := hx234_2
        have hw234_1 := hx234_1
        have hw234_0 := hx234_0
        cases e234
        replace hx234_0 := hbc HB.out hx234_0
        replace hx234_1 := hbc HB.out hx234_1
        replace hx234_2 := hbc HB.out hx234_2
        replace hx234_3 := hbc HB.out hx234_3
        replace hx234_4 := hbc HB.out hx234_4
        replace hx234_5 := hbc HB.out hx234_5
        replace hx234_6 := hbc HB.out hx234_6
        replace hx234_7 := hbc HB.out hx234_7
        replace hx234_8 := hbc HB.out hx234_8
        replace hx234_9 := hbc HB.out hx234_9
        replace hx234_10 := hbc HB.out hx234_10
        replace hx234_11 := hbc HB.out hx234_11
        replace hx234_12 := hbc HB.out hx234_12
        replace hx234_13 := hbc HB.out hx234_13
        replace hx234_14 := hbc HB.out hx234_14
        replace hx234_15 := hbc HB.out hx234_15
        replace hx234_16 := hbc HB.out hx234_16
        replace hx234_17 := hbc HB.out hx234_17
        replace hx234_18 := hbc HB.out hx234_18
        have HR234_5 := mk0 hi234_5
        have HC234_5 := mk0 hl234_5
        clear hi234_5 hl234_5
        have HR234_9 := mk0 hi234_9
        have HC234_9 := mk0 hl234_9
        clear hi234_9 hl234_9
        have HR234_13 := mk0 hi234_13
        have HC234_13 := mk0 hl234_13
        clear hi234_13 hl234_13
        have HR234_17 := mk0 hi234_17
        have HC234_17 := mk0 hl234_17
        clear hi234_17 hl234_17
        have HR234_18 := mk0 hi234_18
        have HC234_18 := mk0 hl234_18
        clear hi234_18 hl234_18
        replace p234 := eq_true p234
        replace q234 := eq_true q234
        have p235 : 0 ≤ (x5_1 : Int) := of_decide_eq_true (by first|(with_reducible assumption)|assumption)
        have q235 : x5_1 < (l1.length : Int) := of_decide_eq_true (by first|(with_reducible assumption)|assumption)
        obtain ⟨ad235,A235_5,c235_5,A235_9,c235_9,A235_13,c235_13,A235_17,c235_17,A235_18,c235_18,e235,hx235_0,hx235_1,hx235_2,hx235_3,hx235_4,hx235_5,hx235_6,hx235_7,hx235_8,hx235_9,hx235_10,hx235_11,hx235_12,hx235_13,hx235_14,hx235_15,hx235_16,hx235_17,hx235_18,hl235_5,hi235_5,hl235_9,hi235_9,hl235_13,hi235_13,hl235_17,hi235_17,hl235_18,hi235_18⟩ := at_T50 HR1.out x5_1 p235 q235
        have hw235_18 := hx235_18
        have hw235_17 := hx235_17
        have hw235_16 := hx235_16
        have hw235_15 := hx235_15
        have hw235_14 := hx235_14
        have hw235_13 := hx235_13
        have hw235_12 := hx235_12
        have hw235_11 := hx235_11
        have hw235_10 := hx235_10
        have hw235_9 := hx235_9
        have hw235_8 := hx235_8
        have hw235_7 := hx235_7
        have hw235_6 := hx235_6
        have hw235_5 := hx235_5
        have hw235_4 := hx235_4
        have hw235_3 := hx235_3
        have hw235_2 := hx235_2
        have hw235_1 := hx235_1
        have hw235_0 := hx235_0
        cases e235
        replace hx235_0 := hbc HB.out hx235_0
        replace hx235_1 := hbc HB.out hx235_1
        replace hx235_2 := hbc HB.out hx235_2
        replace hx235_3 := hbc HB.out hx235_3
        replace hx235_4 := hbc HB.out hx235_4
        replace hx235_5 := hbc HB.out hx235_5
        replace hx235_6 := hbc HB.out hx235_6
        replace hx235_7 := hbc HB.out hx235_7
        replace hx235_8 := hbc HB.out hx235_8
        replace hx235_9 := hbc HB.out hx235_9
        replace hx235_10 := hbc HB.out hx235_10
        replace hx235_11 := hbc HB.out hx235_11
        replace hx235_12 := hbc HB.out hx235_12
        replace hx235_13 := hbc HB.out hx235_13
        replace hx235_14 := hbc HB.out hx235_14
        replace hx235_15 := hbc HB.out hx235_15
        replace hx235_16 := hbc HB.out hx235_16
        replace hx235_17 := hbc HB.out hx235_17
        replace hx235_18 := hbc HB.out hx235_18
        have HR235_5 := mk0 hi235_5
        have HC235_5 := mk0 hl235_5
        clear hi235_5 hl235_5
        have HR235_9 := mk0 hi235_9
        have HC235_9 := mk0 hl235_9
        clear hi235_9 hl235_9
        have HR235_13 := mk0 hi235_13
        have HC235_13 := mk0 hl235_13
        clear hi235_13 hl235_13
        have HR235_17 := mk0 hi235_17
        have HC235_17 := mk0 hl235_17
        clear hi235_17 hl235_17
        have HR235_18 := mk0 hi235_18
        have HC235_18 := mk0 hl235_18
        clear hi235_18 hl235_18
        replace p235 := eq_true p235
        replace q235 := eq_true q235
        refine start_ (n := 10) (S := fun w' => w'.cell? (ad234.add ((x5_1).toNat * 19)) = some (.int .i64 ((rd_T50 l0 x5_1).f0)) ∧ w'.cell? ⟨(ad234.add ((x5_1).toNat * 19)).block,(ad234.add ((x5_1).toNat * 19)).off + 1,none⟩ = some (.string ((rd_T50 l0 x5_1).f1)) ∧ w'.cell? ⟨(ad234.add ((x5_1).toNat * 19)).block,(ad234.add ((x5_1).toNat * 19)).off + 2,none⟩ = some (.int .i64 ((rd_T50 l0 x5_1).f2.f0)) ∧ w'.cell? ⟨(ad234.add ((x5_1).toNat * 19)).block,(ad234.add ((x5_1).toNat * 19)).off + 3,none⟩ = some (.int .i64 ((rd_T50 l0 x5_1).f2.f1)) ∧ w'.cell? ⟨(ad234.add ((x5_1).toNat * 19)).block,(ad234.add ((x5_1).toNat * 19)).off + 4,none⟩ = some (.string ((rd_T50 l0 x5_1).f2.f2)) ∧ w'.cell? ⟨(ad234.add ((x5_1).toNat * 19)).block,(ad234.add ((x5_1).toNat * 19)).off + 5,none⟩ = some (.slice A234_5 ((rd_T50 l0 x5_1).f2.f3).length c234_5) ∧ w'.cell? ⟨(ad234.add ((x5_1).toNat * 19)).block,(ad234.add ((x5_1).toNat * 19)).off + 6,none⟩ = some (.int .i64 ((rd_T50 l0 x5_1).f3.f0)) ∧ w'.cell? ⟨(ad234.add ((x5_1).toNat * 19)).block,(ad234.add ((x5_1).toNat * 19)).off + 7,none⟩ = some (.int .i64 ((rd_T50 l0 x5_1).f3.f1)) ∧ w'.cell? ⟨(ad234.add ((x5_1).toNat * 19)).block,(ad234.add ((x5_1).toNat * 19)).off + 8,none⟩ = some (.string ((rd_T50 l0 x5_1).f3.f2)) ∧ w'.cell? ⟨(ad234.add ((x5_1).toNat * 19)).block,(ad234.add ((x5_1).toNat * 19)).off + 9,none⟩ = some (.slice A234_9 ((rd_T50 l0 x5_1).f3.f3).length c234_9) ∧ w'.cell? ⟨(ad234.add ((x5_1).toNat * 19)).block,(ad234.add ((x5_1).toNat * 19)).off + 10,none⟩ = some (.int .i64 ((rd_T50 l0 x5_1).f4.f0)) ∧ w'.cell? ⟨(ad234.add ((x5_1).toNat * 19)).block,(ad234.add ((x5_1).toNat * 19)).off + 11,none⟩ = some (.int .i64 ((rd_T50 l0 x5_1).f4.f1)) ∧ w'.cell? ⟨(ad234.add ((x5_1).toNat * 19)).block,(ad234.add ((x5_1).toNat * 19)).off + 12,none⟩ = some (.string ((rd_T50 l0 x5_1).f4.f2)) ∧ w'.cell? ⟨(ad234.add ((x5_1).toNat * 19)).block,(ad234.add ((x5_1).toNat * 19)).off + 13,none⟩ = some (.slice A234_13 ((rd_T50 l0 x5_1).f4.f3).length c234_13) ∧ w'.cell? ⟨(ad234.add ((x5_1).toNat * 19)).block,(ad234.add ((x5_1).toNat * 19)).off + 14,none⟩ = some (.int .i64 ((rd_T50 l0 x5_1).f5.f0)) ∧ w'.cell? ⟨(ad234.add ((x5_1).toNat * 19)).block,(ad234.add ((x5_1).toNat * 19)).off + 15,none⟩ = some (.int .i64 ((rd_T50 l0 x5_1).f5.f1)) ∧ w'.cell? ⟨(ad234.add ((x5_1).toNat * 19)).block,(ad234.add ((x5_1).toNat * 19)).off + 16,none⟩ = some (.string ((rd_T50 l0 x5_1).f5.f2)) ∧ w'.cell? ⟨(ad234.add ((x5_1).toNat * 19)).block,(ad234.add ((x5_1).toNat * 19)).off + 17,none⟩ = some (.slice A234_17 ((rd_T50 l0 x5_1).f5.f3).length c234_17) ∧ w'.cell? ⟨(ad234.add ((x5_1).toNat * 19)).block,(ad234.add ((x5_1).toNat * 19)).off + 18,none⟩ = some (.slice A234_18 ((rd_T50 l0 x5_1).f6).length c234_18) ∧ w'.cell? (ad235.add ((x5_1).toNat * 19)) = some (.int .i64 ((rd_T50 l1 x5_1).f0)) ∧ w'.cell? ⟨(ad235.add ((x5_1).toNat * 19)).block,(ad235.add ((x5_1).toNat * 19)).off + 1,none⟩ = some (.string ((rd_T50 l1 x5_1).f1)) ∧ w'.cell? ⟨(ad235.add ((x5_1).toNat * 19)).block,(ad235.add ((x5_1).toNat * 19)).off + 2,none⟩ = some (.int .i64 ((rd_T50 l1 x5_1).f2.f0)) ∧ w'.cell? ⟨(ad235.add ((x5_1).toNat * 19)).block,(ad235.add ((x5_1).toNat * 19)).off + 3,none⟩ = some (.int .i64 ((rd_T50 l1 x5_1).f2.f1)) ∧ w'.cell? ⟨(ad235.add ((x5_1).toNat * 19)).block,(ad235.add ((x5_1).toNat * 19)).off + 4,none⟩ = some (.string ((rd_T50 l1 x5_1).f2.f2)) ∧ w'.cell? ⟨(ad235.add ((x5_1).toNat * 19)).block,(ad235.add ((x5_1).toNat * 19)).off + 5,none⟩ = some (.slice A235_5 ((rd_T50 l1 x5_1).f2.f3).length c235_5) ∧ w'.cell? ⟨(ad235.add ((x5_1).toNat * 19)).block,(ad235.add ((x5_1).toNat * 19)).off + 6,none⟩ = some (.int .i64 ((rd_T50 l1 x5_1).f3.f0)) ∧ w'.cell? ⟨(ad235.add ((x5_1).toNat * 19)).block,(ad235.add ((x5_1).toNat * 19)).off + 7,none⟩ = some (.int .i64 ((rd_T50 l1 x5_1).f3.f1)) ∧ w'.cell? ⟨(ad235.add ((x5_1).toNat * 19)).block,(ad235.add ((x5_1).toNat * 19)).off + 8,none⟩ = some (.string ((rd_T50 l1 x5_1).f3.f2)) ∧ w'.cell? ⟨(ad235.add ((x5_1).toNat * 19)).block,(ad235.add ((x5_1).toNat * 19)).off + 9,none⟩ = some (.slice A235_9 ((rd_T50 l1 x5_1).f3.f3).length c235_9) ∧ w'.cell? ⟨(ad235.add ((x5_1).toNat * 19)).block,(ad235.add ((x5_1).toNat * 19)).off + 10,none⟩ = some (.int .i64 ((rd_T50 l1 x5_1).f4.f0)) ∧ w'.cell? ⟨(ad235.add ((x5_1).toNat * 19)).block,(ad235.add ((x5_1).toNat * 19)).off + 11,none⟩ = some (.int .i64 ((rd_T50 l1 x5_1).f4.f1)) ∧ w'.cell? ⟨(ad235.add ((x5_1).toNat * 19)).block,(ad235.add ((x5_1).toNat * 19)).off + 12,none⟩ = some (.string ((rd_T50 l1 x5_1).f4.f2)) ∧ w'.cell? ⟨(ad235.add ((x5_1).toNat * 19)).block,(ad235.add ((x5_1).toNat * 19)).off + 13,none⟩ = some (.slice A235_13 ((rd_T50 l1 x5_1).f4.f3).length c235_13) ∧ w'.cell? ⟨(ad235.add ((x5_1).toNat * 19)).block,(ad235.add ((x5_1).toNat * 19)).off + 14,none⟩ = some (.int .i64 ((rd_T50 l1 x5_1).f5.f0)) ∧ w'.cell? ⟨(ad235.add ((x5_1).toNat * 19)).block,(ad235.add ((x5_1).toNat * 19)).off + 15,none⟩ = some (.int .i64 ((rd_T50 l1 x5_1).f5.f1)) ∧ w'.cell? ⟨(ad235.add ((x5_1).toNat * 19)).block,(ad235.add ((x5_1).toNat * 19)).off + 16,none⟩ = some (.string ((rd_T50 l1 x5_1).f5.f2)) ∧ w'.cell? ⟨(ad235.add ((x5_1).toNat * 19)).block,(ad235.add ((x5_1).toNat * 19)).off + 17,none⟩ = some (.slice A235_17 ((rd_T50 l1 x5_1).f5.f3).length c235_17) ∧ w'.cell? ⟨(ad235.add ((x5_1).toNat * 19)).block,(ad235.add ((x5_1).toNat * 19)).off + 18,none⟩ = some (.slice A235_18 ((rd_T50 l1 x5_1).f6).length c235_18)) (ds := []) #[false,false,false,false,false,false,false,false,false,false] (by kernel_rfl) rfl rfl ⟨((HB.out.cell (World.block_lt_of_cell? w _ hw234_0)).trans hw234_0),((HB.out.cell (World.block_lt_of_cell? w _ hw234_1)).trans hw234_1),((HB.out.cell (World.block_lt_of_cell? w _ hw234_2)).trans hw234_2),((HB.out.cell (World.block_lt_of_cell? w _ hw234_3)).trans hw234_3),((HB.out.cell (World.block_lt_of_cell? w _ hw234_4)).trans hw234_4),((HB.out.cell (World.block_lt_of_cell? w _ hw234_5)).trans hw234_5),((HB.out.cell (World.block_lt_of_cell? w _ hw234_6)).trans hw234_6),((HB.out.cell (World.block_lt_of_cell? w _ hw234_7)).trans hw234_7),((HB.out.cell (World.block_lt_of_cell? w _ hw234_8)).trans hw234_8),((HB.out.cell (World.block_lt_of_cell? w _ hw234_9)).trans hw234_9),((HB.out.cell (World.block_lt_of_cell? w _ hw234_10)).trans hw234_10),((HB.out.cell (World.block_lt_of_cell? w _ hw234_11)).trans hw234_11),((HB.out.cell (World.block_lt_of_cell? w _ hw234_12)).trans hw234_12),((HB.out.cell (World.block_lt_of_cell? w _ hw234_13)).trans hw234_13),((HB.out.cell (World.block_lt_of_cell? w _ hw234_14)).trans hw234_14),((HB.out.cell (World.block_lt_of_cell? w _ hw234_15)).trans hw234_15),((HB.out.cell (World.block_lt_of_cell? w _ hw234_16)).trans hw234_16),((HB.out.cell (World.block_lt_of_cell? w _ hw234_17)).trans hw234_17),((HB.out.cell (World.block_lt_of_cell? w _ hw234_18)).trans hw234_18),((HB.out.cell (World.block_lt_of_cell? w _ hw235_0)).trans hw235_0),((HB.out.cell (World.block_lt_of_cell? w _ hw235_1)).trans hw235_1),((HB.out.cell (World.block_lt_of_cell? w _ hw235_2)).trans hw235_2),((HB.out.cell (World.block_lt_of_cell? w _ hw235_3)).trans hw235_3),((HB.out.cell (World.block_lt_of_cell? w _ hw235_4)).trans hw235_4),((HB.out.cell (World.block_lt_of_cell? w _ hw235_5)).trans hw235_5),((HB.out.cell (World.block_lt_of_cell? w _ hw235_6)).trans hw235_6),((HB.out.cell (World.block_lt_of_cell? w _ hw235_7)).trans hw235_7),((HB.out.cell (World.block_lt_of_cell? w _ hw235_8)).trans hw235_8),((HB.out.cell (World.block_lt_of_cell? w _ hw235_9)).trans hw235_9),((HB.out.cell (World.block_lt_of_cell? w _ hw235_10)).trans hw235_10),((HB.out.cell (World.block_lt_of_cell? w _ hw235_11)).trans hw235_11),((HB.out.cell (World.block_lt_of_cell? w _ hw235_12)).trans hw235_12),((HB.out.cell (World.block_lt_of_cell? w _ hw235_13)).trans hw235_13),((HB.out.cell (World.block_lt_of_cell? w _ hw235_14)).trans hw235_14),((HB.out.cell (World.block_lt_of_cell? w _ hw235_15)).trans hw235_15),((HB.out.cell (World.block_lt_of_cell? w _ hw235_16)).trans hw235_16),((HB.out.cell (World.block_lt_of_cell? w _ hw235_17)).trans hw235_17),((HB.out.cell (World.block_lt_of_cell? w _ hw235_18)).trans hw235_18)⟩ (fun hHeld => ?_);refine with_tabW laws_eqStmtS.tab6 laws_eqStmtS.bits6 (fun HT_ HW_ => ?_)
        generalize wr.drew = w9 at HB HR234_13 HR234_17 HR234_18 HR234_5 HR234_9 HR235_13 HR235_17 HR235_18 HR235_5 HR235_9 hx234_0 hx234_1 hx234_10 hx234_11 hx234_12 hx234_13 hx234_14 hx234_15 hx234_16 hx234_17 hx234_18 hx234_2 hx234_3 hx234_4 hx234_5 hx234_6 hx234_7 hx234_8 hx234_9 hx235_0 hx235_1 hx235_10 hx235_11 hx235_12 hx235_13 hx235_14 hx235_15 hx235_16 hx235_17 hx235_18 hx235_2 hx235_3 hx235_4 hx235_5 hx235_6 hx235_7 hx235_8 hx235_9 hHeld ⊢
        refine pure_ (i := 0) (N := some 17) (v := ?_) (a' := ?_) #[true,false,false,false,false,false,false,false,false,false] rfl rfl (any_of HT_.out (by kernel_rfl)) (fun _ _ _ h => h) (Or.inl ⟨by rfl,?_⟩) ?_ ?_
        rotate_left
        ·intro w'
         go_simp
         with_reducible rfl
        rotate_left
        ·simp only [Act.put,List.setIfInBounds_toArray,List.set_cons_zero,List.set_cons_succ,i64_w,i32_w]
         rfl
        refine pure_ (i := 1) (N := some 18) (v := ?_) (a' := ?_) #[true,true,false,false,false,false,false,false,false,false] rfl rfl (any_of HT_.out (by kernel_rfl)) (fun _ _ _ h => h) (Or.inl ⟨by rfl,?_⟩) ?_ ?_
        rotate_left
        ·intro w'
         go_simp
         with_reducible rfl
        rotate_left
        ·simp only [Act.put,List.setIfInBounds_toArray,List.set_cons_zero,List.set_cons_succ,i64_w,i32_w]
         rfl
        refine pure_ (i := 2) (N := some 19) (v := ?_) (a' := ?_) #[true,true,true,false,false,false,false,false,false,false] rfl rfl (any_of HT_.out (by kernel_rfl)) (fun _ _ _ h => h) (Or.inl ⟨by rfl,?_⟩) ?_ ?_
        rotate_left
        ·intro w'
         go_simp
         with_reducible rfl
        rotate_left
        ·simp only [Act.put,List.setIfInBounds_toArray,List.set_cons_zero,List.set_cons_succ,i64_w,i32_w]
         rfl
        refine pure_ (i := 4) (N := some 21) (v := ?_) (a' := ?_) #[true,true,true,false,true,false,false,false,false,false] rfl rfl (any_of HT_.out (by kernel_rfl)) (fun _ _ _ h => h) (Or.inl ⟨by rfl,?_⟩) ?_ ?_
        rotate_left
        ·intro w'
         go_simp
         with_reducible rfl
        rotate_left
        ·simp only [Act.put,List.setIfInBounds_toArray,List.set_cons_zero,List.set_cons_succ,i64_w,i32_w]
         rfl
        refine pure_ (i := 5) (N := some 22) (v := ?_) (a' := ?_) #[true,true,true,false,true,true,false,false,false,false] rfl rfl (any_of HT_.out (by kernel_rfl)) (fun _ _ _ h => h) (Or.inl ⟨by rfl,?_⟩) ?_ ?_
        rotate_left
        ·intro w'
         go_simp
         with_reducible rfl
        rotate_left
        ·simp only [Act.put,List.setIfInBounds_toArray,List.set_cons_zero,List.set_cons_succ,i64_w,i32_w]
         rfl
        refine pure_ (i := 6) (N := some 23) (v := ?_) (a' := ?_) #[true,true,true,false,true,true,true,false,false,false] rfl rfl (any_of HT_.out (by kernel_rfl)) (fun _ _ _ h => h) (Or.inl ⟨by rfl,?_⟩) ?_ ?_
        rotate_left
        ·intro w'
         go_simp
         with_reducible rfl
        rotate_left
        ·simp only [Act.put,List.setIfInBounds_toArray,List.set_cons_zero,List.set_cons_succ,i64_w,i32_w]
         rfl
        refine take_ (i := 3) (N := some 20) (v := ?_) (a' := ?_) #[true,true,true,true,true,true,true,false,false,false] rfl rfl (take_ofW HT_.out HW_.out (by kernel_rfl)) (fun _ _ _ h => h) (Or.inl ⟨by rfl,?_⟩) hHeld ?_ ?_
        rotate_left
        ·rintro w' ⟨s0,s1,s2,s3,s4,s5,s6,s7,s8,s9,s10,s11,s12,s13,s14,s15,s16,s17,s18,s19,s20,s21,s22,s23,s24,s25,s26,s27,s28,s29,s30,s31,s32,s33,s34,s35,s36,s37⟩
         first|(refine ldRun 50 ?x241_0 ?ho241_0 _ ?hx241_0 _ (row19 s0 s1 s2 s3 s4 s5 s6 s7 s8 s9 s10 s11 s12 s13 s14 s15 s16 s17 s18) _ Try.underlying50 (by kernel_rfl);(case ho241_0 => rfl);(case hx241_0 => rfl))|(refine ldRun 50 ?x241_19 ?ho241_19 _ ?hx241_19 _ (row19 s19 s20 s21 s22 s23 s24 s25 s26 s27 s28 s29 s30 s31 s32 s33 s34 s35 s36 s37) _ Try.underlying50 (by kernel_rfl);(case ho241_19 => rfl);(case hx241_19 => rfl))
        rotate_left
        ·simp only [Act.put,List.setIfInBounds_toArray,List.set_cons_zero,List.set_cons_succ,i64_w,i32_w]
         rfl
        refine take_ (i := 7) (N := some 24) (v := ?_) (a' := ?_) #[true,true,true,true,true,true,true,true,false,false] rfl rfl (take_ofW HT_.out HW_.out (by kernel_rfl)) (fun _ _ _ h => h) (Or.inl ⟨by rfl,?_⟩) hHeld ?_ ?_
        rotate_left
        ·rintro w' ⟨s0,s1,s2,s3,s4,s5,s6,s7,s8,s9,s10,s11,s12,s13,s14,s15,s16,s17,s18,s19,s20,s21,s22,s23,s24,s25,s26,s27,s28,s29,s30,s31,s32,s33,s34,s35,s36,s37⟩
         first|(refine ldRun 50 ?x249_0 ?ho249_0 _ ?hx249_0 _ (row19 s0 s1 s2 s3 s4 s5 s6 s7 s8 s9 s10 s11 s12 s13 s14 s15 s16 s17 s18) _ Try.underlying50 (by kernel_rfl);(case ho249_0 => rfl);(case hx249_0 => rfl))|(refine ldRun 50 ?x249_19 ?ho249_19 _ ?hx249_19 _ (row19 s19 s20 s21 s22 s23 s24 s25 s26 s27 s28 s29 s30 s31 s32 s33 s34 s35 s36 s37) _ Try.underlying50 (by kernel_rfl);(case ho249_19 => rfl);(case hx249_19 => rfl))
        rotate_left
        ·simp only [Act.put,List.setIfInBounds_toArray,List.set_cons_zero,List.set_cons_succ,i64_w,i32_w]
         rfl
        refine one_ (i := 8) (N := some 25) #[true,true,true,true,true,true,true,true,true,false] rfl rfl (one_of HT_.out (by kernel_rfl)) (by decide) (fun K hK => ?_)
        refine goes_ Try.func26 (by kernel_rfl) rfl #[.agg #[.int .i64 ((rd_T50 l0 x5_1).f0),.string ((rd_T50 l0 x5_1).f1),.int .i64 ((rd_T50 l0 x5_1).f2.f0),.int .i64 ((rd_T50 l0 x5_1).f2.f1),.string ((rd_T50 l0 x5_1).f2.f2),.slice A234_5 ((rd_T50 l0 x5_1).f2.f3).length c234_5,.int .i64 ((rd_T50 l0 x5_1).f3.f0),.int .i64 ((rd_T50 l0 x5_1).f3.f1),.string ((rd_T50 l0 x5_1).f3.f2),.slice A234_9 ((rd_T50 l0 x5_1).f3.f3).length c234_9,.int .i64 ((rd_T50 l0 x5_1).f4.f0),.int .i64 ((rd_T50 l0 x5_1).f4.f1),.string ((rd_T50 l0 x5_1).f4.f2),.slice A234_13 ((rd_T50 l0 x5_1).f4.f3).length c234_13,.int .i64 ((rd_T50 l0 x5_1).f5.f0),.int .i64 ((rd_T50 l0 x5_1).f5.f1),.string ((rd_T50 l0 x5_1).f5.f2),.slice A234_17 ((rd_T50 l0 x5_1).f5.f3).length c234_17,.slice A234_18 ((rd_T50 l0 x5_1).f6).length c234_18],.agg #[.int .i64 ((rd_T50 l1 x5_1).f0),.string ((rd_T50 l1 x5_1).f1),.int .i64 ((rd_T50 l1 x5_1).f2.f0),.int .i64 ((rd_T50 l1 x5_1).f2.f1),.string ((rd_T50 l1 x5_1).f2.f2),.slice A235_5 ((rd_T50 l1 x5_1).f2.f3).length c235_5,.int .i64 ((rd_T50 l1 x5_1).f3.f0),.int .i64 ((rd_T50 l1 x5_1).f3.f1),.string ((rd_T50 l1 x5_1).f3.f2),.slice A235_9 ((rd_T50 l1 x5_1).f3.f3).length c235_9,.int .i64 ((rd_T50 l1 x5_1).f4.f0),.int .i64 ((rd_T50 l1 x5_1).f4.f1),.string ((rd_T50 l1 x5_1).f4.f2),.slice A235_13 ((rd_T50 l1 x5_1).f4.f3).length c235_13,.int .i64 ((rd_T50 l1 x5_1).f5.f0),.int .i64 ((rd_T50 l1 x5_1).f5.f1),.string ((rd_T50 l1 x5_1).f5.f2),.slice A235_17 ((rd_T50 l1 x5_1).f5.f3).length c235_17,.slice A235_18 ((rd_T50 l1 x5_1).f6).length c235_18]] (by rfl) rfl rfl (by (try simp only [List.map_toArray,List.map_cons,List.map_nil]);first|done|rfl) ?_
        with_reducible refine (IH.out k1 (by have := HK1.out;omega) ((rd_T50 l0 x5_1).f0) ((rd_T50 l0 x5_1).f1) ((rd_T50 l0 x5_1).f2.f0) ((rd_T50 l0 x5_1).f2.f1) ((rd_T50 l0 x5_1).f2.f2) _ _ ((rd_T50 l0 x5_1).f2.f3) ((rd_T50 l0 x5_1).f3.f0) ((rd_T50 l0 x5_1).f3.f1) ((rd_T50 l0 x5_1).f3.f2) _ _ ((rd_T50 l0 x5_1).f3.f3) ((rd_T50 l0 x5_1).f4.f0) ((rd_T50 l0 x5_1).f4.f1) ((rd_T50 l0 x5_1).f4.f2) _ _ ((rd_T50 l0 x5_1).f4.f3) ((rd_T50 l0 x5_1).f5.f0) ((rd_T50 l0 x5_1).f5.f1) ((rd_T50 l0 x5_1).f5.f2) _ _ ((rd_T50 l0 x5_1).f5.f3) _ _ ((rd_T50 l0 x5_1).f6) ((rd_T50 l1 x5_1).f0) ((rd_T50 l1 x5_1).f1) ((rd_T50 l1 x5_1).f2.f0) ((rd_T50 l1 x5_1).f2.f1) ((rd_T50 l1 x5_1).f2.f2) _ _ ((rd_T50 l1 x5_1).f2.f3) ((rd_T50 l1 x5_1).f3.f0) ((rd_T50 l1 x5_1).f3.f1) ((rd_T50 l1 x5_1).f3.f2) _ _ ((rd_T50 l1 x5_1).f3.f3) ((rd_T50 l1 x5_1).f4.f0) ((rd_T50 l1 x5_1).f4.f1) ((rd_T50 l1 x5_1).f4.f2) _ _ ((rd_T50 l1 x5_1).f4.f3) ((rd_T50 l1 x5_1).f5.f0) ((rd_T50 l1 x5_1).f5.f1) ((rd_T50 l1 x5_1).f5.f2) _ _ ((rd_T50 l1 x5_1).f5.f3) _ _ ((rd_T50 l1 x5_1).f6) true _ ?side1 ?side2 ?side3 ?side4 ?side5 ?side6 ?side7 ?side8 ?side9 ?side10 ?side11 ?side12 ?side13 ?side14 ?side15 ?side16 ?side17 ?side18 ?side19 ?side20 A7.out).mono ?_
        (case side1 => repeat (first|exact (Kd.C_below HR234_5.out HB.out)|(with_reducible refine cA ?_ _)|(with_reducible refine cN ?_ _)|(with_reducible refine cD ?_)))
        (case side2 => exact HC234_5.out)
        (case side3 => repeat (first|exact (Kd.C_below HR234_9.out HB.out)|(with_reducible refine cA ?_ _)|(with_reducible refine cN ?_ _)|(with_reducible refine cD ?_)))
        (case side4 => exact HC234_9.out)
        (case side5 => repeat (first|exact (Kd.C_below HR234_13.out HB.out)|(with_reducible refine cA ?_ _)|(with_reducible refine cN ?_ _)|(with_reducible refine cD ?_)))
        (case side6 => exact HC234_13.out)
        (case side7 => repeat (first|exact (Kd.C_below HR234_17.out HB.out)|(with_reducible refine cA ?_ _)|(with_reducible refine cN ?_ _)|(with_reducible refine cD ?_)))
        (case side8 => exact HC234_17.out)
        (case side9 => repeat (first|exact (Kd.C_below HR234_18.out HB.out)|(with_reducible refine cA ?_ _)|(with_reducible refine cN ?_ _)|(with_reducible refine cD ?_)))
        (case side10 => exact HC234_18.out)
        (case side11 => repeat (first|exact (Kd.C_below HR235_5.out HB.out)|(with_reducible refine cA ?_ _)|(with_reducible refine cN ?_ _)|(with_reducible refine cD ?_)))
        (case side12 => exact HC235_5.out)
        (case side13 => repeat (first|exact (Kd.C_below HR235_9.out HB.out)|(with_reducible refine cA ?_ _)|(with_reducible refine cN ?_ _)|(with_reducible refine cD ?_)))
        (case side14 => exact HC235_9.out)
        (case side15 => repeat (first|exact (Kd.C_below HR235_13.out HB.out)|(with_reducible refine cA ?_ _)|(with_reducible refine cN ?_ _)|(with_reducible refine cD ?_)))
        (case side16 => exact HC235_13.out)
        (case side17 => repeat (first|exact (Kd.C_below HR235_17.out HB.out)|(with_reducible refine cA ?_ _)|(with_reducible refine cN ?_ _)|(with_reducible refine cD ?_)))
        (case side18 => exact HC235_17.out)
        (case side19 => repeat (first|exact (Kd.C_below HR235_18.out HB.out)|(with_reducible refine cA ?_ _)|(with_reducible refine cN ?_ _)|(with_reducible refine cD ?_)))
        (case side20 => exact HC235_18.out)
        rintro e w10 ⟨rfl,hb⟩
        refine ⟨_,rfl,?_⟩
        have n0_ := mk0 (below_step (by repeat (first|(with_reducible first|exact HB.out|apply bA|apply bN|apply bD)|exact HB.out)) hb)
        clear HB
        have HB := n0_
        clear n0_
        (try clear hb)
        (try clear hb2)
        (try clear hk)
        (try clear hi)
        refine hK.out _ _ ⟨((HB.out.cell (World.block_lt_of_cell? w _ hw234_0)).trans hw234_0),((HB.out.cell (World.block_lt_of_cell? w _ hw234_1)).trans hw234_1),((HB.out.cell (World.block_lt_of_cell? w _ hw234_2)).trans hw234_2),((HB.out.cell (World.block_lt_of_cell? w _ hw234_3)).trans hw234_3),((HB.out.cell (World.block_lt_of_cell? w _ hw234_4)).trans hw234_4),((HB.out.cell (World.block_lt_of_cell? w _ hw234_5)).trans hw234_5),((HB.out.cell (World.block_lt_of_cell? w _ hw234_6)).trans hw234_6),((HB.out.cell (World.block_lt_of_cell? w _ hw234_7)).trans hw234_7),((HB.out.cell (World.block_lt_of_cell? w _ hw234_8)).trans hw234_8),((HB.out.cell (World.block_lt_of_cell? w _ hw234_9)).trans hw234_9),((HB.out.cell (World.block_lt_of_cell? w _ hw234_10)).trans hw234_10),((HB.out.cell (World.block_lt_of_cell? w _ hw234_11)).trans hw234_11),((HB.out.cell (World.block_lt_of_cell? w _ hw234_12)).trans hw234_12),((HB.out.cell (World.block_lt_of_cell? w _ hw234_13)).trans hw234_13),((HB.out.cell (World.block_lt_of_cell? w _ hw234_14)).trans hw234_14),((HB.out.cell (World.block_lt_of_cell? w _ hw234_15)).trans hw234_15),((HB.out.cell (World.block_lt_of_cell? w _ hw234_16)).trans hw234_16),((HB.out.cell (World.block_lt_of_cell? w _ hw234_17)).trans hw234_17),((HB.out.cell (World.block_lt_of_cell? w _ hw234_18)).trans hw234_18),((HB.out.cell (World.block_lt_of_cell? w _ hw235_0)).trans hw235_0),((HB.out.cell (World.block_lt_of_cell? w _ hw235_1)).trans hw235_1),((HB.out.cell (World.block_lt_of_cell? w _ hw235_2)).trans hw235_2),((HB.out.cell (World.block_lt_of_cell? w _ hw235_3)).trans hw235_3),((HB.out.cell (World.block_lt_of_cell? w _ hw235_4)).trans hw235_4),((HB.out.cell (World.block_lt_of_cell? w _ hw235_5)).trans hw235_5),((HB.out.cell (World.block_lt_of_cell? w _ hw235_6)).trans hw235_6),((HB.out.cell (World.block_lt_of_cell? w _ hw235_7)).trans hw235_7),((HB.out.cell (World.block_lt_of_cell? w _ hw235_8)).trans hw235_8),((HB.out.cell (World.block_lt_of_cell? w _ hw235_9)).trans hw235_9),((HB.out.cell (World.block_lt_of_cell? w _ hw235_10)).trans hw235_10),((HB.out.cell (World.block_lt_of_cell? w _ hw235_11)).trans hw235_11),((HB.out.cell (World.block_lt_of_cell? w _ hw235_12)).trans hw235_12),((HB.out.cell (World.block_lt_of_cell? w _ hw235_13)).trans hw235_13),((HB.out.cell (World.block_lt_of_cell? w _ hw235_14)).trans hw235_14),((HB.out.cell (World.block_lt_of_cell? w _ hw235_15)).trans hw235_15),((HB.out.cell (World.block_lt_of_cell? w _ hw235_16)).trans hw235_16),((HB.out.cell (World.block_lt_of_cell? w _ hw235_17)).trans hw235_17),((HB.out.cell (World.block_lt_of_cell? w _ hw235_18)).trans hw235_18)⟩ (fun hHeld => ?_)
        clear hK K
        refine norm_ (a' := ?_) ?_ ?_
        rotate_left
        ·show Act.put _ (some 25) _ = _
         simp only [Act.put,List.setIfInBounds_toArray,List.set_cons_zero,List.set_cons_succ,i64_w,i32_w]
         rfl
        refine pure_ (i := 9) (N := some 26) (v := ?_) (a' := ?_) #[true,true,true,true,true,true,true,true,true,true] rfl rfl (any_of HT_.out (by kernel_rfl)) (fun _ _ _ h => h) (Or.inl ⟨by rfl,?_⟩) ?_ ?_
        rotate_left
        ·intro w'
         go_simp
         with_reducible rfl
        rotate_left
        ·simp only [Act.put,List.setIfInBounds_toArray,List.set_cons_zero,List.set_cons_succ,i64_w,i32_w]
         rfl
        refine done_ (done_of HT_.out (by kernel_rfl)) ?_
        try go_wp2_with (first|((with_reducible refine gate_dst (N := 20) rfl ?_);first|(refine ldRow rfl 50 _ rfl _ rfl _ (row19 hx234_0 hx234_1 hx234_2 hx234_3 hx234_4 hx234_5 hx234_6 hx234_7 hx234_8 hx234_9 hx234_10 hx234_11 hx234_12 hx234_13 hx234_14 hx234_15 hx234_16 hx234_17 hx234_18) _ Try.underlying50 (by kernel_rfl) ?_)|(refine ldRow rfl 50 _ rfl _ rfl _ (row19 hx235_0 hx235_1 hx235_2 hx235_3 hx235_4 hx235_5 hx235_6 hx235_7 hx235_8 hx235_9 hx235_10 hx235_11 hx235_12 hx235_13 hx235_14 hx235_15 hx235_16 hx235_17 hx235_18) _ Try.underlying50 (by kernel_rfl) ?_))|((with_reducible refine gate_dst (N := 24) rfl ?_);first|(refine ldRow rfl 50 _ rfl _ rfl _ (row19 hx234_0 hx234_1 hx234_2 hx234_3 hx234_4 hx234_5 hx234_6 hx234_7 hx234_8 hx234_9 hx234_10 hx234_11 hx234_12 hx234_13 hx234_14 hx234_15 hx234_16 hx234_17 hx234_18) _ Try.underlying50 (by kernel_rfl) ?_)|(refine ldRow rfl 50 _ rfl _ rfl _ (row19 hx235_0 hx235_1 hx235_2 hx235_3 hx235_4 hx235_5 hx235_6 hx235_7 hx235_8 hx235_9 hx235_10 hx235_11 hx235_12 hx235_13 hx235_14 hx235_15 hx235_16 hx235_17 hx235_18) _ Try.underlying50 (by kernel_rfl) ?_)))
        go_roundg k1
        case measure => have := HK1.out;omega
        case rel => exact ⟨(wrap64 (x5_1 + 1)),(by first|rfl|(simp;done)|(simp [*];done)),H',⟨by have := HK1.out;omega⟩,⟨by repeat (first|(with_reducible first|exact HB.out|apply bA|apply bN|apply bD)|exact HB.out)⟩⟩
       ·replace c8 := Bool.eq_false_iff.mpr c8
        subst c8
        rw [if_neg (show ¬ (false = true) by decide)] at H
        obtain rfl := Option.some.inj H
        try go_wp2
        have n0_ := mk0 (bD HB.out)
        clear HB
        have HB := n0_
        clear n0_
        have p234 : 0 ≤ (x5_1 : Int) := of_decide_eq_true (by first|(with_reducible assumption)|assumption)
        have q234 : x5_1 < (l0.length : Int) := of_decide_eq_true (by first|(with_reducible assumption)|assumption)
        obtain ⟨ad234,A234_5,c234_5,A234_9,c234_9,A234_13,c234_13,A234_17,c234_17,A234_18,c234_18,e234,hx234_0,hx234_1,hx234_2,hx234_3,hx234_4,hx234_5,hx234_6,hx234_7,hx234_8,hx234_9,hx234_10,hx234_11,hx234_12,hx234_13,hx234_14,hx234_15,hx234_16,hx234_17,hx234_18,hl234_5,hi234_5,hl234_9,hi234_9,hl234_13,hi234_13,hl234_17,hi234_17,hl234_18,hi234_18⟩ := at_T50 HR0.out x5_1 p234 q234
        have hw234_18 := hx234_18
        have hw234_17 := hx234_17
        have hw234_16 := hx234_16
        have hw234_15 := hx234_15
        have hw234_14 := hx234_14
        have hw234_13 := hx234_13
        have hw234_12 := hx234_12
        have hw234_11 := hx234_11
        have hw234_10 := hx234_10
        have hw234_9 := hx234_9
        have hw234_8 := hx234_8
        have hw234_7 := hx234_7
        have hw234_6 := hx234_6
        have hw234_5 := hx234_5
        have hw234_4 := hx234_4
        have hw234_3 := hx234_3
        have hw234_2 := hx234_2
        have hw234_1 := hx234_1
        have hw234_0 := hx234_0
        cases e234
        replace hx234_0 := hbc HB.out hx234_0
        replace hx234_1 := hbc HB.out hx234_1
        replace hx234_2 := hbc HB.out hx234_2
        replace hx234_3 := hbc HB.out hx234_3
        replace hx234_4 := hbc HB.out hx234_4
        replace hx234_5 := hbc HB.out hx234_5
        replace hx234_6 := hbc HB.out hx234_6
        replace hx234_7 := hbc HB.out hx234_7
        replace hx234_8 := hbc HB.out hx234_8
        replace hx234_9 := hbc HB.out hx234_9
        replace hx234_10 := hbc HB.out hx234_10
        replace hx234_11 := hbc HB.out hx234_11
        replace hx234_12 := hbc HB.out hx234_12
        replace hx234_13 := hbc HB.out hx234_13
        replace hx234_14 := hbc HB.out hx234_14
        replace hx234_15 := hbc HB.out hx234_15
        replace hx234_16 := hbc HB.out hx234_16
        replace hx234_17 := hbc HB.out hx234_17
        replace hx234_18 := hbc HB.out hx234_18
        have HR234_5 := mk0 hi234_5
        have HC234_5 := mk0 hl234_5
        clear hi234_5 hl234_5
        have HR234_9 := mk0 hi234_9
        have HC234_9 := mk0 hl234_9
        clear hi234_9 hl234_9
        have HR234_13 := mk0 hi234_13
        have HC234_13 := mk0 hl234_13
        clear hi234_13 hl234_13
        have HR234_17 := mk0 hi234_17
        have HC234_17 := mk0 hl234_17
        clear hi234_17 hl234_17
        have HR234_18 := mk0 hi234_18
        have HC234_18 := mk0 hl234_18
        clear hi234_18 hl234_18
        replace p234 := eq_true p234
        replace q234 := eq_true q234
        have p235 : 0 ≤ (x5_1 : Int) := of_decide_eq_true (by first|(with_reducible assumption)|assumption)
        have q235 : x5_1 < (l1.length : Int) := of_decide_eq_true (by first|(with_reducible assumption)|assumption)
        obtain ⟨ad235,A235_5,c235_5,A235_9,c235_9,A235_13,c235_13,A235_17,c235_17,A235_18,c235_18,e235,hx235_0,hx235_1,hx235_2,hx235_3,hx235_4,hx235_5,hx235_6,hx235_7,hx235_8,hx235_9,hx235_10,hx235_11,hx235_12,hx235_13,hx235_14,hx235_15,hx235_16,hx235_17,hx235_18,hl235_5,hi235_5,hl235_9,hi235_9,hl235_13,hi235_13,hl235_17,hi235_17,hl235_18,hi235_18⟩ := at_T50 HR1.out x5_1 p235 q235
        have hw235_18 := hx235_18
        have hw235_17 := hx235_17
        have hw235_16 := hx235_16
        have hw235_15 := hx235_15
        have hw235_14 := hx235_14
        have hw235_13 := hx235_13
        have hw235_12 := hx235_12
        have hw235_11 := hx235_11
        have hw235_10 := hx235_10
        have hw235_9 := hx235_9
        have hw235_8 := hx235_8
        have hw235_7 := hx235_7
        have hw235_6 := hx235_6
        have hw235_5 := hx235_5
        have hw235_4 := hx235_4
        have hw235_3 := hx235_3
        have hw235_2 := hx235_2
        have hw235_1 := hx235_1
        have hw235_0 := hx235_0
        cases e235
        replace hx235_0 := hbc HB.out hx235_0
        replace hx235_1 := hbc HB.out hx235_1
        replace hx235_2 := hbc HB.out hx235_2
        replace hx235_3 := hbc HB.out hx235_3
        replace hx235_4 := hbc HB.out hx235_4
        replace hx235_5 := hbc HB.out hx235_5
        replace hx235_6 := hbc HB.out hx235_6
        replace hx235_7 := hbc HB.out hx235_7
        replace hx235_8 := hbc HB.out hx235_8
        replace hx235_9 := hbc HB.out hx235_9
        replace hx235_10 := hbc HB.out hx235_10
        replace hx235_11 := hbc HB.out hx235_11
        replace hx235_12 := hbc HB.out hx235_12
        replace hx235_13 := hbc HB.out hx235_13
        replace hx235_14 := hbc HB.out hx235_14
        replace hx235_15 := hbc HB.out hx235_15
        replace hx235_16 := hbc HB.out hx235_16
        replace hx235_17 := hbc HB.out hx235_17
        replace hx235_18 := hbc HB.out hx235_18
        have HR235_5 := mk0 hi235_5
        have HC235_5 := mk0 hl235_5
        clear hi235_5 hl235_5
        have HR235_9 := mk0 hi235_9
        have HC235_9 := mk0 hl235_9
        clear hi235_9 hl235_9
        have HR235_13 := mk0 hi235_13
        have HC235_13 := mk0 hl235_13
        clear hi235_13 hl235_13
        have HR235_17 := mk0 hi235_17
        have HC235_17 := mk0 hl235_17
        clear hi235_17 hl235_17
        have HR235_18 := mk0 hi235_18
        have HC235_18 := mk0 hl235_18
        clear hi235_18 hl235_18
        replace p235 := eq_true p235
        replace q235 := eq_true q235
        refine start_ (n := 10) (S := fun w' => w'.cell? (ad234.add ((x5_1).toNat * 19)) = some (.int .i64 ((rd_T50 l0 x5_1).f0)) ∧ w'.cell? ⟨(ad234.add ((x5_1).toNat * 19)).block,(ad234.add ((x5_1).toNat * 19)).off + 1,none⟩ = some (.string ((rd_T50 l0 x5_1).f1)) ∧ w'.cell? ⟨(ad234.add ((x5_1).toNat * 19)).block,(ad234.add ((x5_1).toNat * 19)).off + 2,none⟩ = some (.int .i64 ((rd_T50 l0 x5_1).f2.f0)) ∧ w'.cell? ⟨(ad234.add ((x5_1).toNat * 19)).block,(ad234.add ((x5_1).toNat * 19)).off + 3,none⟩ = some (.int .i64 ((rd_T50 l0 x5_1).f2.f1)) ∧ w'.cell? ⟨(ad234.add ((x5_1).toNat * 19)).block,(ad234.add ((x5_1).toNat * 19)).off + 4,none⟩ = some (.string ((rd_T50 l0 x5_1).f2.f2)) ∧ w'.cell? ⟨(ad234.add ((x5_1).toNat * 19)).block,(ad234.add ((x5_1).toNat * 19)).off + 5,none⟩ = some (.slice A234_5 ((rd_T50 l0 x5_1).f2.f3).length c234_5) ∧ w'.cell? ⟨(ad234.add ((x5_1).toNat * 19)).block,(ad234.add ((x5_1).toNat * 19)).off + 6,none⟩ = some (.int .i64 ((rd_T50 l0 x5_1).f3.f0)) ∧ w'.cell? ⟨(ad234.add ((x5_1).toNat * 19)).block,(ad234.add ((x5_1).toNat * 19)).off + 7,none⟩ = some (.int .i64 ((rd_T50 l0 x5_1).f3.f1)) ∧ w'.cell? ⟨(ad234.add ((x5_1).toNat * 19)).block,(ad234.add ((x5_1).toNat * 19)).off + 8,none⟩ = some (.string ((rd_T50 l0 x5_1).f3.f2)) ∧ w'.cell? ⟨(ad234.add ((x5_1).toNat * 19)).block,(ad234.add ((x5_1).toNat * 19)).off + 9,none⟩ = some (.slice A234_9 ((rd_T50 l0 x5_1).f3.f3).length c234_9) ∧ w'.cell? ⟨(ad234.add ((x5_1).toNat * 19)).block,(ad234.add ((x5_1).toNat * 19)).off + 10,none⟩ = some (.int .i64 ((rd_T50 l0 x5_1).f4.f0)) ∧ w'.cell? ⟨(ad234.add ((x5_1).toNat * 19)).block,(ad234.add ((x5_1).toNat * 19)).off + 11,none⟩ = some (.int .i64 ((rd_T50 l0 x5_1).f4.f1)) ∧ w'.cell? ⟨(ad234.add ((x5_1).toNat * 19)).block,(ad234.add ((x5_1).toNat * 19)).off + 12,none⟩ = some (.string ((rd_T50 l0 x5_1).f4.f2)) ∧ w'.cell? ⟨(ad234.add ((x5_1).toNat * 19)).block,(ad234.add ((x5_1).toNat * 19)).off + 13,none⟩ = some (.slice A234_13 ((rd_T50 l0 x5_1).f4.f3).length c234_13) ∧ w'.cell? ⟨(ad234.add ((x5_1).toNat * 19)).block,(ad234.add ((x5_1).toNat * 19)).off + 14,none⟩ = some (.int .i64 ((rd_T50 l0 x5_1).f5.f0)) ∧ w'.cell? ⟨(ad234.add ((x5_1).toNat * 19)).block,(ad234.add ((x5_1).toNat * 19)).off + 15,none⟩ = some (.int .i64 ((rd_T50 l0 x5_1).f5.f1)) ∧ w'.cell? ⟨(ad234.add ((x5_1).toNat * 19)).block,(ad234.add ((x5_1).toNat * 19)).off + 16,none⟩ = some (.string ((rd_T50 l0 x5_1).f5.f2)) ∧ w'.cell? ⟨(ad234.add ((x5_1).toNat * 19)).block,(ad234.add ((x5_1).toNat * 19)).off + 17,none⟩ = some (.slice A234_17 ((rd_T50 l0 x5_1).f5.f3).length c234_17) ∧ w'.cell? ⟨(ad234.add ((x5_1).toNat * 19)).block,(ad234.add ((x5_1).toNat * 19)).off + 18,none⟩ = some (.slice A234_18 ((rd_T50 l0 x5_1).f6).length c234_18) ∧ w'.cell? (ad235.add ((x5_1).toNat * 19)) = some (.int .i64 ((rd_T50 l1 x5_1).f0)) ∧ w'.cell? ⟨(ad235.add ((x5_1).toNat * 19)).block,(ad235.add ((x5_1).toNat * 19)).off + 1,none⟩ = some (.string ((rd_T50 l1 x5_1).f1)) ∧ w'.cell? ⟨(ad235.add ((x5_1).toNat * 19)).block,(ad235.add ((x5_1).toNat * 19)).off + 2,none⟩ = some (.int .i64 ((rd_T50 l1 x5_1).f2.f0)) ∧ w'.cell? ⟨(ad235.add ((x5_1).toNat * 19)).block,(ad235.add ((x5_1).toNat * 19)).off + 3,none⟩ = some (.int .i64 ((rd_T50 l1 x5_1).f2.f1)) ∧ w'.cell? ⟨(ad235.add ((x5_1).toNat * 19)).block,(ad235.add ((x5_1).toNat * 19)).off + 4,none⟩ = some (.string ((rd_T50 l1 x5_1).f2.f2)) ∧ w'.cell? ⟨(ad235.add ((x5_1).toNat * 19)).block,(ad235.add ((x5_1).toNat * 19)).off + 5,none⟩ = some (.slice A235_5 ((rd_T50 l1 x5_1).f2.f3).length c235_5) ∧ w'.cell? ⟨(ad235.add ((x5_1).toNat * 19)).block,(ad235.add ((x5_1).toNat * 19)).off + 6,none⟩ = some (.int .i64 ((rd_T50 l1 x5_1).f3.f0)) ∧ w'.cell? ⟨(ad235.add ((x5_1).toNat * 19)).block,(ad235.add ((x5_1).toNat * 19)).off + 7,none⟩ = some (.int .i64 ((rd_T50 l1 x5_1).f3.f1)) ∧ w'.cell? ⟨(ad235.add ((x5_1).toNat * 19)).block,(ad235.add ((x5_1).toNat * 19)).off + 8,none⟩ = some (.string ((rd_T50 l1 x5_1).f3.f2)) ∧ w'.cell? ⟨(ad235.add ((x5_1).toNat * 19)).block,(ad235.add ((x5_1).toNat * 19)).off + 9,none⟩ = some (.slice A235_9 ((rd_T50 l1 x5_1).f3.f3).length c235_9) ∧ w'.cell? ⟨(ad235.add ((x5_1).toNat * 19)).block,(ad235.add ((x5_1).toNat * 19)).off + 10,none⟩ = some (.int .i64 ((rd_T50 l1 x5_1).f4.f0)) ∧ w'.cell? ⟨(ad235.add ((x5_1).toNat * 19)).block,(ad235.add ((x5_1).toNat * 19)).off + 11,none⟩ = some (.int .i64 ((rd_T50 l1 x5_1).f4.f1)) ∧ w'.cell? ⟨(ad235.add ((x5_1).toNat * 19)).block,(ad235.add ((x5_1).toNat * 19)).off + 12,none⟩ = some (.string ((rd_T50 l1 x5_1).f4.f2)) ∧ w'.cell? ⟨(ad235.add ((x5_1).toNat * 19)).block,(ad235.add ((x5_1).toNat * 19)).off + 13,none⟩ = some (.slice A235_13 ((rd_T50 l1 x5_1).f4.f3).length c235_13) ∧ w'.cell? ⟨(ad235.add ((x5_1).toNat * 19)).block,(ad235.add ((x5_1).toNat * 19)).off + 14,none⟩ = some (.int .i64 ((rd_T50 l1 x5_1).f5.f0)) ∧ w'.cell? ⟨(ad235.add ((x5_1).toNat * 19)).block,(ad235.add ((x5_1).toNat * 19)).off + 15,none⟩ = some (.int .i64 ((rd_T50 l1 x5_1).f5.f1)) ∧ w'.cell? ⟨(ad235.add ((x5_1).toNat * 19)).block,(ad235.add ((x5_1).toNat * 19)).off + 16,none⟩ = some (.string ((rd_T50 l1 x5_1).f5.f2)) ∧ w'.cell? ⟨(ad235.add ((x5_1).toNat * 19)).block,(ad235.add ((x5_1).toNat * 19)).off + 17,none⟩ = some (.slice A235_17 ((rd_T50 l1 x5_1).f5.f3).length c235_17) ∧ w'.cell? ⟨(ad235.add ((x5_1).toNat * 19)).block,(ad235.add ((x5_1).toNat * 19)).off + 18,none⟩ = some (.slice A235_18 ((rd_T50 l1 x5_1).f6).length c235_18)) (ds := []) #[false,false,false,false,false,false,false,false,false,false] (by kernel_rfl) rfl rfl ⟨((HB.out.cell (World.block_lt_of_cell? w _ hw234_0)).trans hw234_0),((HB.out.cell (World.block_lt_of_cell? w _ hw234_1)).trans hw234_1),((HB.out.cell (World.block_lt_of_cell? w _ hw234_2)).trans hw234_2),((HB.out.cell (World.block_lt_of_cell? w _ hw234_3)).trans hw234_3),((HB.out.cell (World.block_lt_of_cell? w _ hw234_4)).trans hw234_4),((HB.out.cell (World.block_lt_of_cell? w _ hw234_5)).trans hw234_5),((HB.out.cell (World.block_lt_of_cell? w _ hw234_6)).trans hw234_6),((HB.out.cell (World.block_lt_of_cell? w _ hw234_7)).trans hw234_7),((HB.out.cell (World.block_lt_of_cell? w _ hw234_8)).trans hw234_8),((HB.out.cell (World.block_lt_of_cell? w _ hw234_9)).trans hw234_9),((HB.out.cell (World.block_lt_of_cell? w _ hw234_10)).trans hw234_10),((HB.out.cell (World.block_lt_of_cell? w _ hw234_11)).trans hw234_11),((HB.out.cell (World.block_lt_of_cell? w _ hw234_12)).trans hw234_12),((HB.out.cell (World.block_lt_of_cell? w _ hw234_13)).trans hw234_13),((HB.out.cell (World.block_lt_of_cell? w _ hw234_14)).trans hw234_14),((HB.out.cell (World.block_lt_of_cell? w _ hw234_15)).trans hw234_15),((HB.out.cell (World.block_lt_of_cell? w _ hw234_16)).trans hw234_16),((HB.out.cell (World.block_lt_of_cell? w _ hw234_17)).trans hw234_17),((HB.out.cell (World.block_lt_of_cell? w _ hw234_18)).trans hw234_18),((HB.out.cell (World.block_lt_of_cell? w _ hw235_0)).trans hw235_0),((HB.out.cell (World.block_lt_of_cell? w _ hw235_1)).trans hw235_1),((HB.out.cell (World.block_lt_of_cell? w _ hw235_2)).trans hw235_2),((HB.out.cell (World.block_lt_of_cell? w _ hw235_3)).trans hw235_3),((HB.out.cell (World.block_lt_of_cell? w _ hw235_4)).trans hw235_4),((HB.out.cell (World.block_lt_of_cell? w _ hw235_5)).trans hw235_5),((HB.out.cell (World.block_lt_of_cell? w _ hw235_6)).trans hw235_6),((HB.out.cell (World.block_lt_of_cell? w _ hw235_7)).trans hw235_7),((HB.out.cell (World.block_lt_of_cell? w _ hw235_8)).trans hw235_8),((HB.out.cell (World.block_lt_of_cell? w _ hw235_9)).trans hw235_9),((HB.out.cell (World.block_lt_of_cell? w _ hw235_10)).trans hw235_10),((HB.out.cell (World.block_lt_of_cell? w _ hw235_11)).trans hw235_11),((HB.out.cell (World.block_lt_of_cell? w _ hw235_12)).trans hw235_12),((HB.out.cell (World.block_lt_of_cell? w _ hw235_13)).trans hw235_13),((HB.out.cell (World.block_lt_of_cell? w _ hw235_14)).trans hw235_14),((HB.out.cell (World.block_lt_of_cell? w _ hw235_15)).trans hw235_15),((HB.out.cell (World.block_lt_of_cell? w _ hw235_16)).trans hw235_16),((HB.out.cell (World.block_lt_of_cell? w _ hw235_17)).trans hw235_17),((HB.out.cell (World.block_lt_of_cell? w _ hw235_18)).trans hw235_18)⟩ (fun hHeld => ?_);refine with_tabW laws_eqStmtS.tab6 laws_eqStmtS.bits6 (fun HT_ HW_ => ?_)
        generalize wr.drew = w11 at HB HR234_13 HR234_17 HR234_18 HR234_5 HR234_9 HR235_13 HR235_17 HR235_18 HR235_5 HR235_9 hx234_0 hx234_1 hx234_10 hx234_11 hx234_12 hx234_13 hx234_14 hx234_15 hx234_16 hx234_17 hx234_18 hx234_2 hx234_3 hx234_4 hx234_5 hx234_6 hx234_7 hx234_8 hx234_9 hx235_0 hx235_1 hx235_10 hx235_11 hx235_12 hx235_13 hx235_14 hx235_15 hx235_16 hx235_17 hx235_18 hx235_2 hx235_3 hx235_4 hx235_5 hx235_6 hx235_7 hx235_8 hx235_9 hHeld ⊢
        refine pure_ (i := 0) (N := some 17) (v := ?_) (a' := ?_) #[true,false,false,false,false,false,false,false,false,false] rfl rfl (any_of HT_.out (by kernel_rfl)) (fun _ _ _ h => h) (Or.inl ⟨by rfl,?_⟩) ?_ ?_
        rotate_left
        ·intro w'
         go_simp
         with_reducible rfl
        rotate_left
        ·simp only [Act.put,List.setIfInBounds_toArray,List.set_cons_zero,List.set_cons_succ,i64_w,i32_w]
         rfl
        refine pure_ (i := 1) (N := some 18) (v := ?_) (a' := ?_) #[true,true,false,false,false,false,false,false,false,false] rfl rfl (any_of HT_.out (by kernel_rfl)) (fun _ _ _ h => h) (Or.inl ⟨by rfl,?_⟩) ?_ ?_
        rotate_left
        ·intro w'
         go_simp
         with_reducible rfl
        rotate_left
        ·simp only [Act.put,List.setIfInBounds_toArray,List.set_cons_zero,List.set_cons_succ,i64_w,i32_w]
         rfl
        refine pure_ (i := 2) (N := some 19) (v := ?_) (a' := ?_) #[true,true,true,false,false,false,false,false,false,false] rfl rfl (any_of HT_.out (by kernel_rfl)) (fun _ _ _ h => h) (Or.inl ⟨by rfl,?_⟩) ?_ ?_
        rotate_left
        ·intro w'
         go_simp
         with_reducible rfl
        rotate_left
        ·simp only [Act.put,List.setIfInBounds_toArray,List.set_cons_zero,List.set_cons_succ,i64_w,i32_w]
         rfl
        refine pure_ (i := 4) (N := some 21) (v := ?_) (a' := ?_) #[true,true,true,false,true,false,false,false,false,false] rfl rfl (any_of HT_.out (by kernel_rfl)) (fun _ _ _ h => h) (Or.inl ⟨by rfl,?_⟩) ?_ ?_
        rotate_left
        ·intro w'
         go_simp
         with_reducible rfl
        rotate_left
        ·simp only [Act.put,List.setIfInBounds_toArray,List.set_cons_zero,List.set_cons_succ,i64_w,i32_w]
         rfl
        refine pure_ (i := 5) (N := some 22) (v := ?_) (a' := ?_) #[true,true,true,false,true,true,false,false,false,false] rfl rfl (any_of HT_.out (by kernel_rfl)) (fun _ _ _ h => h) (Or.inl ⟨by rfl,?_⟩) ?_ ?_
        rotate_left
        ·intro w'
         go_simp
         with_reducible rfl
        rotate_left
        ·simp only [Act.put,List.setIfInBounds_toArray,List.set_cons_zero,List.set_cons_succ,i64_w,i32_w]
         rfl
        refine pure_ (i := 6) (N := some 23) (v := ?_) (a' := ?_) #[true,true,true,false,true,true,true,false,false,false] rfl rfl (any_of HT_.out (by kernel_rfl)) (fun _ _ _ h => h) (Or.inl ⟨by rfl,?_⟩) ?_ ?_
        rotate_left
        ·intro w'
         go_simp
         with_reducible rfl
        rotate_left
        ·simp only [Act.put,List.setIfInBounds_toArray,List.set_cons_zero,List.set_cons_succ,i64_w,i32_w]
         rfl
        refine take_ (i := 3) (N := some 20) (v := ?_) (a' := ?_) #[true,true,true,true,true,true,true,false,false,false] rfl rfl (take_ofW HT_.out HW_.out (by kernel_rfl)) (fun _ _ _ h => h) (Or.inl ⟨by rfl,?_⟩) hHeld ?_ ?_
        rotate_left
        ·rintro w' ⟨s0,s1,s2,s3,s4,s5,s6,s7,s8,s9,s10,s11,s12,s13,s14,s15,s16,s17,s18,s19,s20,s21,s22,s23,s24,s25,s26,s27,s28,s29,s30,s31,s32,s33,s34,s35,s36,s37⟩
         first|(refine ldRun 50 ?x490_0 ?ho490_0 _ ?hx490_0 _ (row19 s0 s1 s2 s3 s4 s5 s6 s7 s8 s9 s10 s11 s12 s13 s14 s15 s16 s17 s18) _ Try.underlying50 (by kernel_rfl);(case ho490_0 => rfl);(case hx490_0 => rfl))|(refine ldRun 50 ?x490_19 ?ho490_19 _ ?hx490_19 _ (row19 s19 s20 s21 s22 s23 s24 s25 s26 s27 s28 s29 s30 s31 s32 s33 s34 s35 s36 s37) _ Try.underlying50 (by kernel_rfl);(case ho490_19 => rfl);(case hx490_19 => rfl))
        rotate_left
        ·simp only [Act.put,List.setIfInBounds_toArray,List.set_cons_zero,List.set_cons_succ,i64_w,i32_w]
         rfl
        refine take_ (i := 7) (N := some 24) (v := ?_) (a' := ?_) #[true,true,true,true,true,true,true,true,false,false] rfl rfl (take_ofW HT_.out HW_.out (by kernel_rfl)) (fun _ _ _ h => h) (Or.inl ⟨by rfl,?_⟩) hHeld ?_ ?_
        rotate_left
        ·rintro w' ⟨s0,s1,s2,s3,s4,s5,s6,s7,s8,s9,s10,s11,s12,s13,s14,s15,s16,s17,s18,s19,s20,s21,s22,s23,s24,s25,s26,s27,s28,s29,s30,s31,s32,s33,s34,s35,s36,s37⟩
         first|(refine ldRun 50 ?x498_0 ?ho498_0 _ ?hx498_0 _ (row19 s0 s1 s2 s3 s4 s5 s6 s7 s8 s9 s10 s11 s12 s13 s14 s15 s16 s17 s18) _ Try.underlying50 (by kernel_rfl);(case ho498_0 => rfl);(case hx498_0 => rfl))|(refine ldRun 50 ?x498_19 ?ho498_19 _ ?hx498_19 _ (row19 s19 s20 s21 s22 s23 s24 s25 s26 s27 s28 s29 s30 s31 s32 s33 s34 s35 s36 s37) _ Try.underlying50 (by kernel_rfl);(case ho498_19 => rfl);(case hx498_19 => rfl))
        rotate_left
        ·simp only [Act.put,List.setIfInBounds_toArray,List.set_cons_zero,List.set_cons_succ,i64_w,i32_w]
         rfl
        refine one_ (i := 8) (N := some 25) #[true,true,true,true,true,true,true,true,true,false] rfl rfl (one_of HT_.out (by kernel_rfl)) (by decide) (fun K hK => ?_)
        refine goes_ Try.func26 (by kernel_rfl) rfl #[.agg #[.int .i64 ((rd_T50 l0 x5_1).f0),.string ((rd_T50 l0 x5_1).f1),.int .i64 ((rd_T50 l0 x5_1).f2.f0),.int .i64 ((rd_T50 l0 x5_1).f2.f1),.string ((rd_T50 l0 x5_1).f2.f2),.slice A234_5 ((rd_T50 l0 x5_1).f2.f3).length c234_5,.int .i64 ((rd_T50 l0 x5_1).f3.f0),.int .i64 ((rd_T50 l0 x5_1).f3.f1),.string ((rd_T50 l0 x5_1).f3.f2),.slice A234_9 ((rd_T50 l0 x5_1).f3.f3).length c234_9,.int .i64 ((rd_T50 l0 x5_1).f4.f0),.int .i64 ((rd_T50 l0 x5_1).f4.f1),.string ((rd_T50 l0 x5_1).f4.f2),.slice A234_13 ((rd_T50 l0 x5_1).f4.f3).length c234_13,.int .i64 ((rd_T50 l0 x5_1).f5.f0),.int .i64 ((rd_T50 l0 x5_1).f5.f1),.string ((rd_T50 l0 x5_1).f5.f2),.slice A234_17 ((rd_T50 l0 x5_1).f5.f3).length c234_17,.slice A234_18 ((rd_T50 l0 x5_1).f6).length c234_18],.agg #[.int .i64 ((rd_T50 l1 x5_1).f0),.string ((rd_T50 l1 x5_1).f1),.int .i64 ((rd_T50 l1 x5_1).f2.f0),.int .i64 ((rd_T50 l1 x5_1).f2.f1),.string ((rd_T50 l1 x5_1).f2.f2),.slice A235_5 ((rd_T50 l1 x5_1).f2.f3).length c235_5,.int .i64 ((rd_T50 l1 x5_1).f3.f0),.int .i64 ((rd_T50 l1 x5_1).f3.f1),.string ((rd_T50 l1 x5_1).f3.f2),.slice A235_9 ((rd_T50 l1 x5_1).f3.f3).length c235_9,.int .i64 ((rd_T50 l1 x5_1).f4.f0),.int .i64 ((rd_T50 l1 x5_1).f4.f1),.string ((rd_T50 l1 x5_1).f4.f2),.slice A235_13 ((rd_T50 l1 x5_1).f4.f3).length c235_13,.int .i64 ((rd_T50 l1 x5_1).f5.f0),.int .i64 ((rd_T50 l1 x5_1).f5.f1),.string ((rd_T50 l1 x5_1).f5.f2),.slice A235_17 ((rd_T50 l1 x5_1).f5.f3).length c235_17,.slice A235_18 ((rd_T50 l1 x5_1).f6).length c235_18]] (by rfl) rfl rfl (by (try simp only [List.map_toArray,List.map_cons,List.map_nil]);first|done|rfl) ?_
        with_reducible refine (IH.out k1 (by have := HK1.out;omega) ((rd_T50 l0 x5_1).f0) ((rd_T50 l0 x5_1).f1) ((rd_T50 l0 x5_1).f2.f0) ((rd_T50 l0 x5_1).f2.f1) ((rd_T50 l0 x5_1).f2.f2) _ _ ((rd_T50 l0 x5_1).f2.f3) ((rd_T50 l0 x5_1).f3.f0) ((rd_T50 l0 x5_1).f3.f1) ((rd_T50 l0 x5_1).f3.f2) _ _ ((rd_T50 l0 x5_1).f3.f3) ((rd_T50 l0 x5_1).f4.f0) ((rd_T50 l0 x5_1).f4.f1) ((rd_T50 l0 x5_1).f4.f2) _ _ ((rd_T50 l0 x5_1).f4.f3) ((rd_T50 l0 x5_1).f5.f0) ((rd_T50 l0 x5_1).f5.f1) ((rd_T50 l0 x5_1).f5.f2) _ _ ((rd_T50 l0 x5_1).f5.f3) _ _ ((rd_T50 l0 x5_1).f6) ((rd_T50 l1 x5_1).f0) ((rd_T50 l1 x5_1).f1) ((rd_T50 l1 x5_1).f2.f0) ((rd_T50 l1 x5_1).f2.f1) ((rd_T50 l1 x5_1).f2.f2) _ _ ((rd_T50 l1 x5_1).f2.f3) ((rd_T50 l1 x5_1).f3.f0) ((rd_T50 l1 x5_1).f3.f1) ((rd_T50 l1 x5_1).f3.f2) _ _ ((rd_T50 l1 x5_1).f3.f3) ((rd_T50 l1 x5_1).f4.f0) ((rd_T50 l1 x5_1).f4.f1) ((rd_T50 l1 x5_1).f4.f2) _ _ ((rd_T50 l1 x5_1).f4.f3) ((rd_T50 l1 x5_1).f5.f0) ((rd_T50 l1 x5_1).f5.f1) ((rd_T50 l1 x5_1).f5.f2) _ _ ((rd_T50 l1 x5_1).f5.f3) _ _ ((rd_T50 l1 x5_1).f6) false _ ?side1 ?side2 ?side3 ?side4 ?side5 ?side6 ?side7 ?side8 ?side9 ?side10 ?side11 ?side12 ?side13 ?side14 ?side15 ?side16 ?side17 ?side18 ?side19 ?side20 A7.out).mono ?_
        (case side1 => repeat (first|exact (Kd.C_below HR234_5.out HB.out)|(with_reducible refine cA ?_ _)|(with_reducible refine cN ?_ _)|(with_reducible refine cD ?_)))
        (case side2 => exact HC234_5.out)
        (case side3 => repeat (first|exact (Kd.C_below HR234_9.out HB.out)|(with_reducible refine cA ?_ _)|(with_reducible refine cN ?_ _)|(with_reducible refine cD ?_)))
        (case side4 => exact HC234_9.out)
        (case side5 => repeat (first|exact (Kd.C_below HR234_13.out HB.out)|(with_reducible refine cA ?_ _)|(with_reducible refine cN ?_ _)|(with_reducible refine cD ?_)))
        (case side6 => exact HC234_13.out)
        (case side7 => repeat (first|exact (Kd.C_below HR234_17.out HB.out)|(with_reducible refine cA ?_ _)|(with_reducible refine cN ?_ _)|(with_reducible refine cD ?_)))
        (case side8 => exact HC234_17.out)
        (case side9 => repeat (first|exact (Kd.C_below HR234_18.out HB.out)|(with_reducible refine cA ?_ _)|(with_reducible refine cN ?_ _)|(with_reducible refine cD ?_)))
        (case side10 => exact HC234_18.out)
        (case side11 => repeat (first|exact (Kd.C_below HR235_5.out HB.out)|(with_reducible refine cA ?_ _)|(with_reducible refine cN ?_ _)|(with_reducible refine cD ?_)))
        (case side12 => exact HC235_5.out)
        (case side13 => repeat (first|exact (Kd.C_below HR235_9.out HB.out)|(with_reducible refine cA ?_ _)|(with_reducible refine cN ?_ _)|(with_reducible refine cD ?_)))
        (case side14 => exact HC235_9.out)
        (case side15 => repeat (first|exact (Kd.C_below HR235_13.out HB.out)|(with_reducible refine cA ?_ _)|(with_reducible refine cN ?_ _)|(with_reducible refine cD ?_)))
        (case side16 => exact HC235_13.out)
        (case side17 => repeat (first|exact (Kd.C_below HR235_17.out HB.out)|(with_reducible refine cA ?_ _)|(with_reducible refine cN ?_ _)|(with_reducible refine cD ?_)))
        (case side18 => exact HC235_17.out)
        (case side19 => repeat (first|exact (Kd.C_below HR235_18.out HB.out)|(with_reducible refine cA ?_ _)|(with_reducible refine cN ?_ _)|(with_reducible refine cD ?_)))
        (case side20 => exact HC235_18.out)
        rintro e w12 ⟨rfl,hb⟩
        refine ⟨_,rfl,?_⟩
        have n0_ := mk0 (below_step (by repeat (first|(with_reducible first|exact HB.out|apply bA|apply bN|apply bD)|exact HB.out)) hb)
        clear HB
        have HB := n0_
        clear n0_
        (try clear hb)
        (try clear hb2)
        (try clear hk)
        (try clear hi)
        refine hK.out _ _ ⟨((HB.out.cell (World.block_lt_of_cell? w _ hw234_0)).trans hw234_0),((HB.out.cell (World.block_lt_of_cell? w _ hw234_1)).trans hw234_1),((HB.out.cell (World.block_lt_of_cell? w _ hw234_2)).trans hw234_2),((HB.out.cell (World.block_lt_of_cell? w _ hw234_3)).trans hw234_3),((HB.out.cell (World.block_lt_of_cell? w _ hw234_4)).trans hw234_4),((HB.out.cell (World.block_lt_of_cell? w _ hw234_5)).trans hw234_5),((HB.out.cell (World.block_lt_of_cell? w _ hw234_6)).trans hw234_6),((HB.out.cell (World.block_lt_of_cell? w _ hw234_7)).trans hw234_7),((HB.out.cell (World.block_lt_of_cell? w _ hw234_8)).trans hw234_8),((HB.out.cell (World.block_lt_of_cell? w _ hw234_9)).trans hw234_9),((HB.out.cell (World.block_lt_of_cell? w _ hw234_10)).trans hw234_10),((HB.out.cell (World.block_lt_of_cell? w _ hw234_11)).trans hw234_11),((HB.out.cell (World.block_lt_of_cell? w _ hw234_12)).trans hw234_12),((HB.out.cell (World.block_lt_of_cell? w _ hw234_13)).trans hw234_13),((HB.out.cell (World.block_lt_of_cell? w _ hw234_14)).trans hw234_14),((HB.out.cell (World.block_lt_of_cell? w _ hw234_15)).trans hw234_15),((HB.out.cell (World.block_lt_of_cell? w _ hw234_16)).trans hw234_16),((HB.out.cell (World.block_lt_of_cell? w _ hw234_17)).trans hw234_17),((HB.out.cell (World.block_lt_of_cell? w _ hw234_18)).trans hw234_18),((HB.out.cell (World.block_lt_of_cell? w _ hw235_0)).trans hw235_0),((HB.out.cell (World.block_lt_of_cell? w _ hw235_1)).trans hw235_1),((HB.out.cell (World.block_lt_of_cell? w _ hw235_2)).trans hw235_2),((HB.out.cell (World.block_lt_of_cell? w _ hw235_3)).trans hw235_3),((HB.out.cell (World.block_lt_of_cell? w _ hw235_4)).trans hw235_4),((HB.out.cell (World.block_lt_of_cell? w _ hw235_5)).trans hw235_5),((HB.out.cell (World.block_lt_of_cell? w _ hw235_6)).trans hw235_6),((HB.out.cell (World.block_lt_of_cell? w _ hw235_7)).trans hw235_7),((HB.out.cell (World.block_lt_of_cell? w _ hw235_8)).trans hw235_8),((HB.out.cell (World.block_lt_of_cell? w _ hw235_9)).trans hw235_9),((HB.out.cell (World.block_lt_of_cell? w _ hw235_10)).trans hw235_10),((HB.out.cell (World.block_lt_of_cell? w _ hw235_11)).trans hw235_11),((HB.out.cell (World.block_lt_of_cell? w _ hw235_12)).trans hw235_12),((HB.out.cell (World.block_lt_of_cell? w _ hw235_13)).trans hw235_13),((HB.out.cell (World.block_lt_of_cell? w _ hw235_14)).trans hw235_14),((HB.out.cell (World.block_lt_of_cell? w _ hw235_15)).trans hw235_15),((HB.out.cell (World.block_lt_of_cell? w _ hw235_16)).trans hw235_16),((HB.out.cell (World.block_lt_of_cell? w _ hw235_17)).trans hw235_17),((HB.out.cell (World.block_lt_of_cell? w _ hw235_18)).trans hw235_18)⟩ (fun hHeld => ?_)
        clear hK K
        refine norm_ (a' := ?_) ?_ ?_
        rotate_left
        ·show Act.put _ (some 25) _ = _
         simp only [Act.put,List.setIfInBounds_toArray,List.set_cons_zero,List.set_cons_succ,i64_w,i32_w]
         rfl
        refine pure_ (i := 9) (N := some 26) (v := ?_) (a' := ?_) #[true,true,true,true,true,true,true,true,true,true] rfl rfl (any_of HT_.out (by kernel_rfl)) (fun _ _ _ h => h) (Or.inl ⟨by rfl,?_⟩) ?_ ?_
        rotate_left
        ·intro w'
         go_simp
         with_reducible rfl
        rotate_left
        ·simp only [Act.put,List.setIfInBounds_toArray,List.set_cons_zero,List.set_cons_succ,i64_w,i32_w]
         rfl
        refine done_ (done_of HT_.out (by kernel_rfl)) ?_
        try go_wp2_with (first|((with_reducible refine gate_dst (N := 20) rfl ?_);first|(refine ldRow rfl 50 _ rfl _ rfl _ (row19 hx234_0 hx234_1 hx234_2 hx234_3 hx234_4 hx234_5 hx234_6 hx234_7 hx234_8 hx234_9 hx234_10 hx234_11 hx234_12 hx234_13 hx234_14 hx234_15 hx234_16 hx234_17 hx234_18) _ Try.underlying50 (by kernel_rfl) ?_)|(refine ldRow rfl 50 _ rfl _ rfl _ (row19 hx235_0 hx235_1 hx235_2 hx235_3 hx235_4 hx235_5 hx235_6 hx235_7 hx235_8 hx235_9 hx235_10 hx235_11 hx235_12 hx235_13 hx235_14 hx235_15 hx235_16 hx235_17 hx235_18) _ Try.underlying50 (by kernel_rfl) ?_))|((with_reducible refine gate_dst (N := 24) rfl ?_);first|(refine ldRow rfl 50 _ rfl _ rfl _ (row19 hx234_0 hx234_1 hx234_2 hx234_3 hx234_4 hx234_5 hx234_6 hx234_7 hx234_8 hx234_9 hx234_10 hx234_11 hx234_12 hx234_13 hx234_14 hx234_15 hx234_16 hx234_17 hx234_18) _ Try.underlying50 (by kernel_rfl) ?_)|(refine ldRow rfl 50 _ rfl _ rfl _ (row19 hx235_0 hx235_1 hx235_2 hx235_3 hx235_4 hx235_5 hx235_6 hx235_7 hx235_8 hx235_9 hx235_10 hx235_11 hx235_12 hx235_13 hx235_14 hx235_15 hx235_16 hx235_17 hx235_18) _ Try.underlying50 (by kernel_rfl) ?_)))
        go_ret
        exact ⟨by first|rfl|(simp [errW_none,errW_some] <;> rfl)|(simp [*,errW_none,errW_some] <;> rfl),by repeat (first|(with_reducible first|exact HB.out|apply bA|apply bN|apply bD)|exact HB.out)⟩
      ·rw [if_neg c6] at H
       exact absurd H (by simp)
     ·rw [if_neg c5] at H
      exact absurd H (by simp)
    ·rw [if_neg c4] at H
     have c4b0 : decide (x5_1 < (l0.length : Int)) = false := decide_eq_false c4
     clear c4
     obtain rfl := Option.some.inj H
     go_wp2
     go_ret
     exact ⟨by first|rfl|(simp [errW_none,errW_some] <;> rfl)|(simp [*,errW_none,errW_some] <;> rfl),by repeat (first|(with_reducible first|exact HB.out|apply bA|apply bN|apply bD)|exact HB.out)⟩
 ·rw [if_neg c3] at H
  have c3b0 : ((l0.length : Int) == (l1.length : Int)) = false := beq_eq_false_iff_ne.mpr c3
  have c3b1 : ((l0.length : Int) != (l1.length : Int)) = true := bne_iff_ne.mpr c3
  have c3b2 : (l0.length == l1.length) = false := by first|simpa using c3|(simp at c3 ⊢;omega)
  obtain rfl := Option.some.inj H
  go_enter Try.func61,Try.ntmps61
  go_wp2
  go_ret
  exact ⟨by first|rfl|(simp [errW_none,errW_some] <;> rfl)|(simp [*,errW_none,errW_some] <;> rfl),by repeat (first|(with_reducible first|exact HB.out|apply bA|apply bN|apply bD)|exact HB.out)⟩
theorem laws_eqStmt_eqStmtS_both.calls : ∀ k, (∀ (a0_0 : Int) (a0_1 : ByteArray) (a0_2 : Int) (a0_3 : Int) (a0_4 : ByteArray) (A0_5 : Option Addr) (c0_5 : Nat) (l0_5 : List (S29)) (a0_6 : Int) (a0_7 : Int) (a0_8 : ByteArray) (A0_9 : Option Addr) (c0_9 : Nat) (l0_9 : List (S29)) (a0_10 : Int) (a0_11 : Int) (a0_12 : ByteArray) (A0_13 : Option Addr) (c0_13 : Nat) (l0_13 : List (S29)) (a0_14 : Int) (a0_15 : Int) (a0_16 : ByteArray) (A0_17 : Option Addr) (c0_17 : Nat) (l0_17 : List (S29)) (A0_18 : Option Addr) (c0_18 : Nat) (l0_18 : List (S50)) (a1_0 : Int) (a1_1 : ByteArray) (a1_2 : Int) (a1_3 : Int) (a1_4 : ByteArray) (A1_5 : Option Addr) (c1_5 : Nat) (l1_5 : List (S29)) (a1_6 : Int) (a1_7 : Int) (a1_8 : ByteArray) (A1_9 : Option Addr) (c1_9 : Nat) (l1_9 : List (S29)) (a1_10 : Int) (a1_11 : Int) (a1_12 : ByteArray) (A1_13 : Option Addr) (c1_13 : Nat) (l1_13 : List (S29)) (a1_14 : Int) (a1_15 : Int) (a1_16 : ByteArray) (A1_17 : Option Addr) (c1_17 : Nat) (l1_17 : List (S29)) (A1_18 : Option Addr) (c1_18 : Nat) (l1_18 : List (S50)) (r : Bool) (w : World) (hr0_5 : Kd.C k29 w A0_5 l0_5.length l0_5) (hc0_5 : l0_5.length ≤ c0_5) (hr0_9 : Kd.C k29 w A0_9 l0_9.length l0_9) (hc0_9 : l0_9.length ≤ c0_9) (hr0_13 : Kd.C k29 w A0_13 l0_13.length l0_13) (hc0_13 : l0_13.length ≤ c0_13) (hr0_17 : Kd.C k29 w A0_17 l0_17.length l0_17) (hc0_17 : l0_17.length ≤ c0_17) (hr0_18 : Kd.C k50 w A0_18 l0_18.length l0_18) (hc0_18 : l0_18.length ≤ c0_18) (hr1_5 : Kd.C k29 w A1_5 l1_5.length l1_5) (hc1_5 : l1_5.length ≤ c1_5) (hr1_9 : Kd.C k29 w A1_9 l1_9.length l1_9) (hc1_9 : l1_9.length ≤ c1_9) (hr1_13 : Kd.C k29 w A1_13 l1_13.length l1_13) (hc1_13 : l1_13.length ≤ c1_13) (hr1_17 : Kd.C k29 w A1_17 l1_17.length l1_17) (hc1_17 : l1_17.length ≤ c1_17) (hr1_18 : Kd.C k50 w A1_18 l1_18.length l1_18) (hc1_18 : l1_18.length ≤ c1_18) (h : laws_eqStmt.f k a0_0 a0_1 a0_2 a0_3 a0_4 l0_5 a0_6 a0_7 a0_8 l0_9 a0_10 a0_11 a0_12 l0_13 a0_14 a0_15 a0_16 l0_17 l0_18 a1_0 a1_1 a1_2 a1_3 a1_4 l1_5 a1_6 a1_7 a1_8 l1_9 a1_10 a1_11 a1_12 l1_13 a1_14 a1_15 a1_16 l1_17 l1_18 = some r),
   Calls Try.prog 26 #[.agg #[.int .i64 a0_0, .string a0_1, .int .i64 a0_2, .int .i64 a0_3, .string a0_4, .slice A0_5 l0_5.length c0_5, .int .i64 a0_6, .int .i64 a0_7, .string a0_8, .slice A0_9 l0_9.length c0_9, .int .i64 a0_10, .int .i64 a0_11, .string a0_12, .slice A0_13 l0_13.length c0_13, .int .i64 a0_14, .int .i64 a0_15, .string a0_16, .slice A0_17 l0_17.length c0_17, .slice A0_18 l0_18.length c0_18], .agg #[.int .i64 a1_0, .string a1_1, .int .i64 a1_2, .int .i64 a1_3, .string a1_4, .slice A1_5 l1_5.length c1_5, .int .i64 a1_6, .int .i64 a1_7, .string a1_8, .slice A1_9 l1_9.length c1_9, .int .i64 a1_10, .int .i64 a1_11, .string a1_12, .slice A1_13 l1_13.length c1_13, .int .i64 a1_14, .int .i64 a1_15, .string a1_16, .slice A1_17 l1_17.length c1_17, .slice A1_18 l1_18.length c1_18]] w fun e w' => e = .returned (.bool r) ∧ Below w.heap.size w w') ∧ (∀ (A0 : Option Addr) (c0 : Nat) (l0 : List (S50)) (A1 : Option Addr) (c1 : Nat) (l1 : List (S50)) (r : Bool) (w : World) (hr0 : Kd.C k50 w A0 l0.length l0) (hc0 : l0.length ≤ c0) (hr1 : Kd.C k50 w A1 l1.length l1) (hc1 : l1.length ≤ c1) (h : laws_eqStmtS.f k l0 l1 = some r),
   Calls Try.prog 61 #[.slice A0 l0.length c0, .slice A1 l1.length c1] w fun e w' => e = .returned (.bool r) ∧ Below w.heap.size w w') := by
 intro k
 induction k using Nat.strongRecOn with
 |_ k ih =>
 exact ⟨fun a0_0 a0_1 a0_2 a0_3 a0_4 A0_5 c0_5 l0_5 a0_6 a0_7 a0_8 A0_9 c0_9 l0_9 a0_10 a0_11 a0_12 A0_13 c0_13 l0_13 a0_14 a0_15 a0_16 A0_17 c0_17 l0_17 A0_18 c0_18 l0_18 a1_0 a1_1 a1_2 a1_3 a1_4 A1_5 c1_5 l1_5 a1_6 a1_7 a1_8 A1_9 c1_9 l1_9 a1_10 a1_11 a1_12 A1_13 c1_13 l1_13 a1_14 a1_15 a1_16 A1_17 c1_17 l1_17 A1_18 c1_18 l1_18 r w hr0_5 hc0_5 hr0_9 hc0_9 hr0_13 hc0_13 hr0_17 hc0_17 hr0_18 hc0_18 hr1_5 hc1_5 hr1_9 hc1_9 hr1_13 hc1_13 hr1_17 hc1_17 hr1_18 hc1_18 h => laws_eqStmt.callsG k ⟨fun m hm => (ih m hm).2⟩ a0_0 a0_1 a0_2 a0_3 a0_4 A0_5 c0_5 l0_5 a0_6 a0_7 a0_8 A0_9 c0_9 l0_9 a0_10 a0_11 a0_12 A0_13 c0_13 l0_13 a0_14 a0_15 a0_16 A0_17 c0_17 l0_17 A0_18 c0_18 l0_18 a1_0 a1_1 a1_2 a1_3 a1_4 A1_5 c1_5 l1_5 a1_6 a1_7 a1_8 A1_9 c1_9 l1_9 a1_10 a1_11 a1_12 A1_13 c1_13 l1_13 a1_14 a1_15 a1_16 A1_17 c1_17 l1_17 A1_18 c1_18 l1_18 r w hr0_5 hc0_5 hr0_9 hc0_9 hr0_13 hc0_13 hr0_17 hc0_17 hr0_18 hc0_18 hr1_5 hc1_5 hr1_9 hc1_9 hr1_13 hc1_13 hr1_17 hc1_17 hr1_18 hc1_18 h,fun A0 c0 l0 A1 c1 l1 r w hr0 hc0 hr1 hc1 h => laws_eqStmtS.callsG k ⟨fun m hm => (ih m hm).1⟩ A0 c0 l0 A1 c1 l1 r w hr0 hc0 hr1 hc1 h⟩
theorem laws_eqStmt.calls (k : Nat) (a0_0 : Int) (a0_1 : ByteArray) (a0_2 : Int) (a0_3 : Int) (a0_4 : ByteArray) (A0_5 : Option Addr) (c0_5 : Nat) (l0_5 : List (S29)) (a0_6 : Int) (a0_7 : Int) (a0_8 : ByteArray) (A0_9 : Option Addr) (c0_9 : Nat) (l0_9 : List (S29)) (a0_10 : Int) (a0_11 : Int) (a0_12 : ByteArray) (A0_13 : Option Addr) (c0_13 : Nat) (l0_13 : List (S29)) (a0_14 : Int) (a0_15 : Int) (a0_16 : ByteArray) (A0_17 : Option Addr) (c0_17 : Nat) (l0_17 : List (S29)) (A0_18 : Option Addr) (c0_18 : Nat) (l0_18 : List (S50)) (a1_0 : Int) (a1_1 : ByteArray) (a1_2 : Int) (a1_3 : Int) (a1_4 : ByteArray) (A1_5 : Option Addr) (c1_5 : Nat) (l1_5 : List (S29)) (a1_6 : Int) (a1_7 : Int) (a1_8 : ByteArray) (A1_9 : Option Addr) (c1_9 : Nat) (l1_9 : List (S29)) (a1_10 : Int) (a1_11 : Int) (a1_12 : ByteArray) (A1_13 : Option Addr) (c1_13 : Nat) (l1_13 : List (S29)) (a1_14 : Int) (a1_15 : Int) (a1_16 : ByteArray) (A1_17 : Option Addr) (c1_17 : Nat) (l1_17 : List (S29)) (A1_18 : Option Addr) (c1_18 : Nat) (l1_18 : List (S50)) (r : Bool) (w : World) (hr0_5 : Kd.C k29 w A0_5 l0_5.length l0_5) (hc0_5 : l0_5.length ≤ c0_5) (hr0_9 : Kd.C k29 w A0_9 l0_9.length l0_9) (hc0_9 : l0_9.length ≤ c0_9) (hr0_13 : Kd.C k29 w A0_13 l0_13.length l0_13) (hc0_13 : l0_13.length ≤ c0_13) (hr0_17 : Kd.C k29 w A0_17 l0_17.length l0_17) (hc0_17 : l0_17.length ≤ c0_17) (hr0_18 : Kd.C k50 w A0_18 l0_18.length l0_18) (hc0_18 : l0_18.length ≤ c0_18) (hr1_5 : Kd.C k29 w A1_5 l1_5.length l1_5) (hc1_5 : l1_5.length ≤ c1_5) (hr1_9 : Kd.C k29 w A1_9 l1_9.length l1_9) (hc1_9 : l1_9.length ≤ c1_9) (hr1_13 : Kd.C k29 w A1_13 l1_13.length l1_13) (hc1_13 : l1_13.length ≤ c1_13) (hr1_17 : Kd.C k29 w A1_17 l1_17.length l1_17) (hc1_17 : l1_17.length ≤ c1_17) (hr1_18 : Kd.C k50 w A1_18 l1_18.length l1_18) (hc1_18 : l1_18.length ≤ c1_18) (h : laws_eqStmt.f k a0_0 a0_1 a0_2 a0_3 a0_4 l0_5 a0_6 a0_7 a0_8 l0_9 a0_10 a0_11 a0_12 l0_13 a0_14 a0_15 a0_16 l0_17 l0_18 a1_0 a1_1 a1_2 a1_3 a1_4 l1_5 a1_6 a1_7 a1_8 l1_9 a1_10 a1_11 a1_12 l1_13 a1_14 a1_15 a1_16 l1_17 l1_18 = some r) :
  Calls Try.prog 26 #[.agg #[.int .i64 a0_0, .string a0_1, .int .i64 a0_2, .int .i64 a0_3, .string a0_4, .slice A0_5 l0_5.length c0_5, .int .i64 a0_6, .int .i64 a0_7, .string a0_8, .slice A0_9 l0_9.length c0_9, .int .i64 a0_10, .int .i64 a0_11, .string a0_12, .slice A0_13 l0_13.length c0_13, .int .i64 a0_14, .int .i64 a0_15, .string a0_16, .slice A0_17 l0_17.length c0_17, .slice A0_18 l0_18.length c0_18], .agg #[.int .i64 a1_0, .string a1_1, .int .i64 a1_2, .int .i64 a1_3, .string a1_4, .slice A1_5 l1_5.length c1_5, .int .i64 a1_6, .int .i64 a1_7, .string a1_8, .slice A1_9 l1_9.length c1_9, .int .i64 a1_10, .int .i64 a1_11, .string a1_12, .slice A1_13 l1_13.length c1_13, .int .i64 a1_14, .int .i64 a1_15, .string a1_16, .slice A1_17 l1_17.length c1_17, .slice A1_18 l1_18.length c1_18]] w fun e w' => e = .returned (.bool r) ∧ Below w.heap.size w w' := (laws_eqStmt_eqStmtS_both.calls k).1 a0_0 a0_1 a0_2 a0_3 a0_4 A0_5 c0_5 l0_5 a0_6 a0_7 a0_8 A0_9 c0_9 l0_9 a0_10 a0_11 a0_12 A0_13 c0_13 l0_13 a0_14 a0_15 a0_16 A0_17 c0_17 l0_17 A0_18 c0_18 l0_18 a1_0 a1_1 a1_2 a1_3 a1_4 A1_5 c1_5 l1_5 a1_6 a1_7 a1_8 A1_9 c1_9 l1_9 a1_10 a1_11 a1_12 A1_13 c1_13 l1_13 a1_14 a1_15 a1_16 A1_17 c1_17 l1_17 A1_18 c1_18 l1_18 r w hr0_5 hc0_5 hr0_9 hc0_9 hr0_13 hc0_13 hr0_17 hc0_17 hr0_18 hc0_18 hr1_5 hc1_5 hr1_9 hc1_9 hr1_13 hc1_13 hr1_17 hc1_17 hr1_18 hc1_18 h

theorem laws_eqStmtS.calls (k : Nat) (A0 : Option Addr) (c0 : Nat) (l0 : List (S50)) (A1 : Option Addr) (c1 : Nat) (l1 : List (S50)) (r : Bool) (w : World) (hr0 : Kd.C k50 w A0 l0.length l0) (hc0 : l0.length ≤ c0) (hr1 : Kd.C k50 w A1 l1.length l1) (hc1 : l1.length ≤ c1) (h : laws_eqStmtS.f k l0 l1 = some r) :
  Calls Try.prog 61 #[.slice A0 l0.length c0, .slice A1 l1.length c1] w fun e w' => e = .returned (.bool r) ∧ Below w.heap.size w w' := (laws_eqStmt_eqStmtS_both.calls k).2 A0 c0 l0 A1 c1 l1 r w hr0 hc0 hr1 hc1 h

end Go.Proofs.Ytmmdgciefehbcaa.PFnExactSameStmt
