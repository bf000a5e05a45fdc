-- The functions of a law as plain Lean functions, each with its contract: written by a program of this session.
import Derived.Test.YtmmdgciefehbcaaPFnExactSameStmtx0
import Derived.Test.YtmmdgciefehbcaaPFnExactSameStmtx2
namespace Go.Proofs.Ytmmdgciefehbcaa.PFnExactSameStmt
open Go.RowKit Go.Proofs.YtmmdgciefehbcaaW.PrintWords Go.Proofs.YtmmdgciefehbcaaW.PrintLast Go.Proofs.YtmmdgciefehbcaaW.PrintMore
attribute [local go_sem] max2_int min2_int max_two min_two max_three min_three max_four min_four   -- for this text's walks alone
set_option linter.unusedVariables false
set_option linter.unusedSimpArgs false

/-! ### spec_SameStmt: function 23 -/
mutual
def spec_SameStmt.j0 : Nat → Bool → Int → ByteArray → Int → Int → ByteArray → List (S29) → Int → Int → ByteArray → List (S29) → Int → Int → ByteArray → List (S29) → Int → Int → ByteArray → List (S29) → List (S50) → Int → ByteArray → Int → Int → ByteArray → List (S29) → Int → Int → ByteArray → List (S29) → Int → Int → ByteArray → List (S29) → Int → Int → ByteArray → List (S29) → List (S50) → Option (Bool)
 | 0, _, _, _, _, _, _, _, _, _, _, _, _, _, _, _, _, _, _, _, _, _, _, _, _, _, _, _, _, _, _, _, _, _, _, _, _, _, _, _ => none
 | k + 1, x58, x119000, x119001, x119002, x119003, x119004, x119005, x119006, x119007, x119008, x119009, x119010, x119011, x119012, x119013, x119014, x119015, x119016, x119017, x119018, x120000, x120001, x120002, x120003, x120004, x120005, x120006, x120007, x120008, x120009, x120010, x120011, x120012, x120013, x120014, x120015, x120016, x120017, x120018 => if x58 = true then (some false) else (spec_SameStmt.l0 k 0 x119000 x119001 x119002 x119003 x119004 x119005 x119006 x119007 x119008 x119009 x119010 x119011 x119012 x119013 x119014 x119015 x119016 x119017 x119018 x120000 x120001 x120002 x120003 x120004 x120005 x120006 x120007 x120008 x120009 x120010 x120011 x120012 x120013 x120014 x120015 x120016 x120017 x120018)
def spec_SameStmt.l0 : Nat → Int → Int → ByteArray → Int → Int → ByteArray → List (S29) → Int → Int → ByteArray → List (S29) → Int → Int → ByteArray → List (S29) → Int → Int → ByteArray → List (S29) → List (S50) → Int → ByteArray → Int → Int → ByteArray → List (S29) → Int → Int → ByteArray → List (S29) → Int → Int → ByteArray → List (S29) → Int → Int → ByteArray → List (S29) → List (S50) → Option (Bool)
 | 0, _, _, _, _, _, _, _, _, _, _, _, _, _, _, _, _, _, _, _, _, _, _, _, _, _, _, _, _, _, _, _, _, _, _, _, _, _, _, _ => none
 | k + 1, x5, x119000, x119001, x119002, x119003, x119004, x119005, x119006, x119007, x119008, x119009, x119010, x119011, x119012, x119013, x119014, x119015, x119016, x119017, x119018, x120000, x120001, x120002, x120003, x120004, x120005, x120006, x120007, x120008, x120009, x120010, x120011, x120012, x120013, x120014, x120015, x120016, x120017, x120018 => if x5 < (x119018.length : Int) then (if 0 ≤ x5 then (if x5 < (x120018.length : Int) then ((spec_SameStmt.f k ((rd_T50 x119018 x5).f0) ((rd_T50 x119018 x5).f1) ((rd_T50 x119018 x5).f2.f0) ((rd_T50 x119018 x5).f2.f1) ((rd_T50 x119018 x5).f2.f2) ((rd_T50 x119018 x5).f2.f3) ((rd_T50 x119018 x5).f3.f0) ((rd_T50 x119018 x5).f3.f1) ((rd_T50 x119018 x5).f3.f2) ((rd_T50 x119018 x5).f3.f3) ((rd_T50 x119018 x5).f4.f0) ((rd_T50 x119018 x5).f4.f1) ((rd_T50 x119018 x5).f4.f2) ((rd_T50 x119018 x5).f4.f3) ((rd_T50 x119018 x5).f5.f0) ((rd_T50 x119018 x5).f5.f1) ((rd_T50 x119018 x5).f5.f2) ((rd_T50 x119018 x5).f5.f3) ((rd_T50 x119018 x5).f6) ((rd_T50 x120018 x5).f0) ((rd_T50 x120018 x5).f1) ((rd_T50 x120018 x5).f2.f0) ((rd_T50 x120018 x5).f2.f1) ((rd_T50 x120018 x5).f2.f2) ((rd_T50 x120018 x5).f2.f3) ((rd_T50 x120018 x5).f3.f0) ((rd_T50 x120018 x5).f3.f1) ((rd_T50 x120018 x5).f3.f2) ((rd_T50 x120018 x5).f3.f3) ((rd_T50 x120018 x5).f4.f0) ((rd_T50 x120018 x5).f4.f1) ((rd_T50 x120018 x5).f4.f2) ((rd_T50 x120018 x5).f4.f3) ((rd_T50 x120018 x5).f5.f0) ((rd_T50 x120018 x5).f5.f1) ((rd_T50 x120018 x5).f5.f2) ((rd_T50 x120018 x5).f5.f3) ((rd_T50 x120018 x5).f6)).bind fun t126 => (if t126 = true then (spec_SameStmt.l0 k (wrap64 (x5 + 1)) x119000 x119001 x119002 x119003 x119004 x119005 x119006 x119007 x119008 x119009 x119010 x119011 x119012 x119013 x119014 x119015 x119016 x119017 x119018 x120000 x120001 x120002 x120003 x120004 x120005 x120006 x120007 x120008 x120009 x120010 x120011 x120012 x120013 x120014 x120015 x120016 x120017 x120018) else (some false))) else (none)) else (none)) else (some true)
def spec_SameStmt.f : Nat → Int → ByteArray → Int → Int → ByteArray → List (S29) → Int → Int → ByteArray → List (S29) → Int → Int → ByteArray → List (S29) → Int → Int → ByteArray → List (S29) → List (S50) → Int → ByteArray → Int → Int → ByteArray → List (S29) → Int → Int → ByteArray → List (S29) → Int → Int → ByteArray → List (S29) → Int → Int → ByteArray → List (S29) → List (S50) → Option (Bool)
 | 0, _, _, _, _, _, _, _, _, _, _, _, _, _, _, _, _, _, _, _, _, _, _, _, _, _, _, _, _, _, _, _, _, _, _, _, _, _, _ => none
 | k + 1, a0_0, a0_1, a0_2, a0_3, a0_4, l0_5, a0_6, a0_7, a0_8, l0_9, a0_10, a0_11, a0_12, l0_13, a0_14, a0_15, a0_16, l0_17, l0_18, a1_0, a1_1, a1_2, a1_3, a1_4, l1_5, a1_6, a1_7, a1_8, l1_9, a1_10, a1_11, a1_12, l1_13, a1_14, a1_15, a1_16, l1_17, l1_18 => if a0_0 = a1_0 then (if a0_1.toList = a1_1.toList then ((spec_SameExp.f k a0_2 a0_3 a0_4 l0_5 a1_2 a1_3 a1_4 l1_5).bind fun t120 => (if t120 = true then ((spec_SameExp.f k a0_6 a0_7 a0_8 l0_9 a1_6 a1_7 a1_8 l1_9).bind fun t121 => (if t121 = true then ((spec_SameExp.f k a0_10 a0_11 a0_12 l0_13 a1_10 a1_11 a1_12 l1_13).bind fun t122 => (if t122 = true then ((spec_SameExp.f k a0_14 a0_15 a0_16 l0_17 a1_14 a1_15 a1_16 l1_17).bind fun t123 => (if t123 = true then (spec_SameStmt.j0 k ((l0_18.length : Int) != (l1_18.length : Int)) a0_0 a0_1 a0_2 a0_3 a0_4 l0_5 a0_6 a0_7 a0_8 l0_9 a0_10 a0_11 a0_12 l0_13 a0_14 a0_15 a0_16 l0_17 l0_18 a1_0 a1_1 a1_2 a1_3 a1_4 l1_5 a1_6 a1_7 a1_8 l1_9 a1_10 a1_11 a1_12 l1_13 a1_14 a1_15 a1_16 l1_17 l1_18) else (spec_SameStmt.j0 k true a0_0 a0_1 a0_2 a0_3 a0_4 l0_5 a0_6 a0_7 a0_8 l0_9 a0_10 a0_11 a0_12 l0_13 a0_14 a0_15 a0_16 l0_17 l0_18 a1_0 a1_1 a1_2 a1_3 a1_4 l1_5 a1_6 a1_7 a1_8 l1_9 a1_10 a1_11 a1_12 l1_13 a1_14 a1_15 a1_16 l1_17 l1_18))) else (spec_SameStmt.j0 k true a0_0 a0_1 a0_2 a0_3 a0_4 l0_5 a0_6 a0_7 a0_8 l0_9 a0_10 a0_11 a0_12 l0_13 a0_14 a0_15 a0_16 l0_17 l0_18 a1_0 a1_1 a1_2 a1_3 a1_4 l1_5 a1_6 a1_7 a1_8 l1_9 a1_10 a1_11 a1_12 l1_13 a1_14 a1_15 a1_16 l1_17 l1_18))) else (spec_SameStmt.j0 k true a0_0 a0_1 a0_2 a0_3 a0_4 l0_5 a0_6 a0_7 a0_8 l0_9 a0_10 a0_11 a0_12 l0_13 a0_14 a0_15 a0_16 l0_17 l0_18 a1_0 a1_1 a1_2 a1_3 a1_4 l1_5 a1_6 a1_7 a1_8 l1_9 a1_10 a1_11 a1_12 l1_13 a1_14 a1_15 a1_16 l1_17 l1_18))) else (spec_SameStmt.j0 k true a0_0 a0_1 a0_2 a0_3 a0_4 l0_5 a0_6 a0_7 a0_8 l0_9 a0_10 a0_11 a0_12 l0_13 a0_14 a0_15 a0_16 l0_17 l0_18 a1_0 a1_1 a1_2 a1_3 a1_4 l1_5 a1_6 a1_7 a1_8 l1_9 a1_10 a1_11 a1_12 l1_13 a1_14 a1_15 a1_16 l1_17 l1_18))) else (spec_SameStmt.j0 k true a0_0 a0_1 a0_2 a0_3 a0_4 l0_5 a0_6 a0_7 a0_8 l0_9 a0_10 a0_11 a0_12 l0_13 a0_14 a0_15 a0_16 l0_17 l0_18 a1_0 a1_1 a1_2 a1_3 a1_4 l1_5 a1_6 a1_7 a1_8 l1_9 a1_10 a1_11 a1_12 l1_13 a1_14 a1_15 a1_16 l1_17 l1_18)) else (spec_SameStmt.j0 k true a0_0 a0_1 a0_2 a0_3 a0_4 l0_5 a0_6 a0_7 a0_8 l0_9 a0_10 a0_11 a0_12 l0_13 a0_14 a0_15 a0_16 l0_17 l0_18 a1_0 a1_1 a1_2 a1_3 a1_4 l1_5 a1_6 a1_7 a1_8 l1_9 a1_10 a1_11 a1_12 l1_13 a1_14 a1_15 a1_16 l1_17 l1_18)
end
theorem spec_SameStmt.mono_l : ∀ k, (∀ y0 y1 y2 y3 y4 y5 y6 y7 y8 y9 y10 y11 y12 y13 y14 y15 y16 y17 y18 y19 y20 y21 y22 y23 y24 y25 y26 y27 y28 y29 y30 y31 y32 y33 y34 y35 y36 y37, LeO (spec_SameStmt.f k y0 y1 y2 y3 y4 y5 y6 y7 y8 y9 y10 y11 y12 y13 y14 y15 y16 y17 y18 y19 y20 y21 y22 y23 y24 y25 y26 y27 y28 y29 y30 y31 y32 y33 y34 y35 y36 y37) (spec_SameStmt.f (k + 1) y0 y1 y2 y3 y4 y5 y6 y7 y8 y9 y10 y11 y12 y13 y14 y15 y16 y17 y18 y19 y20 y21 y22 y23 y24 y25 y26 y27 y28 y29 y30 y31 y32 y33 y34 y35 y36 y37)) ∧ (∀ y0 y1 y2 y3 y4 y5 y6 y7 y8 y9 y10 y11 y12 y13 y14 y15 y16 y17 y18 y19 y20 y21 y22 y23 y24 y25 y26 y27 y28 y29 y30 y31 y32 y33 y34 y35 y36 y37 y38, LeO (spec_SameStmt.j0 k y0 y1 y2 y3 y4 y5 y6 y7 y8 y9 y10 y11 y12 y13 y14 y15 y16 y17 y18 y19 y20 y21 y22 y23 y24 y25 y26 y27 y28 y29 y30 y31 y32 y33 y34 y35 y36 y37 y38) (spec_SameStmt.j0 (k + 1) y0 y1 y2 y3 y4 y5 y6 y7 y8 y9 y10 y11 y12 y13 y14 y15 y16 y17 y18 y19 y20 y21 y22 y23 y24 y25 y26 y27 y28 y29 y30 y31 y32 y33 y34 y35 y36 y37 y38)) ∧ (∀ y0 y1 y2 y3 y4 y5 y6 y7 y8 y9 y10 y11 y12 y13 y14 y15 y16 y17 y18 y19 y20 y21 y22 y23 y24 y25 y26 y27 y28 y29 y30 y31 y32 y33 y34 y35 y36 y37 y38, LeO (spec_SameStmt.l0 k y0 y1 y2 y3 y4 y5 y6 y7 y8 y9 y10 y11 y12 y13 y14 y15 y16 y17 y18 y19 y20 y21 y22 y23 y24 y25 y26 y27 y28 y29 y30 y31 y32 y33 y34 y35 y36 y37 y38) (spec_SameStmt.l0 (k + 1) y0 y1 y2 y3 y4 y5 y6 y7 y8 y9 y10 y11 y12 y13 y14 y15 y16 y17 y18 y19 y20 y21 y22 y23 y24 y25 y26 y27 y28 y29 y30 y31 y32 y33 y34 y35 y36 y37 y38))
 | 0 => ⟨fun _ _ _ _ _ _ _ _ _ _ _ _ _ _ _ _ _ _ _ _ _ _ _ _ _ _ _ _ _ _ _ _ _ _ _ _ _ _ r h => by simp [spec_SameStmt.f] at h, fun _ _ _ _ _ _ _ _ _ _ _ _ _ _ _ _ _ _ _ _ _ _ _ _ _ _ _ _ _ _ _ _ _ _ _ _ _ _ _ r h => by simp [spec_SameStmt.j0] at h, fun _ _ _ _ _ _ _ _ _ _ _ _ _ _ _ _ _ _ _ _ _ _ _ _ _ _ _ _ _ _ _ _ _ _ _ _ _ _ _ r h => by simp [spec_SameStmt.l0] at h⟩
 | k + 1 => by
  obtain ⟨ih0, ih1, ih2⟩ := spec_SameStmt.mono_l k
  refine ⟨?_, ?_, ?_⟩
  ·intro y0 y1 y2 y3 y4 y5 y6 y7 y8 y9 y10 y11 y12 y13 y14 y15 y16 y17 y18 y19 y20 y21 y22 y23 y24 y25 y26 y27 y28 y29 y30 y31 y32 y33 y34 y35 y36 y37
   unfold spec_SameStmt.f
   repeat' first
   | (with_reducible exact ih0 _ _ _ _ _ _ _ _ _ _ _ _ _ _ _ _ _ _ _ _ _ _ _ _ _ _ _ _ _ _ _ _ _ _ _ _ _ _)
   | (with_reducible exact ih1 _ _ _ _ _ _ _ _ _ _ _ _ _ _ _ _ _ _ _ _ _ _ _ _ _ _ _ _ _ _ _ _ _ _ _ _ _ _ _)
   | (with_reducible exact ih2 _ _ _ _ _ _ _ _ _ _ _ _ _ _ _ _ _ _ _ _ _ _ _ _ _ _ _ _ _ _ _ _ _ _ _ _ _ _ _)
   | (with_reducible exact spec_SameExp.mono _ _ _ _ _ _ _ _ _)
   | (with_reducible exact LeO.refl _)
   | (with_reducible exact LeO.none _)
   | (with_reducible refine LeO.ite ?_ ?_)
   | (with_reducible refine LeO.bind ?_ (fun _ => ?_))
   | exact ih0 _ _ _ _ _ _ _ _ _ _ _ _ _ _ _ _ _ _ _ _ _ _ _ _ _ _ _ _ _ _ _ _ _ _ _ _ _ _
   | exact ih1 _ _ _ _ _ _ _ _ _ _ _ _ _ _ _ _ _ _ _ _ _ _ _ _ _ _ _ _ _ _ _ _ _ _ _ _ _ _ _
   | exact ih2 _ _ _ _ _ _ _ _ _ _ _ _ _ _ _ _ _ _ _ _ _ _ _ _ _ _ _ _ _ _ _ _ _ _ _ _ _ _ _
   | exact spec_SameExp.mono _ _ _ _ _ _ _ _ _
   | exact LeO.none _
   | refine LeO.ite ?_ ?_
   | refine LeO.bind ?_ (fun _ => ?_)
  ·intro y0 y1 y2 y3 y4 y5 y6 y7 y8 y9 y10 y11 y12 y13 y14 y15 y16 y17 y18 y19 y20 y21 y22 y23 y24 y25 y26 y27 y28 y29 y30 y31 y32 y33 y34 y35 y36 y37 y38
   unfold spec_SameStmt.j0
   repeat' first
   | (with_reducible exact ih0 _ _ _ _ _ _ _ _ _ _ _ _ _ _ _ _ _ _ _ _ _ _ _ _ _ _ _ _ _ _ _ _ _ _ _ _ _ _)
   | (with_reducible exact ih1 _ _ _ _ _ _ _ _ _ _ _ _ _ _ _ _ _ _ _ _ _ _ _ _ _ _ _ _ _ _ _ _ _ _ _ _ _ _ _)
   | (with_reducible exact ih2 _ _ _ _ _ _ _ _ _ _ _ _ _ _ _ _ _ _ _ _ _ _ _ _ _ _ _ _ _ _ _ _ _ _ _ _ _ _ _)
   | (with_reducible exact spec_SameExp.mono _ _ _ _ _ _ _ _ _)
   | (with_reducible exact LeO.refl _)
   | (with_reducible exact LeO.none _)
   | (with_reducible refine LeO.ite ?_ ?_)
   | (with_reducible refine LeO.bind ?_ (fun _ => ?_))
   | exact ih0 _ _ _ _ _ _ _ _ _ _ _ _ _ _ _ _ _ _ _ _ _ _ _ _ _ _ _ _ _ _ _ _ _ _ _ _ _ _
   | exact ih1 _ _ _ _ _ _ _ _ _ _ _ _ _ _ _ _ _ _ _ _ _ _ _ _ _ _ _ _ _ _ _ _ _ _ _ _ _ _ _
   | exact ih2 _ _ _ _ _ _ _ _ _ _ _ _ _ _ _ _ _ _ _ _ _ _ _ _ _ _ _ _ _ _ _ _ _ _ _ _ _ _ _
   | exact spec_SameExp.mono _ _ _ _ _ _ _ _ _
   | exact LeO.none _
   | refine LeO.ite ?_ ?_
   | refine LeO.bind ?_ (fun _ => ?_)
  ·intro y0 y1 y2 y3 y4 y5 y6 y7 y8 y9 y10 y11 y12 y13 y14 y15 y16 y17 y18 y19 y20 y21 y22 y23 y24 y25 y26 y27 y28 y29 y30 y31 y32 y33 y34 y35 y36 y37 y38
   unfold spec_SameStmt.l0
   repeat' first
   | (with_reducible exact ih0 _ _ _ _ _ _ _ _ _ _ _ _ _ _ _ _ _ _ _ _ _ _ _ _ _ _ _ _ _ _ _ _ _ _ _ _ _ _)
   | (with_reducible exact ih1 _ _ _ _ _ _ _ _ _ _ _ _ _ _ _ _ _ _ _ _ _ _ _ _ _ _ _ _ _ _ _ _ _ _ _ _ _ _ _)
   | (with_reducible exact ih2 _ _ _ _ _ _ _ _ _ _ _ _ _ _ _ _ _ _ _ _ _ _ _ _ _ _ _ _ _ _ _ _ _ _ _ _ _ _ _)
   | (with_reducible exact spec_SameExp.mono _ _ _ _ _ _ _ _ _)
   | (with_reducible exact LeO.refl _)
   | (with_reducible exact LeO.none _)
   | (with_reducible refine LeO.ite ?_ ?_)
   | (with_reducible refine LeO.bind ?_ (fun _ => ?_))
   | exact ih0 _ _ _ _ _ _ _ _ _ _ _ _ _ _ _ _ _ _ _ _ _ _ _ _ _ _ _ _ _ _ _ _ _ _ _ _ _ _
   | exact ih1 _ _ _ _ _ _ _ _ _ _ _ _ _ _ _ _ _ _ _ _ _ _ _ _ _ _ _ _ _ _ _ _ _ _ _ _ _ _ _
   | exact ih2 _ _ _ _ _ _ _ _ _ _ _ _ _ _ _ _ _ _ _ _ _ _ _ _ _ _ _ _ _ _ _ _ _ _ _ _ _ _ _
   | exact spec_SameExp.mono _ _ _ _ _ _ _ _ _
   | exact LeO.none _
   | refine LeO.ite ?_ ?_
   | refine LeO.bind ?_ (fun _ => ?_)
theorem spec_SameStmt.mono : ∀ a0 a1 a2 a3 a4 a5 a6 a7 a8 a9 a10 a11 a12 a13 a14 a15 a16 a17 a18 a19 a20 a21 a22 a23 a24 a25 a26 a27 a28 a29 a30 a31 a32 a33 a34 a35 a36 a37 k, LeO (spec_SameStmt.f k a0 a1 a2 a3 a4 a5 a6 a7 a8 a9 a10 a11 a12 a13 a14 a15 a16 a17 a18 a19 a20 a21 a22 a23 a24 a25 a26 a27 a28 a29 a30 a31 a32 a33 a34 a35 a36 a37) (spec_SameStmt.f (k + 1) a0 a1 a2 a3 a4 a5 a6 a7 a8 a9 a10 a11 a12 a13 a14 a15 a16 a17 a18 a19 a20 a21 a22 a23 a24 a25 a26 a27 a28 a29 a30 a31 a32 a33 a34 a35 a36 a37) := by
 intro a0 a1 a2 a3 a4 a5 a6 a7 a8 a9 a10 a11 a12 a13 a14 a15 a16 a17 a18 a19 a20 a21 a22 a23 a24 a25 a26 a27 a28 a29 a30 a31 a32 a33 a34 a35 a36 a37 k
 obtain ⟨ih0, ih1, ih2⟩ := spec_SameStmt.mono_l k
 exact ih0 a0 a1 a2 a3 a4 a5 a6 a7 a8 a9 a10 a11 a12 a13 a14 a15 a16 a17 a18 a19 a20 a21 a22 a23 a24 a25 a26 a27 a28 a29 a30 a31 a32 a33 a34 a35 a36 a37
def spec_SameStmt.T6 : Bool × List (List Nat × List Nat) := (true, [([], []), ([0], [0]), ([], []), ([1, 2], [1, 2]), ([3], [3]), ([], []), ([5], [5]), ([], []), ([6, 7], [6, 7]), ([8], [8]), ([4, 9], [4, 9]), ([10], [10])])
def spec_SameStmt.B6 : List Nat := [0, 1, 0, 7, 15, 0, 32, 0, 224, 480, 1023, 2047]
theorem spec_SameStmt.tab6 : rtab .any (opsOf Try.f23 6) = spec_SameStmt.T6 := by kernel_rfl
theorem spec_SameStmt.bits6 : waitsOk spec_SameStmt.T6.2 spec_SameStmt.B6 = true := by kernel_rfl
set_option maxHeartbeats 8000000 in
set_option maxRecDepth 100000 in
theorem spec_SameStmt.calls (k : Nat) : ∀ (a0_0 : Int) (a0_1 : ByteArray) (a0_2 : Int) (a0_3 : Int) (a0_4 : ByteArray) (A0_5 : Option Addr) (c0_5 : Nat) (l0_5 : List (S29)) (a0_6 : Int) (a0_7 : Int) (a0_8 : ByteArray) (A0_9 : Option Addr) (c0_9 : Nat) (l0_9 : List (S29)) (a0_10 : Int) (a0_11 : Int) (a0_12 : ByteArray) (A0_13 : Option Addr) (c0_13 : Nat) (l0_13 : List (S29)) (a0_14 : Int) (a0_15 : Int) (a0_16 : ByteArray) (A0_17 : Option Addr) (c0_17 : Nat) (l0_17 : List (S29)) (A0_18 : Option Addr) (c0_18 : Nat) (l0_18 : List (S50)) (a1_0 : Int) (a1_1 : ByteArray) (a1_2 : Int) (a1_3 : Int) (a1_4 : ByteArray) (A1_5 : Option Addr) (c1_5 : Nat) (l1_5 : List (S29)) (a1_6 : Int) (a1_7 : Int) (a1_8 : ByteArray) (A1_9 : Option Addr) (c1_9 : Nat) (l1_9 : List (S29)) (a1_10 : Int) (a1_11 : Int) (a1_12 : ByteArray) (A1_13 : Option Addr) (c1_13 : Nat) (l1_13 : List (S29)) (a1_14 : Int) (a1_15 : Int) (a1_16 : ByteArray) (A1_17 : Option Addr) (c1_17 : Nat) (l1_17 : List (S29)) (A1_18 : Option Addr) (c1_18 : Nat) (l1_18 : List (S50)) (r : Bool) (w : World) (hr0_5 : Kd.C k29 w A0_5 l0_5.length l0_5) (hc0_5 : l0_5.length ≤ c0_5) (hr0_9 : Kd.C k29 w A0_9 l0_9.length l0_9) (hc0_9 : l0_9.length ≤ c0_9) (hr0_13 : Kd.C k29 w A0_13 l0_13.length l0_13) (hc0_13 : l0_13.length ≤ c0_13) (hr0_17 : Kd.C k29 w A0_17 l0_17.length l0_17) (hc0_17 : l0_17.length ≤ c0_17) (hr0_18 : Kd.C k50 w A0_18 l0_18.length l0_18) (hc0_18 : l0_18.length ≤ c0_18) (hr1_5 : Kd.C k29 w A1_5 l1_5.length l1_5) (hc1_5 : l1_5.length ≤ c1_5) (hr1_9 : Kd.C k29 w A1_9 l1_9.length l1_9) (hc1_9 : l1_9.length ≤ c1_9) (hr1_13 : Kd.C k29 w A1_13 l1_13.length l1_13) (hc1_13 : l1_13.length ≤ c1_13) (hr1_17 : Kd.C k29 w A1_17 l1_17.length l1_17) (hc1_17 : l1_17.length ≤ c1_17) (hr1_18 : Kd.C k50 w A1_18 l1_18.length l1_18) (hc1_18 : l1_18.length ≤ c1_18) (h : spec_SameStmt.f k a0_0 a0_1 a0_2 a0_3 a0_4 l0_5 a0_6 a0_7 a0_8 l0_9 a0_10 a0_11 a0_12 l0_13 a0_14 a0_15 a0_16 l0_17 l0_18 a1_0 a1_1 a1_2 a1_3 a1_4 l1_5 a1_6 a1_7 a1_8 l1_9 a1_10 a1_11 a1_12 l1_13 a1_14 a1_15 a1_16 l1_17 l1_18 = some r),
  Calls Try.prog 23 #[.agg #[.int .i64 a0_0, .string a0_1, .int .i64 a0_2, .int .i64 a0_3, .string a0_4, .slice A0_5 l0_5.length c0_5, .int .i64 a0_6, .int .i64 a0_7, .string a0_8, .slice A0_9 l0_9.length c0_9, .int .i64 a0_10, .int .i64 a0_11, .string a0_12, .slice A0_13 l0_13.length c0_13, .int .i64 a0_14, .int .i64 a0_15, .string a0_16, .slice A0_17 l0_17.length c0_17, .slice A0_18 l0_18.length c0_18], .agg #[.int .i64 a1_0, .string a1_1, .int .i64 a1_2, .int .i64 a1_3, .string a1_4, .slice A1_5 l1_5.length c1_5, .int .i64 a1_6, .int .i64 a1_7, .string a1_8, .slice A1_9 l1_9.length c1_9, .int .i64 a1_10, .int .i64 a1_11, .string a1_12, .slice A1_13 l1_13.length c1_13, .int .i64 a1_14, .int .i64 a1_15, .string a1_16, .slice A1_17 l1_17.length c1_17, .slice A1_18 l1_18.length c1_18]] w fun e w' => e = .returned (.bool r) ∧ Below w.heap.size w w' := by
 induction k using Nat.strongRecOn with
 |_ k ih =>
 intro a0_0 a0_1 a0_2 a0_3 a0_4 A0_5 c0_5 l0_5 a0_6 a0_7 a0_8 A0_9 c0_9 l0_9 a0_10 a0_11 a0_12 A0_13 c0_13 l0_13 a0_14 a0_15 a0_16 A0_17 c0_17 l0_17 A0_18 c0_18 l0_18 a1_0 a1_1 a1_2 a1_3 a1_4 A1_5 c1_5 l1_5 a1_6 a1_7 a1_8 A1_9 c1_9 l1_9 a1_10 a1_11 a1_12 A1_13 c1_13 l1_13 a1_14 a1_15 a1_16 A1_17 c1_17 l1_17 A1_18 c1_18 l1_18 r w hr0_5 hc0_5 hr0_9 hc0_9 hr0_13 hc0_13 hr0_17 hc0_17 hr0_18 hc0_18 hr1_5 hc1_5 hr1_9 hc1_9 hr1_13 hc1_13 hr1_17 hc1_17 hr1_18 hc1_18 h
 cases k with
 |zero => exact absurd h (by simp [spec_SameStmt.f])
 |succ k =>
 simp only [spec_SameStmt.f] at h
 have hu50 := Try.underlying50
 have hu29 := Try.underlying29
 have HR0_5 := mk0 hr0_5
 have HC0_5 := mk0 hc0_5
 clear hr0_5 hc0_5
 have HR0_9 := mk0 hr0_9
 have HC0_9 := mk0 hc0_9
 clear hr0_9 hc0_9
 have HR0_13 := mk0 hr0_13
 have HC0_13 := mk0 hc0_13
 clear hr0_13 hc0_13
 have HR0_17 := mk0 hr0_17
 have HC0_17 := mk0 hc0_17
 clear hr0_17 hc0_17
 have HR0_18 := mk0 hr0_18
 have HC0_18 := mk0 hc0_18
 clear hr0_18 hc0_18
 have HR1_5 := mk0 hr1_5
 have HC1_5 := mk0 hc1_5
 clear hr1_5 hc1_5
 have HR1_9 := mk0 hr1_9
 have HC1_9 := mk0 hc1_9
 clear hr1_9 hc1_9
 have HR1_13 := mk0 hr1_13
 have HC1_13 := mk0 hc1_13
 clear hr1_13 hc1_13
 have HR1_17 := mk0 hr1_17
 have HC1_17 := mk0 hc1_17
 clear hr1_17 hc1_17
 have HR1_18 := mk0 hr1_18
 have HC1_18 := mk0 hc1_18
 clear hr1_18 hc1_18
 have HB := mk0 (Below.refl w.heap.size w)
 have H : (if a0_0 = a1_0 then (if a0_1.toList = a1_1.toList then ((spec_SameExp.f k a0_2 a0_3 a0_4 l0_5 a1_2 a1_3 a1_4 l1_5).bind fun t120 => (if t120 = true then ((spec_SameExp.f k a0_6 a0_7 a0_8 l0_9 a1_6 a1_7 a1_8 l1_9).bind fun t121 => (if t121 = true then ((spec_SameExp.f k a0_10 a0_11 a0_12 l0_13 a1_10 a1_11 a1_12 l1_13).bind fun t122 => (if t122 = true then ((spec_SameExp.f k a0_14 a0_15 a0_16 l0_17 a1_14 a1_15 a1_16 l1_17).bind fun t123 => (if t123 = true then (spec_SameStmt.j0 k ((l0_18.length : Int) != (l1_18.length : Int)) a0_0 a0_1 a0_2 a0_3 a0_4 l0_5 a0_6 a0_7 a0_8 l0_9 a0_10 a0_11 a0_12 l0_13 a0_14 a0_15 a0_16 l0_17 l0_18 a1_0 a1_1 a1_2 a1_3 a1_4 l1_5 a1_6 a1_7 a1_8 l1_9 a1_10 a1_11 a1_12 l1_13 a1_14 a1_15 a1_16 l1_17 l1_18) else (spec_SameStmt.j0 k true a0_0 a0_1 a0_2 a0_3 a0_4 l0_5 a0_6 a0_7 a0_8 l0_9 a0_10 a0_11 a0_12 l0_13 a0_14 a0_15 a0_16 l0_17 l0_18 a1_0 a1_1 a1_2 a1_3 a1_4 l1_5 a1_6 a1_7 a1_8 l1_9 a1_10 a1_11 a1_12 l1_13 a1_14 a1_15 a1_16 l1_17 l1_18))) else (spec_SameStmt.j0 k true a0_0 a0_1 a0_2 a0_3 a0_4 l0_5 a0_6 a0_7 a0_8 l0_9 a0_10 a0_11 a0_12 l0_13 a0_14 a0_15 a0_16 l0_17 l0_18 a1_0 a1_1 a1_2 a1_3 a1_4 l1_5 a1_6 a1_7 a1_8 l1_9 a1_10 a1_11 a1_12 l1_13 a1_14 a1_15 a1_16 l1_17 l1_18))) else (spec_SameStmt.j0 k true a0_0 a0_1 a0_2 a0_3 a0_4 l0_5 a0_6 a0_7 a0_8 l0_9 a0_10 a0_11 a0_12 l0_13 a0_14 a0_15 a0_16 l0_17 l0_18 a1_0 a1_1 a1_2 a1_3 a1_4 l1_5 a1_6 a1_7 a1_8 l1_9 a1_10 a1_11 a1_12 l1_13 a1_14 a1_15 a1_16 l1_17 l1_18))) else (spec_SameStmt.j0 k true a0_0 a0_1 a0_2 a0_3 a0_4 l0_5 a0_6 a0_7 a0_8 l0_9 a0_10 a0_11 a0_12 l0_13 a0_14 a0_15 a0_16 l0_17 l0_18 a1_0 a1_1 a1_2 a1_3 a1_4 l1_5 a1_6 a1_7 a1_8 l1_9 a1_10 a1_11 a1_12 l1_13 a1_14 a1_15 a1_16 l1_17 l1_18))) else (spec_SameStmt.j0 k true a0_0 a0_1 a0_2 a0_3 a0_4 l0_5 a0_6 a0_7 a0_8 l0_9 a0_10 a0_11 a0_12 l0_13 a0_14 a0_15 a0_16 l0_17 l0_18 a1_0 a1_1 a1_2 a1_3 a1_4 l1_5 a1_6 a1_7 a1_8 l1_9 a1_10 a1_11 a1_12 l1_13 a1_14 a1_15 a1_16 l1_17 l1_18)) else (spec_SameStmt.j0 k true a0_0 a0_1 a0_2 a0_3 a0_4 l0_5 a0_6 a0_7 a0_8 l0_9 a0_10 a0_11 a0_12 l0_13 a0_14 a0_15 a0_16 l0_17 l0_18 a1_0 a1_1 a1_2 a1_3 a1_4 l1_5 a1_6 a1_7 a1_8 l1_9 a1_10 a1_11 a1_12 l1_13 a1_14 a1_15 a1_16 l1_17 l1_18)) = some r := h
 clear h
 have HC3 := mk0 H
 clear H
 go_enter Try.func23,Try.ntmps23
 go_upto_region 1 with (first|((with_reducible refine gate_dst (N := 2) rfl ?_);(try (refine gate_guard (by rfl) ?_;dsimp only));refine box_event ?hg (N := 2) ?hd (cs := #[.int .i64 a0_0,.string a0_1,.int .i64 a0_2,.int .i64 a0_3,.string a0_4,.slice A0_5 l0_5.length c0_5,.int .i64 a0_6,.int .i64 a0_7,.string a0_8,.slice A0_9 l0_9.length c0_9,.int .i64 a0_10,.int .i64 a0_11,.string a0_12,.slice A0_13 l0_13.length c0_13,.int .i64 a0_14,.int .i64 a0_15,.string a0_16,.slice A0_17 l0_17.length c0_17,.slice A0_18 l0_18.length c0_18]) (t := 50) ?hr ?_;(case hd => rfl);(case hg => rfl);(case hr => first|(go_simp;done)|(go_simp;rfl));intro gb118 hg w4 hbox hb;have q_ := qB (by repeat (first|(with_reducible first|exact HB.out|apply bA|apply bN|apply bD)|exact HB.out)) hb;have n0_ := mk0 (below_step q_ hb);have n1_ := mk0 (hbox);have n2_ := mk0 (below_size2 q_ hg);have n3_ := n2_;clear HB;have HB := n0_;have BK118 := n1_;have GW118 := n2_;have GE118 := n3_;clear q_ n0_ n1_ n2_ n3_ hb hbox hg)|((with_reducible refine gate_dst (N := 3) rfl ?_);(try (refine gate_guard (by rfl) ?_;dsimp only));refine box_event ?hg (N := 3) ?hd (cs := #[.int .i64 a1_0,.string a1_1,.int .i64 a1_2,.int .i64 a1_3,.string a1_4,.slice A1_5 l1_5.length c1_5,.int .i64 a1_6,.int .i64 a1_7,.string a1_8,.slice A1_9 l1_9.length c1_9,.int .i64 a1_10,.int .i64 a1_11,.string a1_12,.slice A1_13 l1_13.length c1_13,.int .i64 a1_14,.int .i64 a1_15,.string a1_16,.slice A1_17 l1_17.length c1_17,.slice A1_18 l1_18.length c1_18]) (t := 50) ?hr ?_;(case hd => rfl);(case hg => rfl);(case hr => first|(go_simp;done)|(go_simp;rfl));intro gb119 hg w5 hbox hb;have q_ := qB (by repeat (first|(with_reducible first|exact HB.out|apply bA|apply bN|apply bD|refine bS ?_ GE118.out)|exact HB.out)) hb;have n0_ := mk0 (blk_below (by exact kX BK118.out) hb);have n1_ := mk0 (below_step q_ hb);have n2_ := mk0 (hbox);have n3_ := mk0 (below_size2 q_ hg);have n4_ := n3_;have n5_ := mk0 ((by rw [hg];exact Nat.ne_of_lt (blk_lt (by exact kX BK118.out)) : gb118 ≠ gb119));have n6_ := mk0 ((by rw [hg];exact Nat.ne_of_gt (blk_lt (by exact kX BK118.out)) : gb119 ≠ gb118));clear BK118 HB;have BK118 := n0_;have HB := n1_;have BK119 := n2_;have GW119 := n3_;have GE119 := n4_;have NB118_119 := n5_;have NB119_118 := n6_;clear q_ n0_ n1_ n2_ n3_ n4_ n5_ n6_ hb hbox hg))
 (try simp only [Act.put,List.setIfInBounds_toArray,List.set_cons_zero,List.set_cons_succ])
 go_cut [58] (fun v58 wc => ∃ (kq : Nat) (x58_2 : Bool),v58 = .bool x58_2 ∧ Aside0 (spec_SameStmt.j0 kq x58_2 a0_0 a0_1 a0_2 a0_3 a0_4 l0_5 a0_6 a0_7 a0_8 l0_9 a0_10 a0_11 a0_12 l0_13 a0_14 a0_15 a0_16 l0_17 l0_18 a1_0 a1_1 a1_2 a1_3 a1_4 l1_5 a1_6 a1_7 a1_8 l1_9 a1_10 a1_11 a1_12 l1_13 a1_14 a1_15 a1_16 l1_17 l1_18 = some r) ∧ Aside0 (kq ≤ k) ∧ Aside0 (wc.heap[gb118]? = some (.cells #[.int .i64 a0_0,.string a0_1,.int .i64 a0_2,.int .i64 a0_3,.string a0_4,(.slice A0_5 l0_5.length c0_5),.int .i64 a0_6,.int .i64 a0_7,.string a0_8,(.slice A0_9 l0_9.length c0_9),.int .i64 a0_10,.int .i64 a0_11,.string a0_12,(.slice A0_13 l0_13.length c0_13),.int .i64 a0_14,.int .i64 a0_15,.string a0_16,(.slice A0_17 l0_17.length c0_17),(.slice A0_18 l0_18.length c0_18)] 50 (0,0))) ∧ Aside0 (wc.heap[gb119]? = some (.cells #[.int .i64 a1_0,.string a1_1,.int .i64 a1_2,.int .i64 a1_3,.string a1_4,(.slice A1_5 l1_5.length c1_5),.int .i64 a1_6,.int .i64 a1_7,.string a1_8,(.slice A1_9 l1_9.length c1_9),.int .i64 a1_10,.int .i64 a1_11,.string a1_12,(.slice A1_13 l1_13.length c1_13),.int .i64 a1_14,.int .i64 a1_15,.string a1_16,(.slice A1_17 l1_17.length c1_17),(.slice A1_18 l1_18.length c1_18)] 50 (0,0))) ∧ Aside0 (Below w.heap.size w wc))
 case first =>
  have H := HC3.out
  clear HC3
  by_cases c6 : a0_0 = a1_0
  ·rw [if_pos c6] at H
   have c6b0 : (a0_0 == a1_0) = true := beq_iff_eq.mpr c6
   have c6b1 : (a0_0 != a1_0) = false := bne_eq_false_iff_eq.mpr c6
   clear c6
   (first|rw [c6b0]|(simp only [i64_w,i32_w];rw [c6b0])|skip)
   by_cases c7 : a0_1.toList = a1_1.toList
   ·rw [if_pos c7] at H
    have c7b0 : (a0_1.toList == a1_1.toList) = true := beq_iff_eq.mpr c7
    have c7b1 : (a0_1.toList != a1_1.toList) = false := bne_eq_false_iff_eq.mpr c7
    clear c7
    obtain ⟨t120,A8,H⟩ := bindA H
    by_cases c9 : t120 = true
    ·subst c9
     rw [if_pos rfl] at H
     obtain ⟨t121,A10,H⟩ := bindA H
     by_cases c11 : t121 = true
     ·subst c11
      rw [if_pos rfl] at H
      obtain ⟨t122,A12,H⟩ := bindA H
      by_cases c13 : t122 = true
      ·subst c13
       rw [if_pos rfl] at H
       obtain ⟨t123,A14,H⟩ := bindA H
       by_cases c15 : t123 = true
       ·subst c15
        rw [if_pos rfl] at H
        have H' := mk0 H
        clear H
        go_wp2_with (first|((with_reducible refine gate_dst (N := 7) rfl ?_);(try (refine gate_guard (by rfl) ?_;dsimp only));refine normW ?_ (by (try simp only [Act.put,List.setIfInBounds_toArray,List.set_cons_zero,List.set_cons_succ]);rfl);refine ldOne rfl 3 _ rfl gb118 0 rfl (l := [.int .i64 a0_0,.string a0_1,.int .i64 a0_2,.int .i64 a0_3,.string a0_4,.slice A0_5 l0_5.length c0_5,.int .i64 a0_6,.int .i64 a0_7,.string a0_8,.slice A0_9 l0_9.length c0_9,.int .i64 a0_10,.int .i64 a0_11,.string a0_12,.slice A0_13 l0_13.length c0_13,.int .i64 a0_14,.int .i64 a0_15,.string a0_16,.slice A0_17 l0_17.length c0_17,.slice A0_18 l0_18.length c0_18]) (tb := 50) (by exact kX BK118.out) (.int .i64 a0_0) rfl (fun _ => by kernel_rfl) ?_;have hnb16 := NB118_119.out;have hnc16 := NB119_118.out)|((with_reducible refine gate_dst (N := 9) rfl ?_);(try (refine gate_guard (by rfl) ?_;dsimp only));refine normW ?_ (by (try simp only [Act.put,List.setIfInBounds_toArray,List.set_cons_zero,List.set_cons_succ]);rfl);refine ldOne rfl 3 _ rfl gb119 0 rfl (l := [.int .i64 a1_0,.string a1_1,.int .i64 a1_2,.int .i64 a1_3,.string a1_4,.slice A1_5 l1_5.length c1_5,.int .i64 a1_6,.int .i64 a1_7,.string a1_8,.slice A1_9 l1_9.length c1_9,.int .i64 a1_10,.int .i64 a1_11,.string a1_12,.slice A1_13 l1_13.length c1_13,.int .i64 a1_14,.int .i64 a1_15,.string a1_16,.slice A1_17 l1_17.length c1_17,.slice A1_18 l1_18.length c1_18]) (tb := 50) (by exact kX BK119.out) (.int .i64 a1_0) rfl (fun _ => by kernel_rfl) ?_)|((with_reducible refine gate_dst (N := 13) rfl ?_);(try (refine gate_guard (by rfl) ?_;dsimp only));refine normW ?_ (by (try simp only [Act.put,List.setIfInBounds_toArray,List.set_cons_zero,List.set_cons_succ]);rfl);refine ldOne rfl 9 _ rfl gb118 1 rfl (l := [.int .i64 a0_0,.string a0_1,.int .i64 a0_2,.int .i64 a0_3,.string a0_4,.slice A0_5 l0_5.length c0_5,.int .i64 a0_6,.int .i64 a0_7,.string a0_8,.slice A0_9 l0_9.length c0_9,.int .i64 a0_10,.int .i64 a0_11,.string a0_12,.slice A0_13 l0_13.length c0_13,.int .i64 a0_14,.int .i64 a0_15,.string a0_16,.slice A0_17 l0_17.length c0_17,.slice A0_18 l0_18.length c0_18]) (tb := 50) (by exact kX BK118.out) (.string a0_1) rfl (fun _ => by kernel_rfl) ?_)|((with_reducible refine gate_dst (N := 15) rfl ?_);(try (refine gate_guard (by rfl) ?_;dsimp only));refine normW ?_ (by (try simp only [Act.put,List.setIfInBounds_toArray,List.set_cons_zero,List.set_cons_succ]);rfl);refine ldOne rfl 9 _ rfl gb119 1 rfl (l := [.int .i64 a1_0,.string a1_1,.int .i64 a1_2,.int .i64 a1_3,.string a1_4,.slice A1_5 l1_5.length c1_5,.int .i64 a1_6,.int .i64 a1_7,.string a1_8,.slice A1_9 l1_9.length c1_9,.int .i64 a1_10,.int .i64 a1_11,.string a1_12,.slice A1_13 l1_13.length c1_13,.int .i64 a1_14,.int .i64 a1_15,.string a1_16,.slice A1_17 l1_17.length c1_17,.slice A1_18 l1_18.length c1_18]) (tb := 50) (by exact kX BK119.out) (.string a1_1) rfl (fun _ => by kernel_rfl) ?_)|((with_reducible refine gate_dst (N := 20) rfl ?_);(try (refine gate_guard (by rfl) ?_;dsimp only));refine normW ?_ (by (try simp only [Act.put,List.setIfInBounds_toArray,List.set_cons_zero,List.set_cons_succ]);rfl);refine ldBox rfl 29 _ rfl gb118 2 rfl (l := [.int .i64 a0_0,.string a0_1,.int .i64 a0_2,.int .i64 a0_3,.string a0_4,.slice A0_5 l0_5.length c0_5,.int .i64 a0_6,.int .i64 a0_7,.string a0_8,.slice A0_9 l0_9.length c0_9,.int .i64 a0_10,.int .i64 a0_11,.string a0_12,.slice A0_13 l0_13.length c0_13,.int .i64 a0_14,.int .i64 a0_15,.string a0_16,.slice A0_17 l0_17.length c0_17,.slice A0_18 l0_18.length c0_18]) (tb := 50) (by exact kX BK118.out) [.int .i64 a0_2,.int .i64 a0_3,.string a0_4,.slice A0_5 l0_5.length c0_5] rfl _ hu29 (by kernel_rfl) ?_)|((with_reducible refine gate_dst (N := 22) rfl ?_);(try (refine gate_guard (by rfl) ?_;dsimp only));refine normW ?_ (by (try simp only [Act.put,List.setIfInBounds_toArray,List.set_cons_zero,List.set_cons_succ]);rfl);refine ldBox rfl 29 _ rfl gb119 2 rfl (l := [.int .i64 a1_0,.string a1_1,.int .i64 a1_2,.int .i64 a1_3,.string a1_4,.slice A1_5 l1_5.length c1_5,.int .i64 a1_6,.int .i64 a1_7,.string a1_8,.slice A1_9 l1_9.length c1_9,.int .i64 a1_10,.int .i64 a1_11,.string a1_12,.slice A1_13 l1_13.length c1_13,.int .i64 a1_14,.int .i64 a1_15,.string a1_16,.slice A1_17 l1_17.length c1_17,.slice A1_18 l1_18.length c1_18]) (tb := 50) (by exact kX BK119.out) [.int .i64 a1_2,.int .i64 a1_3,.string a1_4,.slice A1_5 l1_5.length c1_5] rfl _ hu29 (by kernel_rfl) ?_)|(go_at_call 11;(with_reducible refine (spec_SameExp.calls k a0_2 a0_3 a0_4 _ _ l0_5 a1_2 a1_3 a1_4 _ _ l1_5 true _ ?side1 ?side2 ?side3 ?side4 A8.out).mono ?_);(case side1 => repeat (first|exact (Kd.C_below HR0_5.out HB.out)|(with_reducible refine cA ?_ _)|(with_reducible refine cN ?_ _)|(with_reducible refine cD ?_)));(case side2 => exact HC0_5.out);(case side3 => repeat (first|exact (Kd.C_below HR1_5.out HB.out)|(with_reducible refine cA ?_ _)|(with_reducible refine cN ?_ _)|(with_reducible refine cD ?_)));(case side4 => exact HC1_5.out);rintro e w17 ⟨rfl,hb⟩;have n0_ := mk0 (blk_below (by exact kX BK118.out) hb);have n1_ := mk0 (blk_below (by exact kX BK119.out) hb);have n2_ := mk0 (below_step (by repeat (first|(with_reducible first|exact HB.out|apply bA|apply bN|apply bD|refine bS ?_ GE118.out|refine bS ?_ GE119.out)|exact HB.out)) hb);clear BK118 BK119 HB;have BK118 := n0_;have BK119 := n1_;have HB := n2_;clear n0_ n1_ n2_;(try clear hb);(try clear hb2);(try clear hk);(try clear hi))|((with_reducible refine gate_dst (N := 28) rfl ?_);(try (refine gate_guard (by rfl) ?_;dsimp only));refine normW ?_ (by (try simp only [Act.put,List.setIfInBounds_toArray,List.set_cons_zero,List.set_cons_succ]);rfl);refine ldBox rfl 29 _ rfl gb118 6 rfl (l := [.int .i64 a0_0,.string a0_1,.int .i64 a0_2,.int .i64 a0_3,.string a0_4,.slice A0_5 l0_5.length c0_5,.int .i64 a0_6,.int .i64 a0_7,.string a0_8,.slice A0_9 l0_9.length c0_9,.int .i64 a0_10,.int .i64 a0_11,.string a0_12,.slice A0_13 l0_13.length c0_13,.int .i64 a0_14,.int .i64 a0_15,.string a0_16,.slice A0_17 l0_17.length c0_17,.slice A0_18 l0_18.length c0_18]) (tb := 50) (by exact kX BK118.out) [.int .i64 a0_6,.int .i64 a0_7,.string a0_8,.slice A0_9 l0_9.length c0_9] rfl _ hu29 (by kernel_rfl) ?_)|((with_reducible refine gate_dst (N := 30) rfl ?_);(try (refine gate_guard (by rfl) ?_;dsimp only));refine normW ?_ (by (try simp only [Act.put,List.setIfInBounds_toArray,List.set_cons_zero,List.set_cons_succ]);rfl);refine ldBox rfl 29 _ rfl gb119 6 rfl (l := [.int .i64 a1_0,.string a1_1,.int .i64 a1_2,.int .i64 a1_3,.string a1_4,.slice A1_5 l1_5.length c1_5,.int .i64 a1_6,.int .i64 a1_7,.string a1_8,.slice A1_9 l1_9.length c1_9,.int .i64 a1_10,.int .i64 a1_11,.string a1_12,.slice A1_13 l1_13.length c1_13,.int .i64 a1_14,.int .i64 a1_15,.string a1_16,.slice A1_17 l1_17.length c1_17,.slice A1_18 l1_18.length c1_18]) (tb := 50) (by exact kX BK119.out) [.int .i64 a1_6,.int .i64 a1_7,.string a1_8,.slice A1_9 l1_9.length c1_9] rfl _ hu29 (by kernel_rfl) ?_)|(go_at_call 11;(with_reducible refine (spec_SameExp.calls k a0_6 a0_7 a0_8 _ _ l0_9 a1_6 a1_7 a1_8 _ _ l1_9 true _ ?side1 ?side2 ?side3 ?side4 A10.out).mono ?_);(case side1 => repeat (first|exact (Kd.C_below HR0_9.out HB.out)|(with_reducible refine cA ?_ _)|(with_reducible refine cN ?_ _)|(with_reducible refine cD ?_)));(case side2 => exact HC0_9.out);(case side3 => repeat (first|exact (Kd.C_below HR1_9.out HB.out)|(with_reducible refine cA ?_ _)|(with_reducible refine cN ?_ _)|(with_reducible refine cD ?_)));(case side4 => exact HC1_9.out);rintro e w18 ⟨rfl,hb⟩;have n0_ := mk0 (blk_below (by exact kX BK118.out) hb);have n1_ := mk0 (blk_below (by exact kX BK119.out) hb);have n2_ := mk0 (below_step (by repeat (first|(with_reducible first|exact HB.out|apply bA|apply bN|apply bD|refine bS ?_ GE118.out|refine bS ?_ GE119.out)|exact HB.out)) hb);clear BK118 BK119 HB;have BK118 := n0_;have BK119 := n1_;have HB := n2_;clear n0_ n1_ n2_;(try clear hb);(try clear hb2);(try clear hk);(try clear hi))|((with_reducible refine gate_dst (N := 36) rfl ?_);(try (refine gate_guard (by rfl) ?_;dsimp only));refine normW ?_ (by (try simp only [Act.put,List.setIfInBounds_toArray,List.set_cons_zero,List.set_cons_succ]);rfl);refine ldBox rfl 29 _ rfl gb118 10 rfl (l := [.int .i64 a0_0,.string a0_1,.int .i64 a0_2,.int .i64 a0_3,.string a0_4,.slice A0_5 l0_5.length c0_5,.int .i64 a0_6,.int .i64 a0_7,.string a0_8,.slice A0_9 l0_9.length c0_9,.int .i64 a0_10,.int .i64 a0_11,.string a0_12,.slice A0_13 l0_13.length c0_13,.int .i64 a0_14,.int .i64 a0_15,.string a0_16,.slice A0_17 l0_17.length c0_17,.slice A0_18 l0_18.length c0_18]) (tb := 50) (by exact kX BK118.out) [.int .i64 a0_10,.int .i64 a0_11,.string a0_12,.slice A0_13 l0_13.length c0_13] rfl _ hu29 (by kernel_rfl) ?_)|((with_reducible refine gate_dst (N := 38) rfl ?_);(try (refine gate_guard (by rfl) ?_;dsimp only));refine normW ?_ (by (try simp only [Act.put,List.setIfInBounds_toArray,List.set_cons_zero,List.set_cons_succ]);rfl);refine ldBox rfl 29 _ rfl gb119 10 rfl (l := [.int .i64 a1_0,.string a1_1,.int .i64 a1_2,.int .i64 a1_3,.string a1_4,.slice A1_5 l1_5.length c1_5,.int .i64 a1_6,.int .i64 a1_7,.string a1_8,.slice A1_9 l1_9.length c1_9,.int .i64 a1_10,.int .i64 a1_11,.string a1_12,.slice A1_13 l1_13.length c1_13,.int .i64 a1_14,.int .i64 a1_15,.string a1_16,.slice A1_17 l1_17.length c1_17,.slice A1_18 l1_18.length c1_18]) (tb := 50) (by exact kX BK119.out) [.int .i64 a1_10,.int .i64 a1_11,.string a1_12,.slice A1_13 l1_13.length c1_13] rfl _ hu29 (by kernel_rfl) ?_)|(go_at_call 11;(with_reducible refine (spec_SameExp.calls k a0_10 a0_11 a0_12 _ _ l0_13 a1_10 a1_11 a1_12 _ _ l1_13 true _ ?side1 ?side2 ?side3 ?side4 A12.out).mono ?_);(case side1 => repeat (first|exact (Kd.C_below HR0_13.out HB.out)|(with_reducible refine cA ?_ _)|(with_reducible refine cN ?_ _)|(with_reducible refine cD ?_)));(case side2 => exact HC0_13.out);(case side3 => repeat (first|exact (Kd.C_below HR1_13.out HB.out)|(with_reducible refine cA ?_ _)|(with_reducible refine cN ?_ _)|(with_reducible refine cD ?_)));(case side4 => exact HC1_13.out);rintro e w19 ⟨rfl,hb⟩;have n0_ := mk0 (blk_below (by exact kX BK118.out) hb);have n1_ := mk0 (blk_below (by exact kX BK119.out) hb);have n2_ := mk0 (below_step (by repeat (first|(with_reducible first|exact HB.out|apply bA|apply bN|apply bD|refine bS ?_ GE118.out|refine bS ?_ GE119.out)|exact HB.out)) hb);clear BK118 BK119 HB;have BK118 := n0_;have BK119 := n1_;have HB := n2_;clear n0_ n1_ n2_;(try clear hb);(try clear hb2);(try clear hk);(try clear hi))|((with_reducible refine gate_dst (N := 44) rfl ?_);(try (refine gate_guard (by rfl) ?_;dsimp only));refine normW ?_ (by (try simp only [Act.put,List.setIfInBounds_toArray,List.set_cons_zero,List.set_cons_succ]);rfl);refine ldBox rfl 29 _ rfl gb118 14 rfl (l := [.int .i64 a0_0,.string a0_1,.int .i64 a0_2,.int .i64 a0_3,.string a0_4,.slice A0_5 l0_5.length c0_5,.int .i64 a0_6,.int .i64 a0_7,.string a0_8,.slice A0_9 l0_9.length c0_9,.int .i64 a0_10,.int .i64 a0_11,.string a0_12,.slice A0_13 l0_13.length c0_13,.int .i64 a0_14,.int .i64 a0_15,.string a0_16,.slice A0_17 l0_17.length c0_17,.slice A0_18 l0_18.length c0_18]) (tb := 50) (by exact kX BK118.out) [.int .i64 a0_14,.int .i64 a0_15,.string a0_16,.slice A0_17 l0_17.length c0_17] rfl _ hu29 (by kernel_rfl) ?_)|((with_reducible refine gate_dst (N := 46) rfl ?_);(try (refine gate_guard (by rfl) ?_;dsimp only));refine normW ?_ (by (try simp only [Act.put,List.setIfInBounds_toArray,List.set_cons_zero,List.set_cons_succ]);rfl);refine ldBox rfl 29 _ rfl gb119 14 rfl (l := [.int .i64 a1_0,.string a1_1,.int .i64 a1_2,.int .i64 a1_3,.string a1_4,.slice A1_5 l1_5.length c1_5,.int .i64 a1_6,.int .i64 a1_7,.string a1_8,.slice A1_9 l1_9.length c1_9,.int .i64 a1_10,.int .i64 a1_11,.string a1_12,.slice A1_13 l1_13.length c1_13,.int .i64 a1_14,.int .i64 a1_15,.string a1_16,.slice A1_17 l1_17.length c1_17,.slice A1_18 l1_18.length c1_18]) (tb := 50) (by exact kX BK119.out) [.int .i64 a1_14,.int .i64 a1_15,.string a1_16,.slice A1_17 l1_17.length c1_17] rfl _ hu29 (by kernel_rfl) ?_)|(go_at_call 11;(with_reducible refine (spec_SameExp.calls k a0_14 a0_15 a0_16 _ _ l0_17 a1_14 a1_15 a1_16 _ _ l1_17 true _ ?side1 ?side2 ?side3 ?side4 A14.out).mono ?_);(case side1 => repeat (first|exact (Kd.C_below HR0_17.out HB.out)|(with_reducible refine cA ?_ _)|(with_reducible refine cN ?_ _)|(with_reducible refine cD ?_)));(case side2 => exact HC0_17.out);(case side3 => repeat (first|exact (Kd.C_below HR1_17.out HB.out)|(with_reducible refine cA ?_ _)|(with_reducible refine cN ?_ _)|(with_reducible refine cD ?_)));(case side4 => exact HC1_17.out);rintro e w20 ⟨rfl,hb⟩;have n0_ := mk0 (blk_below (by exact kX BK118.out) hb);have n1_ := mk0 (blk_below (by exact kX BK119.out) hb);have n2_ := mk0 (below_step (by repeat (first|(with_reducible first|exact HB.out|apply bA|apply bN|apply bD|refine bS ?_ GE118.out|refine bS ?_ GE119.out)|exact HB.out)) hb);clear BK118 BK119 HB;have BK118 := n0_;have BK119 := n1_;have HB := n2_;clear n0_ n1_ n2_;(try clear hb);(try clear hb2);(try clear hk);(try clear hi))|((with_reducible refine gate_dst (N := 52) rfl ?_);(try (refine gate_guard (by rfl) ?_;dsimp only));refine normW ?_ (by (try simp only [Act.put,List.setIfInBounds_toArray,List.set_cons_zero,List.set_cons_succ]);rfl);refine ldOne rfl 48 _ rfl gb118 18 rfl (l := [.int .i64 a0_0,.string a0_1,.int .i64 a0_2,.int .i64 a0_3,.string a0_4,.slice A0_5 l0_5.length c0_5,.int .i64 a0_6,.int .i64 a0_7,.string a0_8,.slice A0_9 l0_9.length c0_9,.int .i64 a0_10,.int .i64 a0_11,.string a0_12,.slice A0_13 l0_13.length c0_13,.int .i64 a0_14,.int .i64 a0_15,.string a0_16,.slice A0_17 l0_17.length c0_17,.slice A0_18 l0_18.length c0_18]) (tb := 50) (by exact kX BK118.out) (.slice A0_18 l0_18.length c0_18) rfl (fun _ => by kernel_rfl) ?_)|((with_reducible refine gate_dst (N := 55) rfl ?_);(try (refine gate_guard (by rfl) ?_;dsimp only));refine normW ?_ (by (try simp only [Act.put,List.setIfInBounds_toArray,List.set_cons_zero,List.set_cons_succ]);rfl);refine ldOne rfl 48 _ rfl gb119 18 rfl (l := [.int .i64 a1_0,.string a1_1,.int .i64 a1_2,.int .i64 a1_3,.string a1_4,.slice A1_5 l1_5.length c1_5,.int .i64 a1_6,.int .i64 a1_7,.string a1_8,.slice A1_9 l1_9.length c1_9,.int .i64 a1_10,.int .i64 a1_11,.string a1_12,.slice A1_13 l1_13.length c1_13,.int .i64 a1_14,.int .i64 a1_15,.string a1_16,.slice A1_17 l1_17.length c1_17,.slice A1_18 l1_18.length c1_18]) (tb := 50) (by exact kX BK119.out) (.slice A1_18 l1_18.length c1_18) rfl (fun _ => by kernel_rfl) ?_))
        go_meet
        case rel => exact ⟨_,(((l0_18.length : Int) != (l1_18.length : Int))),(by first|rfl|(simp;done)|(simp [*];done)),H',⟨by first|omega|exact Nat.le_refl _⟩,⟨by refine kX ?_;exact BK118.out⟩,⟨by refine kX ?_;exact BK119.out⟩,⟨by repeat (first|(with_reducible first|exact HB.out|apply bA|apply bN|apply bD|refine bS ?_ GE118.out|refine bS ?_ GE119.out)|exact HB.out)⟩⟩
       ·replace c15 := Bool.eq_false_iff.mpr c15
        subst c15
        rw [if_neg (show ¬ (false = true) by decide)] at H
        have H' := mk0 H
        clear H
        go_wp2_with (first|((with_reducible refine gate_dst (N := 7) rfl ?_);(try (refine gate_guard (by rfl) ?_;dsimp only));refine normW ?_ (by (try simp only [Act.put,List.setIfInBounds_toArray,List.set_cons_zero,List.set_cons_succ]);rfl);refine ldOne rfl 3 _ rfl gb118 0 rfl (l := [.int .i64 a0_0,.string a0_1,.int .i64 a0_2,.int .i64 a0_3,.string a0_4,.slice A0_5 l0_5.length c0_5,.int .i64 a0_6,.int .i64 a0_7,.string a0_8,.slice A0_9 l0_9.length c0_9,.int .i64 a0_10,.int .i64 a0_11,.string a0_12,.slice A0_13 l0_13.length c0_13,.int .i64 a0_14,.int .i64 a0_15,.string a0_16,.slice A0_17 l0_17.length c0_17,.slice A0_18 l0_18.length c0_18]) (tb := 50) (by exact kX BK118.out) (.int .i64 a0_0) rfl (fun _ => by kernel_rfl) ?_;have hnb21 := NB118_119.out;have hnc21 := NB119_118.out)|((with_reducible refine gate_dst (N := 9) rfl ?_);(try (refine gate_guard (by rfl) ?_;dsimp only));refine normW ?_ (by (try simp only [Act.put,List.setIfInBounds_toArray,List.set_cons_zero,List.set_cons_succ]);rfl);refine ldOne rfl 3 _ rfl gb119 0 rfl (l := [.int .i64 a1_0,.string a1_1,.int .i64 a1_2,.int .i64 a1_3,.string a1_4,.slice A1_5 l1_5.length c1_5,.int .i64 a1_6,.int .i64 a1_7,.string a1_8,.slice A1_9 l1_9.length c1_9,.int .i64 a1_10,.int .i64 a1_11,.string a1_12,.slice A1_13 l1_13.length c1_13,.int .i64 a1_14,.int .i64 a1_15,.string a1_16,.slice A1_17 l1_17.length c1_17,.slice A1_18 l1_18.length c1_18]) (tb := 50) (by exact kX BK119.out) (.int .i64 a1_0) rfl (fun _ => by kernel_rfl) ?_)|((with_reducible refine gate_dst (N := 13) rfl ?_);(try (refine gate_guard (by rfl) ?_;dsimp only));refine normW ?_ (by (try simp only [Act.put,List.setIfInBounds_toArray,List.set_cons_zero,List.set_cons_succ]);rfl);refine ldOne rfl 9 _ rfl gb118 1 rfl (l := [.int .i64 a0_0,.string a0_1,.int .i64 a0_2,.int .i64 a0_3,.string a0_4,.slice A0_5 l0_5.length c0_5,.int .i64 a0_6,.int .i64 a0_7,.string a0_8,.slice A0_9 l0_9.length c0_9,.int .i64 a0_10,.int .i64 a0_11,.string a0_12,.slice A0_13 l0_13.length c0_13,.int .i64 a0_14,.int .i64 a0_15,.string a0_16,.slice A0_17 l0_17.length c0_17,.slice A0_18 l0_18.length c0_18]) (tb := 50) (by exact kX BK118.out) (.string a0_1) rfl (fun _ => by kernel_rfl) ?_)|((with_reducible refine gate_dst (N := 15) rfl ?_);(try (refine gate_guard (by rfl) ?_;dsimp only));refine normW ?_ (by (try simp only [Act.put,List.setIfInBounds_toArray,List.set_cons_zero,List.set_cons_succ]);rfl);refine ldOne rfl 9 _ rfl gb119 1 rfl (l := [.int .i64 a1_0,.string a1_1,.int .i64 a1_2,.int .i64 a1_3,.string a1_4,.slice A1_5 l1_5.length c1_5,.int .i64 a1_6,.int .i64 a1_7,.string a1_8,.slice A1_9 l1_9.length c1_9,.int .i64 a1_10,.int .i64 a1_11,.string a1_12,.slice A1_13 l1_13.length c1_13,.int .i64 a1_14,.int .i64 a1_15,.string a1_16,.slice A1_17 l1_17.length c1_17,.slice A1_18 l1_18.length c1_18]) (tb := 50) (by exact kX BK119.out) (.string a1_1) rfl (fun _ => by kernel_rfl) ?_)|((with_reducible refine gate_dst (N := 20) rfl ?_);(try (refine gate_guard (by rfl) ?_;dsimp only));refine normW ?_ (by (try simp only [Act.put,List.setIfInBounds_toArray,List.set_cons_zero,List.set_cons_succ]);rfl);refine ldBox rfl 29 _ rfl gb118 2 rfl (l := [.int .i64 a0_0,.string a0_1,.int .i64 a0_2,.int .i64 a0_3,.string a0_4,.slice A0_5 l0_5.length c0_5,.int .i64 a0_6,.int .i64 a0_7,.string a0_8,.slice A0_9 l0_9.length c0_9,.int .i64 a0_10,.int .i64 a0_11,.string a0_12,.slice A0_13 l0_13.length c0_13,.int .i64 a0_14,.int .i64 a0_15,.string a0_16,.slice A0_17 l0_17.length c0_17,.slice A0_18 l0_18.length c0_18]) (tb := 50) (by exact kX BK118.out) [.int .i64 a0_2,.int .i64 a0_3,.string a0_4,.slice A0_5 l0_5.length c0_5] rfl _ hu29 (by kernel_rfl) ?_)|((with_reducible refine gate_dst (N := 22) rfl ?_);(try (refine gate_guard (by rfl) ?_;dsimp only));refine normW ?_ (by (try simp only [Act.put,List.setIfInBounds_toArray,List.set_cons_zero,List.set_cons_succ]);rfl);refine ldBox rfl 29 _ rfl gb119 2 rfl (l := [.int .i64 a1_0,.string a1_1,.int .i64 a1_2,.int .i64 a1_3,.string a1_4,.slice A1_5 l1_5.length c1_5,.int .i64 a1_6,.int .i64 a1_7,.string a1_8,.slice A1_9 l1_9.length c1_9,.int .i64 a1_10,.int .i64 a1_11,.string a1_12,.slice A1_13 l1_13.length c1_13,.int .i64 a1_14,.int .i64 a1_15,.string a1_16,.slice A1_17 l1_17.length c1_17,.slice A1_18 l1_18.length c1_18]) (tb := 50) (by exact kX BK119.out) [.int .i64 a1_2,.int .i64 a1_3,.string a1_4,.slice A1_5 l1_5.length c1_5] rfl _ hu29 (by kernel_rfl) ?_)|(go_at_call 11;(with_reducible refine (spec_SameExp.calls k a0_2 a0_3 a0_4 _ _ l0_5 a1_2 a1_3 a1_4 _ _ l1_5 true _ ?side1 ?side2 ?side3 ?side4 A8.out).mono ?_);(case side1 => repeat (first|exact (Kd.C_below HR0_5.out HB.out)|(with_reducible refine cA ?_ _)|(with_reducible refine cN ?_ _)|(with_reducible refine cD ?_)));(case side2 => exact HC0_5.out);(case side3 => repeat (first|exact (Kd.C_below HR1_5.out HB.out)|(with_reducible refine cA ?_ _)|(with_reducible refine cN ?_ _)|(with_reducible refine cD ?_)));(case side4 => exact HC1_5.out);rintro e w22 ⟨rfl,hb⟩;have n0_ := mk0 (blk_below (by exact kX BK118.out) hb);have n1_ := mk0 (blk_below (by exact kX BK119.out) hb);have n2_ := mk0 (below_step (by repeat (first|(with_reducible first|exact HB.out|apply bA|apply bN|apply bD|refine bS ?_ GE118.out|refine bS ?_ GE119.out)|exact HB.out)) hb);clear BK118 BK119 HB;have BK118 := n0_;have BK119 := n1_;have HB := n2_;clear n0_ n1_ n2_;(try clear hb);(try clear hb2);(try clear hk);(try clear hi))|((with_reducible refine gate_dst (N := 28) rfl ?_);(try (refine gate_guard (by rfl) ?_;dsimp only));refine normW ?_ (by (try simp only [Act.put,List.setIfInBounds_toArray,List.set_cons_zero,List.set_cons_succ]);rfl);refine ldBox rfl 29 _ rfl gb118 6 rfl (l := [.int .i64 a0_0,.string a0_1,.int .i64 a0_2,.int .i64 a0_3,.string a0_4,.slice A0_5 l0_5.length c0_5,.int .i64 a0_6,.int .i64 a0_7,.string a0_8,.slice A0_9 l0_9.length c0_9,.int .i64 a0_10,.int .i64 a0_11,.string a0_12,.slice A0_13 l0_13.length c0_13,.int .i64 a0_14,.int .i64 a0_15,.string a0_16,.slice A0_17 l0_17.length c0_17,.slice A0_18 l0_18.length c0_18]) (tb := 50) (by exact kX BK118.out) [.int .i64 a0_6,.int .i64 a0_7,.string a0_8,.slice A0_9 l0_9.length c0_9] rfl _ hu29 (by kernel_rfl) ?_)|((with_reducible refine gate_dst (N := 30) rfl ?_);(try (refine gate_guard (by rfl) ?_;dsimp only));refine normW ?_ (by (try simp only [Act.put,List.setIfInBounds_toArray,List.set_cons_zero,List.set_cons_succ]);rfl);refine ldBox rfl 29 _ rfl gb119 6 rfl (l := [.int .i64 a1_0,.string a1_1,.int .i64 a1_2,.int .i64 a1_3,.string a1_4,.slice A1_5 l1_5.length c1_5,.int .i64 a1_6,.int .i64 a1_7,.string a1_8,.slice A1_9 l1_9.length c1_9,.int .i64 a1_10,.int .i64 a1_11,.string a1_12,.slice A1_13 l1_13.length c1_13,.int .i64 a1_14,.int .i64 a1_15,.string a1_16,.slice A1_17 l1_17.length c1_17,.slice A1_18 l1_18.length c1_18]) (tb := 50) (by exact kX BK119.out) [.int .i64 a1_6,.int .i64 a1_7,.string a1_8,.slice A1_9 l1_9.length c1_9] rfl _ hu29 (by kernel_rfl) ?_)|(go_at_call 11;(with_reducible refine (spec_SameExp.calls k a0_6 a0_7 a0_8 _ _ l0_9 a1_6 a1_7 a1_8 _ _ l1_9 true _ ?side1 ?side2 ?side3 ?side4 A10.out).mono ?_);(case side1 => repeat (first|exact (Kd.C_below HR0_9.out HB.out)|(with_reducible refine cA ?_ _)|(with_reducible refine cN ?_ _)|(with_reducible refine cD ?_)));(case side2 => exact HC0_9.out);(case side3 => repeat (first|exact (Kd.C_below HR1_9.out HB.out)|(with_reducible refine cA ?_ _)|(with_reducible refine cN ?_ _)|(with_reducible refine cD ?_)));(case side4 => exact HC1_9.out);rintro e w23 ⟨rfl,hb⟩;have n0_ := mk0 (blk_below (by exact kX BK118.out) hb);have n1_ := mk0 (blk_below (by exact kX BK119.out) hb);have n2_ := mk0 (below_step (by repeat (first|(with_reducible first|exact HB.out|apply bA|apply bN|apply bD|refine bS ?_ GE118.out|refine bS ?_ GE119.out)|exact HB.out)) hb);clear BK118 BK119 HB;have BK118 := n0_;have BK119 := n1_;have HB := n2_;clear n0_ n1_ n2_;(try clear hb);(try clear hb2);(try clear hk);(try clear hi))|((with_reducible refine gate_dst (N := 36) rfl ?_);(try (refine gate_guard (by rfl) ?_;dsimp only));refine normW ?_ (by (try simp only [Act.put,List.setIfInBounds_toArray,List.set_cons_zero,List.set_cons_succ]);rfl);refine ldBox rfl 29 _ rfl gb118 10 rfl (l := [.int .i64 a0_0,.string a0_1,.int .i64 a0_2,.int .i64 a0_3,.string a0_4,.slice A0_5 l0_5.length c0_5,.int .i64 a0_6,.int .i64 a0_7,.string a0_8,.slice A0_9 l0_9.length c0_9,.int .i64 a0_10,.int .i64 a0_11,.string a0_12,.slice A0_13 l0_13.length c0_13,.int .i64 a0_14,.int .i64 a0_15,.string a0_16,.slice A0_17 l0_17.length c0_17,.slice A0_18 l0_18.length c0_18]) (tb := 50) (by exact kX BK118.out) [.int .i64 a0_10,.int .i64 a0_11,.string a0_12,.slice A0_13 l0_13.length c0_13] rfl _ hu29 (by kernel_rfl) ?_)|((with_reducible refine gate_dst (N := 38) rfl ?_);(try (refine gate_guard (by rfl) ?_;dsimp only));refine normW ?_ (by (try simp only [Act.put,List.setIfInBounds_toArray,List.set_cons_zero,List.set_cons_succ]);rfl);refine ldBox rfl 29 _ rfl gb119 10 rfl (l := [.int .i64 a1_0,.string a1_1,.int .i64 a1_2,.int .i64 a1_3,.string a1_4,.slice A1_5 l1_5.length c1_5,.int .i64 a1_6,.int .i64 a1_7,.string a1_8,.slice A1_9 l1_9.length c1_9,.int .i64 a1_10,.int .i64 a1_11,.string a1_12,.slice A1_13 l1_13.length c1_13,.int .i64 a1_14,.int .i64 a1_15,.string a1_16,.slice A1_17 l1_17.length c1_17,.slice A1_18 l1_18.length c1_18]) (tb := 50) (by exact kX BK119.out) [.int .i64 a1_10,.int .i64 a1_11,.string a1_12,.slice A1_13 l1_13.length c1_13] rfl _ hu29 (by kernel_rfl) ?_)|(go_at_call 11;(with_reducible refine (spec_SameExp.calls k a0_10 a0_11 a0_12 _ _ l0_13 a1_10 a1_11 a1_12 _ _ l1_13 true _ ?side1 ?side2 ?side3 ?side4 A12.out).mono ?_);(case side1 => repeat (first|exact (Kd.C_below HR0_13.out HB.out)|(with_reducible refine cA ?_ _)|(with_reducible refine cN ?_ _)|(with_reducible refine cD ?_)));(case side2 => exact HC0_13.out);(case side3 => repeat (first|exact (Kd.C_below HR1_13.out HB.out)|(with_reducible refine cA ?_ _)|(with_reducible refine cN ?_ _)|(with_reducible refine cD ?_)));(case side4 => exact HC1_13.out);rintro e w24 ⟨rfl,hb⟩;have n0_ := mk0 (blk_below (by exact kX BK118.out) hb);have n1_ := mk0 (blk_below (by exact kX BK119.out) hb);have n2_ := mk0 (below_step (by repeat (first|(with_reducible first|exact HB.out|apply bA|apply bN|apply bD|refine bS ?_ GE118.out|refine bS ?_ GE119.out)|exact HB.out)) hb);clear BK118 BK119 HB;have BK118 := n0_;have BK119 := n1_;have HB := n2_;clear n0_ n1_ n2_;(try clear hb);(try clear hb2);(try clear hk);(try clear hi))|((with_reducible refine gate_dst (N := 44) rfl ?_);(try (refine gate_guard (by rfl) ?_;dsimp only));refine normW ?_ (by (try simp only [Act.put,List.setIfInBounds_toArray,List.set_cons_zero,List.set_cons_succ]);rfl);refine ldBox rfl 29 _ rfl gb118 14 rfl (l := [.int .i64 a0_0,.string a0_1,.int .i64 a0_2,.int .i64 a0_3,.string a0_4,.slice A0_5 l0_5.length c0_5,.int .i64 a0_6,.int .i64 a0_7,.string a0_8,.slice A0_9 l0_9.length c0_9,.int .i64 a0_10,.int .i64 a0_11,.string a0_12,.slice A0_13 l0_13.length c0_13,.int .i64 a0_14,.int .i64 a0_15,.string a0_16,.slice A0_17 l0_17.length c0_17,.slice A0_18 l0_18.length c0_18]) (tb := 50) (by exact kX BK118.out) [.int .i64 a0_14,.int .i64 a0_15,.string a0_16,.slice A0_17 l0_17.length c0_17] rfl _ hu29 (by kernel_rfl) ?_)|((with_reducible refine gate_dst (N := 46) rfl ?_);(try (refine gate_guard (by rfl) ?_;dsimp only));refine normW ?_ (by (try simp only [Act.put,List.setIfInBounds_toArray,List.set_cons_zero,List.set_cons_succ]);rfl);refine ldBox rfl 29 _ rfl gb119 14 rfl (l := [.int .i64 a1_0,.string a1_1,.int .i64 a1_2,.int .i64 a1_3,.string a1_4,.slice A1_5 l1_5.length c1_5,.int .i64 a1_6,.int .i64 a1_7,.string a1_8,.slice A1_9 l1_9.length c1_9,.int .i64 a1_10,.int .i64 a1_11,.string a1_12,.slice A1_13 l1_13.length c1_13,.int .i64 a1_14,.int .i64 a1_15,.string a1_16,.slice A1_17 l1_17.length c1_17,.slice A1_18 l1_18.length c1_18]) (tb := 50) (by exact kX BK119.out) [.int .i64 a1_14,.int .i64 a1_15,.string a1_16,.slice A1_17 l1_17.length c1_17] rfl _ hu29 (by kernel_rfl) ?_)|(go_at_call 11;(with_reducible refine (spec_SameExp.calls k a0_14 a0_15 a0_16 _ _ l0_17 a1_14 a1_15 a1_16 _ _ l1_17 false _ ?side1 ?side2 ?side3 ?side4 A14.out).mono ?_);(case side1 => repeat (first|exact (Kd.C_below HR0_17.out HB.out)|(with_reducible refine cA ?_ _)|(with_reducible refine cN ?_ _)|(with_reducible refine cD ?_)));(case side2 => exact HC0_17.out);(case side3 => repeat (first|exact (Kd.C_below HR1_17.out HB.out)|(with_reducible refine cA ?_ _)|(with_reducible refine cN ?_ _)|(with_reducible refine cD ?_)));(case side4 => exact HC1_17.out);rintro e w25 ⟨rfl,hb⟩;have n0_ := mk0 (blk_below (by exact kX BK118.out) hb);have n1_ := mk0 (blk_below (by exact kX BK119.out) hb);have n2_ := mk0 (below_step (by repeat (first|(with_reducible first|exact HB.out|apply bA|apply bN|apply bD|refine bS ?_ GE118.out|refine bS ?_ GE119.out)|exact HB.out)) hb);clear BK118 BK119 HB;have BK118 := n0_;have BK119 := n1_;have HB := n2_;clear n0_ n1_ n2_;(try clear hb);(try clear hb2);(try clear hk);(try clear hi)))
        go_meet
        case rel => exact ⟨_,(true),(by first|rfl|(simp;done)|(simp [*];done)),H',⟨by first|omega|exact Nat.le_refl _⟩,⟨by refine kX ?_;exact BK118.out⟩,⟨by refine kX ?_;exact BK119.out⟩,⟨by repeat (first|(with_reducible first|exact HB.out|apply bA|apply bN|apply bD|refine bS ?_ GE118.out|refine bS ?_ GE119.out)|exact HB.out)⟩⟩
      ·replace c13 := Bool.eq_false_iff.mpr c13
       subst c13
       rw [if_neg (show ¬ (false = true) by decide)] at H
       have H' := mk0 H
       clear H
       go_wp2_with (first|((with_reducible refine gate_dst (N := 7) rfl ?_);(try (refine gate_guard (by rfl) ?_;dsimp only));refine normW ?_ (by (try simp only [Act.put,List.setIfInBounds_toArray,List.set_cons_zero,List.set_cons_succ]);rfl);refine ldOne rfl 3 _ rfl gb118 0 rfl (l := [.int .i64 a0_0,.string a0_1,.int .i64 a0_2,.int .i64 a0_3,.string a0_4,.slice A0_5 l0_5.length c0_5,.int .i64 a0_6,.int .i64 a0_7,.string a0_8,.slice A0_9 l0_9.length c0_9,.int .i64 a0_10,.int .i64 a0_11,.string a0_12,.slice A0_13 l0_13.length c0_13,.int .i64 a0_14,.int .i64 a0_15,.string a0_16,.slice A0_17 l0_17.length c0_17,.slice A0_18 l0_18.length c0_18]) (tb := 50) (by exact kX BK118.out) (.int .i64 a0_0) rfl (fun _ => by kernel_rfl) ?_;have hnb26 := NB118_119.out;have hnc26 := NB119_118.out)|((with_reducible refine gate_dst (N := 9) rfl ?_);(try (refine gate_guard (by rfl) ?_;dsimp only));refine normW ?_ (by (try simp only [Act.put,List.setIfInBounds_toArray,List.set_cons_zero,List.set_cons_succ]);rfl);refine ldOne rfl 3 _ rfl gb119 0 rfl (l := [.int .i64 a1_0,.string a1_1,.int .i64 a1_2,.int .i64 a1_3,.string a1_4,.slice A1_5 l1_5.length c1_5,.int .i64 a1_6,.int .i64 a1_7,.string a1_8,.slice A1_9 l1_9.length c1_9,.int .i64 a1_10,.int .i64 a1_11,.string a1_12,.slice A1_13 l1_13.length c1_13,.int .i64 a1_14,.int .i64 a1_15,.string a1_16,.slice A1_17 l1_17.length c1_17,.slice A1_18 l1_18.length c1_18]) (tb := 50) (by exact kX BK119.out) (.int .i64 a1_0) rfl (fun _ => by kernel_rfl) ?_)|((with_reducible refine gate_dst (N := 13) rfl ?_);(try (refine gate_guard (by rfl) ?_;dsimp only));refine normW ?_ (by (try simp only [Act.put,List.setIfInBounds_toArray,List.set_cons_zero,List.set_cons_succ]);rfl);refine ldOne rfl 9 _ rfl gb118 1 rfl (l := [.int .i64 a0_0,.string a0_1,.int .i64 a0_2,.int .i64 a0_3,.string a0_4,.slice A0_5 l0_5.length c0_5,.int .i64 a0_6,.int .i64 a0_7,.string a0_8,.slice A0_9 l0_9.length c0_9,.int .i64 a0_10,.int .i64 a0_11,.string a0_12,.slice A0_13 l0_13.length c0_13,.int .i64 a0_14,.int .i64 a0_15,.string a0_16,.slice A0_17 l0_17.length c0_17,.slice A0_18 l0_18.length c0_18]) (tb := 50) (by exact kX BK118.out) (.string a0_1) rfl (fun _ => by kernel_rfl) ?_)|((with_reducible refine gate_dst (N := 15) rfl ?_);(try (refine gate_guard (by rfl) ?_;dsimp only));refine normW ?_ (by (try simp only [Act.put,List.setIfInBounds_toArray,List.set_cons_zero,List.set_cons_succ]);rfl);refine ldOne rfl 9 _ rfl gb119 1 rfl (l := [.int .i64 a1_0,.string a1_1,.int .i64 a1_2,.int .i64 a1_3,.string a1_4,.slice A1_5 l1_5.length c1_5,.int .i64 a1_6,.int .i64 a1_7,.string a1_8,.slice A1_9 l1_9.length c1_9,.int .i64 a1_10,.int .i64 a1_11,.string a1_12,.slice A1_13 l1_13.length c1_13,.int .i64 a1_14,.int .i64 a1_15,.string a1_16,.slice A1_17 l1_17.length c1_17,.slice A1_18 l1_18.length c1_18]) (tb := 50) (by exact kX BK119.out) (.string a1_1) rfl (fun _ => by kernel_rfl) ?_)|((with_reducible refine gate_dst (N := 20) rfl ?_);(try (refine gate_guard (by rfl) ?_;dsimp only));refine normW ?_ (by (try simp only [Act.put,List.setIfInBounds_toArray,List.set_cons_zero,List.set_cons_succ]);rfl);refine ldBox rfl 29 _ rfl gb118 2 rfl (l := [.int .i64 a0_0,.string a0_1,.int .i64 a0_2,.int .i64 a0_3,.string a0_4,.slice A0_5 l0_5.length c0_5,.int .i64 a0_6,.int .i64 a0_7,.string a0_8,.slice A0_9 l0_9.length c0_9,.int .i64 a0_10,.int .i64 a0_11,.string a0_12,.slice A0_13 l0_13.length c0_13,.int .i64 a0_14,.int .i64 a0_15,.string a0_16,.slice A0_17 l0_17.length c0_17,.slice A0_18 l0_18.length c0_18]) (tb := 50) (by exact kX BK118.out) [.int .i64 a0_2,.int .i64 a0_3,.string a0_4,.slice A0_5 l0_5.length c0_5] rfl _ hu29 (by kernel_rfl) ?_)|((with_reducible refine gate_dst (N := 22) rfl ?_);(try (refine gate_guard (by rfl) ?_;dsimp only));refine normW ?_ (by (try simp only [Act.put,List.setIfInBounds_toArray,List.set_cons_zero,List.set_cons_succ]);rfl);refine ldBox rfl 29 _ rfl gb119 2 rfl (l := [.int .i64 a1_0,.string a1_1,.int .i64 a1_2,.int .i64 a1_3,.string a1_4,.slice A1_5 l1_5.length c1_5,.int .i64 a1_6,.int .i64 a1_7,.string a1_8,.slice A1_9 l1_9.length c1_9,.int .i64 a1_10,.int .i64 a1_11,.string a1_12,.slice A1_13 l1_13.length c1_13,.int .i64 a1_14,.int .i64 a1_15,.string a1_16,.slice A1_17 l1_17.length c1_17,.slice A1_18 l1_18.length c1_18]) (tb := 50) (by exact kX BK119.out) [.int .i64 a1_2,.int .i64 a1_3,.string a1_4,.slice A1_5 l1_5.length c1_5] rfl _ hu29 (by kernel_rfl) ?_)|(go_at_call 11;(with_reducible refine (spec_SameExp.calls k a0_2 a0_3 a0_4 _ _ l0_5 a1_2 a1_3 a1_4 _ _ l1_5 true _ ?side1 ?side2 ?side3 ?side4 A8.out).mono ?_);(case side1 => repeat (first|exact (Kd.C_below HR0_5.out HB.out)|(with_reducible refine cA ?_ _)|(with_reducible refine cN ?_ _)|(with_reducible refine cD ?_)));(case side2 => exact HC0_5.out);(case side3 => repeat (first|exact (Kd.C_below HR1_5.out HB.out)|(with_reducible refine cA ?_ _)|(with_reducible refine cN ?_ _)|(with_reducible refine cD ?_)));(case side4 => exact HC1_5.out);rintro e w27 ⟨rfl,hb⟩;have n0_ := mk0 (blk_below (by exact kX BK118.out) hb);have n1_ := mk0 (blk_below (by exact kX BK119.out) hb);have n2_ := mk0 (below_step (by repeat (first|(with_reducible first|exact HB.out|apply bA|apply bN|apply bD|refine bS ?_ GE118.out|refine bS ?_ GE119.out)|exact HB.out)) hb);clear BK118 BK119 HB;have BK118 := n0_;have BK119 := n1_;have HB := n2_;clear n0_ n1_ n2_;(try clear hb);(try clear hb2);(try clear hk);(try clear hi))|((with_reducible refine gate_dst (N := 28) rfl ?_);(try (refine gate_guard (by rfl) ?_;dsimp only));refine normW ?_ (by (try simp only [Act.put,List.setIfInBounds_toArray,List.set_cons_zero,List.set_cons_succ]);rfl);refine ldBox rfl 29 _ rfl gb118 6 rfl (l := [.int .i64 a0_0,.string a0_1,.int .i64 a0_2,.int .i64 a0_3,.string a0_4,.slice A0_5 l0_5.length c0_5,.int .i64 a0_6,.int .i64 a0_7,.string a0_8,.slice A0_9 l0_9.length c0_9,.int .i64 a0_10,.int .i64 a0_11,.string a0_12,.slice A0_13 l0_13.length c0_13,.int .i64 a0_14,.int .i64 a0_15,.string a0_16,.slice A0_17 l0_17.length c0_17,.slice A0_18 l0_18.length c0_18]) (tb := 50) (by exact kX BK118.out) [.int .i64 a0_6,.int .i64 a0_7,.string a0_8,.slice A0_9 l0_9.length c0_9] rfl _ hu29 (by kernel_rfl) ?_)|((with_reducible refine gate_dst (N := 30) rfl ?_);(try (refine gate_guard (by rfl) ?_;dsimp only));refine normW ?_ (by (try simp only [Act.put,List.setIfInBounds_toArray,List.set_cons_zero,List.set_cons_succ]);rfl);refine ldBox rfl 29 _ rfl gb119 6 rfl (l := [.int .i64 a1_0,.string a1_1,.int .i64 a1_2,.int .i64 a1_3,.string a1_4,.slice A1_5 l1_5.length c1_5,.int .i64 a1_6,.int .i64 a1_7,.string a1_8,.slice A1_9 l1_9.length c1_9,.int .i64 a1_10,.int .i64 a1_11,.string a1_12,.slice A1_13 l1_13.length c1_13,.int .i64 a1_14,.int .i64 a1_15,.string a1_16,.slice A1_17 l1_17.length c1_17,.slice A1_18 l1_18.length c1_18]) (tb := 50) (by exact kX BK119.out) [.int .i64 a1_6,.int .i64 a1_7,.string a1_8,.slice A1_9 l1_9.length c1_9] rfl _ hu29 (by kernel_rfl) ?_)|(go_at_call 11;(with_reducible refine (spec_SameExp.calls k a0_6 a0_7 a0_8 _ _ l0_9 a1_6 a1_7 a1_8 _ _ l1_9 true _ ?side1 ?side2 ?side3 ?side4 A10.out).mono ?_);(case side1 => repeat (first|exact (Kd.C_below HR0_9.out HB.out)|(with_reducible refine cA ?_ _)|(with_reducible refine cN ?_ _)|(with_reducible refine cD ?_)));(case side2 => exact HC0_9.out);(case side3 => repeat (first|exact (Kd.C_below HR1_9.out HB.out)|(with_reducible refine cA ?_ _)|(with_reducible refine cN ?_ _)|(with_reducible refine cD ?_)));(case side4 => exact HC1_9.out);rintro e w28 ⟨rfl,hb⟩;have n0_ := mk0 (blk_below (by exact kX BK118.out) hb);have n1_ := mk0 (blk_below (by exact kX BK119.out) hb);have n2_ := mk0 (below_step (by repeat (first|(with_reducible first|exact HB.out|apply bA|apply bN|apply bD|refine bS ?_ GE118.out|refine bS ?_ GE119.out)|exact HB.out)) hb);clear BK118 BK119 HB;have BK118 := n0_;have BK119 := n1_;have HB := n2_;clear n0_ n1_ n2_;(try clear hb);(try clear hb2);(try clear hk);(try clear hi))|((with_reducible refine gate_dst (N := 36) rfl ?_);(try (refine gate_guard (by rfl) ?_;dsimp only));refine normW ?_ (by (try simp only [Act.put,List.setIfInBounds_toArray,List.set_cons_zero,List.set_cons_succ]);rfl);refine ldBox rfl 29 _ rfl gb118 10 rfl (l := [.int .i64 a0_0,.string a0_1,.int .i64 a0_2,.int .i64 a0_3,.string a0_4,.slice A0_5 l0_5.length c0_5,.int .i64 a0_6,.int .i64 a0_7,.string a0_8,.slice A0_9 l0_9.length c0_9,.int .i64 a0_10,.int .i64 a0_11,.string a0_12,.slice A0_13 l0_13.length c0_13,.int .i64 a0_14,.int .i64 a0_15,.string a0_16,.slice A0_17 l0_17.length c0_17,.slice A0_18 l0_18.length c0_18]) (tb := 50) (by exact kX BK118.out) [.int .i64 a0_10,.int .i64 a0_11,.string a0_12,.slice A0_13 l0_13.length c0_13] rfl _ hu29 (by kernel_rfl) ?_)|((with_reducible refine gate_dst (N := 38) rfl ?_);(try (refine gate_guard (by rfl) ?_;dsimp only));refine normW ?_ (by (try simp only [Act.put,List.setIfInBounds_toArray,List.set_cons_zero,List.set_cons_succ]);rfl);refine ldBox rfl 29 _ rfl gb119 10 rfl (l := [.int .i64 a1_0,.string a1_1,.int .i64 a1_2,.int .i64 a1_3,.string a1_4,.slice A1_5 l1_5.length c1_5,.int .i64 a1_6,.int .i64 a1_7,.string a1_8,.slice A1_9 l1_9.length c1_9,.int .i64 a1_10,.int .i64 a1_11,.string a1_12,.slice A1_13 l1_13.length c1_13,.int .i64 a1_14,.int .i64 a1_15,.string a1_16,.slice A1_17 l1_17.length c1_17,.slice A1_18 l1_18.length c1_18]) (tb := 50) (by exact kX BK119.out) [.int .i64 a1_10,.int .i64 a1_11,.string a1_12,.slice A1_13 l1_13.length c1_13] rfl _ hu29 (by kernel_rfl) ?_)|(go_at_call 11;(with_reducible refine (spec_SameExp.calls k a0_10 a0_11 a0_12 _ _ l0_13 a1_10 a1_11 a1_12 _ _ l1_13 false _ ?side1 ?side2 ?side3 ?side4 A12.out).mono ?_);(case side1 => repeat (first|exact (Kd.C_below HR0_13.out HB.out)|(with_reducible refine cA ?_ _)|(with_reducible refine cN ?_ _)|(with_reducible refine cD ?_)));(case side2 => exact HC0_13.out);(case side3 => repeat (first|exact (Kd.C_below HR1_13.out HB.out)|(with_reducible refine cA ?_ _)|(with_reducible refine cN ?_ _)|(with_reducible refine cD ?_)));(case side4 => exact HC1_13.out);rintro e w29 ⟨rfl,hb⟩;have n0_ := mk0 (blk_below (by exact kX BK118.out) hb);have n1_ := mk0 (blk_below (by exact kX BK119.out) hb);have n2_ := mk0 (below_step (by repeat (first|(with_reducible first|exact HB.out|apply bA|apply bN|apply bD|refine bS ?_ GE118.out|refine bS ?_ GE119.out)|exact HB.out)) hb);clear BK118 BK119 HB;have BK118 := n0_;have BK119 := n1_;have HB := n2_;clear n0_ n1_ n2_;(try clear hb);(try clear hb2);(try clear hk);(try clear hi)))
       go_meet
       case rel => exact ⟨_,(true),(by first|rfl|(simp;done)|(simp [*];done)),H',⟨by first|omega|exact Nat.le_refl _⟩,⟨by refine kX ?_;exact BK118.out⟩,⟨by refine kX ?_;exact BK119.out⟩,⟨by repeat (first|(with_reducible first|exact HB.out|apply bA|apply bN|apply bD|refine bS ?_ GE118.out|refine bS ?_ GE119.out)|exact HB.out)⟩⟩
     ·replace c11 := Bool.eq_false_iff.mpr c11
      subst c11
      rw [if_neg (show ¬ (false = true) by decide)] at H
      have H' := mk0 H
      clear H
      go_wp2_with (first|((with_reducible refine gate_dst (N := 7) rfl ?_);(try (refine gate_guard (by rfl) ?_;dsimp only));refine normW ?_ (by (try simp only [Act.put,List.setIfInBounds_toArray,List.set_cons_zero,List.set_cons_succ]);rfl);refine ldOne rfl 3 _ rfl gb118 0 rfl (l := [.int .i64 a0_0,.string a0_1,.int .i64 a0_2,.int .i64 a0_3,.string a0_4,.slice A0_5 l0_5.length c0_5,.int .i64 a0_6,.int .i64 a0_7,.string a0_8,.slice A0_9 l0_9.length c0_9,.int .i64 a0_10,.int .i64 a0_11,.string a0_12,.slice A0_13 l0_13.length c0_13,.int .i64 a0_14,.int .i64 a0_15,.string a0_16,.slice A0_17 l0_17.length c0_17,.slice A0_18 l0_18.length c0_18]) (tb := 50) (by exact kX BK118.out) (.int .i64 a0_0) rfl (fun _ => by kernel_rfl) ?_;have hnb30 := NB118_119.out;have hnc30 := NB119_118.out)|((with_reducible refine gate_dst (N := 9) rfl ?_);(try (refine gate_guard (by rfl) ?_;dsimp only));refine normW ?_ (by (try simp only [Act.put,List.setIfInBounds_toArray,List.set_cons_zero,List.set_cons_succ]);rfl);refine ldOne rfl 3 _ rfl gb119 0 rfl (l := [.int .i64 a1_0,.string a1_1,.int .i64 a1_2,.int .i64 a1_3,.string a1_4,.slice A1_5 l1_5.length c1_5,.int .i64 a1_6,.int .i64 a1_7,.string a1_8,.slice A1_9 l1_9.length c1_9,.int .i64 a1_10,.int .i64 a1_11,.string a1_12,.slice A1_13 l1_13.length c1_13,.int .i64 a1_14,.int .i64 a1_15,.string a1_16,.slice A1_17 l1_17.length c1_17,.slice A1_18 l1_18.length c1_18]) (tb := 50) (by exact kX BK119.out) (.int .i64 a1_0) rfl (fun _ => by kernel_rfl) ?_)|((with_reducible refine gate_dst (N := 13) rfl ?_);(try (refine gate_guard (by rfl) ?_;dsimp only));refine normW ?_ (by (try simp only [Act.put,List.setIfInBounds_toArray,List.set_cons_zero,List.set_cons_succ]);rfl);refine ldOne rfl 9 _ rfl gb118 1 rfl (l := [.int .i64 a0_0,.string a0_1,.int .i64 a0_2,.int .i64 a0_3,.string a0_4,.slice A0_5 l0_5.length c0_5,.int .i64 a0_6,.int .i64 a0_7,.string a0_8,.slice A0_9 l0_9.length c0_9,.int .i64 a0_10,.int .i64 a0_11,.string a0_12,.slice A0_13 l0_13.length c0_13,.int .i64 a0_14,.int .i64 a0_15,.string a0_16,.slice A0_17 l0_17.length c0_17,.slice A0_18 l0_18.length c0_18]) (tb := 50) (by exact kX BK118.out) (.string a0_1) rfl (fun _ => by kernel_rfl) ?_)|((with_reducible refine gate_dst (N := 15) rfl ?_);(try (refine gate_guard (by rfl) ?_;dsimp only));refine normW ?_ (by (try simp only [Act.put,List.setIfInBounds_toArray,List.set_cons_zero,List.set_cons_succ]);rfl);refine ldOne rfl 9 _ rfl gb119 1 rfl (l := [.int .i64 a1_0,.string a1_1,.int .i64 a1_2,.int .i64 a1_3,.string a1_4,.slice A1_5 l1_5.length c1_5,.int .i64 a1_6,.int .i64 a1_7,.string a1_8,.slice A1_9 l1_9.length c1_9,.int .i64 a1_10,.int .i64 a1_11,.string a1_12,.slice A1_13 l1_13.length c1_13,.int .i64 a1_14,.int .i64 a1_15,.string a1_16,.slice A1_17 l1_17.length c1_17,.slice A1_18 l1_18.length c1_18]) (tb := 50) (by exact kX BK119.out) (.string a1_1) rfl (fun _ => by kernel_rfl) ?_)|((with_reducible refine gate_dst (N := 20) rfl ?_);(try (refine gate_guard (by rfl) ?_;dsimp only));refine normW ?_ (by (try simp only [Act.put,List.setIfInBounds_toArray,List.set_cons_zero,List.set_cons_succ]);rfl);refine ldBox rfl 29 _ rfl gb118 2 rfl (l := [.int .i64 a0_0,.string a0_1,.int .i64 a0_2,.int .i64 a0_3,.string a0_4,.slice A0_5 l0_5.length c0_5,.int .i64 a0_6,.int .i64 a0_7,.string a0_8,.slice A0_9 l0_9.length c0_9,.int .i64 a0_10,.int .i64 a0_11,.string a0_12,.slice A0_13 l0_13.length c0_13,.int .i64 a0_14,.int .i64 a0_15,.string a0_16,.slice A0_17 l0_17.length c0_17,.slice A0_18 l0_18.length c0_18]) (tb := 50) (by exact kX BK118.out) [.int .i64 a0_2,.int .i64 a0_3,.string a0_4,.slice A0_5 l0_5.length c0_5] rfl _ hu29 (by kernel_rfl) ?_)|((with_reducible refine gate_dst (N := 22) rfl ?_);(try (refine gate_guard (by rfl) ?_;dsimp only));refine normW ?_ (by (try simp only [Act.put,List.setIfInBounds_toArray,List.set_cons_zero,List.set_cons_succ]);rfl);refine ldBox rfl 29 _ rfl gb119 2 rfl (l := [.int .i64 a1_0,.string a1_1,.int .i64 a1_2,.int .i64 a1_3,.string a1_4,.slice A1_5 l1_5.length c1_5,.int .i64 a1_6,.int .i64 a1_7,.string a1_8,.slice A1_9 l1_9.length c1_9,.int .i64 a1_10,.int .i64 a1_11,.string a1_12,.slice A1_13 l1_13.length c1_13,.int .i64 a1_14,.int .i64 a1_15,.string a1_16,.slice A1_17 l1_17.length c1_17,.slice A1_18 l1_18.length c1_18]) (tb := 50) (by exact kX BK119.out) [.int .i64 a1_2,.int .i64 a1_3,.string a1_4,.slice A1_5 l1_5.length c1_5] rfl _ hu29 (by kernel_rfl) ?_)|(go_at_call 11;(with_reducible refine (spec_SameExp.calls k a0_2 a0_3 a0_4 _ _ l0_5 a1_2 a1_3 a1_4 _ _ l1_5 true _ ?side1 ?side2 ?side3 ?side4 A8.out).mono ?_);(case side1 => repeat (first|exact (Kd.C_below HR0_5.out HB.out)|(with_reducible refine cA ?_ _)|(with_reducible refine cN ?_ _)|(with_reducible refine cD ?_)));(case side2 => exact HC0_5.out);(case side3 => repeat (first|exact (Kd.C_below HR1_5.out HB.out)|(with_reducible refine cA ?_ _)|(with_reducible refine cN ?_ _)|(with_reducible refine cD ?_)));(case side4 => exact HC1_5.out);rintro e w31 ⟨rfl,hb⟩;have n0_ := mk0 (blk_below (by exact kX BK118.out) hb);have n1_ := mk0 (blk_below (by exact kX BK119.out) hb);have n2_ := mk0 (below_step (by repeat (first|(with_reducible first|exact HB.out|apply bA|apply bN|apply bD|refine bS ?_ GE118.out|refine bS ?_ GE119.out)|exact HB.out)) hb);clear BK118 BK119 HB;have BK118 := n0_;have BK119 := n1_;have HB := n2_;clear n0_ n1_ n2_;(try clear hb);(try clear hb2);(try clear hk);(try clear hi))|((with_reducible refine gate_dst (N := 28) rfl ?_);(try (refine gate_guard (by rfl) ?_;dsimp only));refine normW ?_ (by (try simp only [Act.put,List.setIfInBounds_toArray,List.set_cons_zero,List.set_cons_succ]);rfl);refine ldBox rfl 29 _ rfl gb118 6 rfl (l := [.int .i64 a0_0,.string a0_1,.int .i64 a0_2,.int .i64 a0_3,.string a0_4,.slice A0_5 l0_5.length c0_5,.int .i64 a0_6,.int .i64 a0_7,.string a0_8,.slice A0_9 l0_9.length c0_9,.int .i64 a0_10,.int .i64 a0_11,.string a0_12,.slice A0_13 l0_13.length c0_13,.int .i64 a0_14,.int .i64 a0_15,.string a0_16,.slice A0_17 l0_17.length c0_17,.slice A0_18 l0_18.length c0_18]) (tb := 50) (by exact kX BK118.out) [.int .i64 a0_6,.int .i64 a0_7,.string a0_8,.slice A0_9 l0_9.length c0_9] rfl _ hu29 (by kernel_rfl) ?_)|((with_reducible refine gate_dst (N := 30) rfl ?_);(try (refine gate_guard (by rfl) ?_;dsimp only));refine normW ?_ (by (try simp only [Act.put,List.setIfInBounds_toArray,List.set_cons_zero,List.set_cons_succ]);rfl);refine ldBox rfl 29 _ rfl gb119 6 rfl (l := [.int .i64 a1_0,.string a1_1,.int .i64 a1_2,.int .i64 a1_3,.string a1_4,.slice A1_5 l1_5.length c1_5,.int .i64 a1_6,.int .i64 a1_7,.string a1_8,.slice A1_9 l1_9.length c1_9,.int .i64 a1_10,.int .i64 a1_11,.string a1_12,.slice A1_13 l1_13.length c1_13,.int .i64 a1_14,.int .i64 a1_15,.string a1_16,.slice A1_17 l1_17.length c1_17,.slice A1_18 l1_18.length c1_18]) (tb := 50) (by exact kX BK119.out) [.int .i64 a1_6,.int .i64 a1_7,.string a1_8,.slice A1_9 l1_9.length c1_9] rfl _ hu29 (by kernel_rfl) ?_)|(go_at_call 11;(with_reducible refine (spec_SameExp.calls k a0_6 a0_7 a0_8 _ _ l0_9 a1_6 a1_7 a1_8 _ _ l1_9 false _ ?side1 ?side2 ?side3 ?side4 A10.out).mono ?_);(case side1 => repeat (first|exact (Kd.C_below HR0_9.out HB.out)|(with_reducible refine cA ?_ _)|(with_reducible refine cN ?_ _)|(with_reducible refine cD ?_)));(case side2 => exact HC0_9.out);(case side3 => repeat (first|exact (Kd.C_below HR1_9.out HB.out)|(with_reducible refine cA ?_ _)|(with_reducible refine cN ?_ _)|(with_reducible refine cD ?_)));(case side4 => exact HC1_9.out);rintro e w32 ⟨rfl,hb⟩;have n0_ := mk0 (blk_below (by exact kX BK118.out) hb);have n1_ := mk0 (blk_below (by exact kX BK119.out) hb);have n2_ := mk0 (below_step (by repeat (first|(with_reducible first|exact HB.out|apply bA|apply bN|apply bD|refine bS ?_ GE118.out|refine bS ?_ GE119.out)|exact HB.out)) hb);clear BK118 BK119 HB;have BK118 := n0_;have BK119 := n1_;have HB := n2_;clear n0_ n1_ n2_;(try clear hb);(try clear hb2);(try clear hk);(try clear hi)))
      go_meet
      case rel => exact ⟨_,(true),(by first|rfl|(simp;done)|(simp [*];done)),H',⟨by first|omega|exact Nat.le_refl _⟩,⟨by refine kX ?_;exact BK118.out⟩,⟨by refine kX ?_;exact BK119.out⟩,⟨by repeat (first|(with_reducible first|exact HB.out|apply bA|apply bN|apply bD|refine bS ?_ GE118.out|refine bS ?_ GE119.out)|exact HB.out)⟩⟩
    ·replace c9 := Bool.eq_false_iff.mpr c9
     subst c9
     rw [if_neg (show ¬ (false = true) by decide)] at H
     have H' := mk0 H
     clear H
     go_wp2_with (first|((with_reducible refine gate_dst (N := 7) rfl ?_);(try (refine gate_guard (by rfl) ?_;dsimp only));refine normW ?_ (by (try simp only [Act.put,List.setIfInBounds_toArray,List.set_cons_zero,List.set_cons_succ]);rfl);refine ldOne rfl 3 _ rfl gb118 0 rfl (l := [.int .i64 a0_0,.string a0_1,.int .i64 a0_2,.int .i64 a0_3,.string a0_4,.slice A0_5 l0_5.length c0_5,.int .i64 a0_6,.int .i64 a0_7,.string a0_8,.slice A0_9 l0_9.length c0_9,.int .i64 a0_10,.int .i64 a0_11,.string a0_12,.slice A0_13 l0_13.length c0_13,.int .i64 a0_14,.int .i64 a0_15,.string a0_16,.slice A0_17 l0_17.length c0_17,.slice A0_18 l0_18.length c0_18]) (tb := 50) (by exact kX BK118.out) (.int .i64 a0_0) rfl (fun _ => by kernel_rfl) ?_;have hnb33 := NB118_119.out;have hnc33 := NB119_118.out)|((with_reducible refine gate_dst (N := 9) rfl ?_);(try (refine gate_guard (by rfl) ?_;dsimp only));refine normW ?_ (by (try simp only [Act.put,List.setIfInBounds_toArray,List.set_cons_zero,List.set_cons_succ]);rfl);refine ldOne rfl 3 _ rfl gb119 0 rfl (l := [.int .i64 a1_0,.string a1_1,.int .i64 a1_2,.int .i64 a1_3,.string a1_4,.slice A1_5 l1_5.length c1_5,.int .i64 a1_6,.int .i64 a1_7,.string a1_8,.slice A1_9 l1_9.length c1_9,.int .i64 a1_10,.int .i64 a1_11,.string a1_12,.slice A1_13 l1_13.length c1_13,.int .i64 a1_14,.int .i64 a1_15,.string a1_16,.slice A1_17 l1_17.length c1_17,.slice A1_18 l1_18.length c1_18]) (tb := 50) (by exact kX BK119.out) (.int .i64 a1_0) rfl (fun _ => by kernel_rfl) ?_)|((with_reducible refine gate_dst (N := 13) rfl ?_);(try (refine gate_guard (by rfl) ?_;dsimp only));refine normW ?_ (by (try simp only [Act.put,List.setIfInBounds_toArray,List.set_cons_zero,List.set_cons_succ]);rfl);refine ldOne rfl 9 _ rfl gb118 1 rfl (l := [.int .i64 a0_0,.string a0_1,.int .i64 a0_2,.int .i64 a0_3,.string a0_4,.slice A0_5 l0_5.length c0_5,.int .i64 a0_6,.int .i64 a0_7,.string a0_8,.slice A0_9 l0_9.length c0_9,.int .i64 a0_10,.int .i64 a0_11,.string a0_12,.slice A0_13 l0_13.length c0_13,.int .i64 a0_14,.int .i64 a0_15,.string a0_16,.slice A0_17 l0_17.length c0_17,.slice A0_18 l0_18.length c0_18]) (tb := 50) (by exact kX BK118.out) (.string a0_1) rfl (fun _ => by kernel_rfl) ?_)|((with_reducible refine gate_dst (N := 15) rfl ?_);(try (refine gate_guard (by rfl) ?_;dsimp only));refine normW ?_ (by (try simp only [Act.put,List.setIfInBounds_toArray,List.set_cons_zero,List.set_cons_succ]);rfl);refine ldOne rfl 9 _ rfl gb119 1 rfl (l := [.int .i64 a1_0,.string a1_1,.int .i64 a1_2,.int .i64 a1_3,.string a1_4,.slice A1_5 l1_5.length c1_5,.int .i64 a1_6,.int .i64 a1_7,.string a1_8,.slice A1_9 l1_9.length c1_9,.int .i64 a1_10,.int .i64 a1_11,.string a1_12,.slice A1_13 l1_13.length c1_13,.int .i64 a1_14,.int .i64 a1_15,.string a1_16,.slice A1_17 l1_17.length c1_17,.slice A1_18 l1_18.length c1_18]) (tb := 50) (by exact kX BK119.out) (.string a1_1) rfl (fun _ => by kernel_rfl) ?_)|((with_reducible refine gate_dst (N := 20) rfl ?_);(try (refine gate_guard (by rfl) ?_;dsimp only));refine normW ?_ (by (try simp only [Act.put,List.setIfInBounds_toArray,List.set_cons_zero,List.set_cons_succ]);rfl);refine ldBox rfl 29 _ rfl gb118 2 rfl (l := [.int .i64 a0_0,.string a0_1,.int .i64 a0_2,.int .i64 a0_3,.string a0_4,.slice A0_5 l0_5.length c0_5,.int .i64 a0_6,.int .i64 a0_7,.string a0_8,.slice A0_9 l0_9.length c0_9,.int .i64 a0_10,.int .i64 a0_11,.string a0_12,.slice A0_13 l0_13.length c0_13,.int .i64 a0_14,.int .i64 a0_15,.string a0_16,.slice A0_17 l0_17.length c0_17,.slice A0_18 l0_18.length c0_18]) (tb := 50) (by exact kX BK118.out) [.int .i64 a0_2,.int .i64 a0_3,.string a0_4,.slice A0_5 l0_5.length c0_5] rfl _ hu29 (by kernel_rfl) ?_)|((with_reducible refine gate_dst (N := 22) rfl ?_);(try (refine gate_guard (by rfl) ?_;dsimp only));refine normW ?_ (by (try simp only [Act.put,List.setIfInBounds_toArray,List.set_cons_zero,List.set_cons_succ]);rfl);refine ldBox rfl 29 _ rfl gb119 2 rfl (l := [.int .i64 a1_0,.string a1_1,.int .i64 a1_2,.int .i64 a1_3,.string a1_4,.slice A1_5 l1_5.length c1_5,.int .i64 a1_6,.int .i64 a1_7,.string a1_8,.slice A1_9 l1_9.length c1_9,.int .i64 a1_10,.int .i64 a1_11,.string a1_12,.slice A1_13 l1_13.length c1_13,.int .i64 a1_14,.int .i64 a1_15,.string a1_16,.slice A1_17 l1_17.length c1_17,.slice A1_18 l1_18.length c1_18]) (tb := 50) (by exact kX BK119.out) [.int .i64 a1_2,.int .i64 a1_3,.string a1_4,.slice A1_5 l1_5.length c1_5] rfl _ hu29 (by kernel_rfl) ?_)|(go_at_call 11;(with_reducible refine (spec_SameExp.calls k a0_2 a0_3 a0_4 _ _ l0_5 a1_2 a1_3 a1_4 _ _ l1_5 false _ ?side1 ?side2 ?side3 ?side4 A8.out).mono ?_);(case side1 => repeat (first|exact (Kd.C_below HR0_5.out HB.out)|(with_reducible refine cA ?_ _)|(with_reducible refine cN ?_ _)|(with_reducible refine cD ?_)));(case side2 => exact HC0_5.out);(case side3 => repeat (first|exact (Kd.C_below HR1_5.out HB.out)|(with_reducible refine cA ?_ _)|(with_reducible refine cN ?_ _)|(with_reducible refine cD ?_)));(case side4 => exact HC1_5.out);rintro e w34 ⟨rfl,hb⟩;have n0_ := mk0 (blk_below (by exact kX BK118.out) hb);have n1_ := mk0 (blk_below (by exact kX BK119.out) hb);have n2_ := mk0 (below_step (by repeat (first|(with_reducible first|exact HB.out|apply bA|apply bN|apply bD|refine bS ?_ GE118.out|refine bS ?_ GE119.out)|exact HB.out)) hb);clear BK118 BK119 HB;have BK118 := n0_;have BK119 := n1_;have HB := n2_;clear n0_ n1_ n2_;(try clear hb);(try clear hb2);(try clear hk);(try clear hi)))
     go_meet
     case rel => exact ⟨_,(true),(by first|rfl|(simp;done)|(simp [*];done)),H',⟨by first|omega|exact Nat.le_refl _⟩,⟨by refine kX ?_;exact BK118.out⟩,⟨by refine kX ?_;exact BK119.out⟩,⟨by repeat (first|(with_reducible first|exact HB.out|apply bA|apply bN|apply bD|refine bS ?_ GE118.out|refine bS ?_ GE119.out)|exact HB.out)⟩⟩
   ·rw [if_neg c7] at H
    have c7b0 : (a0_1.toList == a1_1.toList) = false := beq_eq_false_iff_ne.mpr c7
    have c7b1 : (a0_1.toList != a1_1.toList) = true := bne_iff_ne.mpr c7
    have H' := mk0 H
    clear H
    go_wp2_with (first|((with_reducible refine gate_dst (N := 7) rfl ?_);(try (refine gate_guard (by rfl) ?_;dsimp only));refine normW ?_ (by (try simp only [Act.put,List.setIfInBounds_toArray,List.set_cons_zero,List.set_cons_succ]);rfl);refine ldOne rfl 3 _ rfl gb118 0 rfl (l := [.int .i64 a0_0,.string a0_1,.int .i64 a0_2,.int .i64 a0_3,.string a0_4,.slice A0_5 l0_5.length c0_5,.int .i64 a0_6,.int .i64 a0_7,.string a0_8,.slice A0_9 l0_9.length c0_9,.int .i64 a0_10,.int .i64 a0_11,.string a0_12,.slice A0_13 l0_13.length c0_13,.int .i64 a0_14,.int .i64 a0_15,.string a0_16,.slice A0_17 l0_17.length c0_17,.slice A0_18 l0_18.length c0_18]) (tb := 50) (by exact kX BK118.out) (.int .i64 a0_0) rfl (fun _ => by kernel_rfl) ?_;have hnb35 := NB118_119.out;have hnc35 := NB119_118.out)|((with_reducible refine gate_dst (N := 9) rfl ?_);(try (refine gate_guard (by rfl) ?_;dsimp only));refine normW ?_ (by (try simp only [Act.put,List.setIfInBounds_toArray,List.set_cons_zero,List.set_cons_succ]);rfl);refine ldOne rfl 3 _ rfl gb119 0 rfl (l := [.int .i64 a1_0,.string a1_1,.int .i64 a1_2,.int .i64 a1_3,.string a1_4,.slice A1_5 l1_5.length c1_5,.int .i64 a1_6,.int .i64 a1_7,.string a1_8,.slice A1_9 l1_9.length c1_9,.int .i64 a1_10,.int .i64 a1_11,.string a1_12,.slice A1_13 l1_13.length c1_13,.int .i64 a1_14,.int .i64 a1_15,.string a1_16,.slice A1_17 l1_17.length c1_17,.slice A1_18 l1_18.length c1_18]) (tb := 50) (by exact kX BK119.out) (.int .i64 a1_0) rfl (fun _ => by kernel_rfl) ?_)|((with_reducible refine gate_dst (N := 13) rfl ?_);(try (refine gate_guard (by rfl) ?_;dsimp only));refine normW ?_ (by (try simp only [Act.put,List.setIfInBounds_toArray,List.set_cons_zero,List.set_cons_succ]);rfl);refine ldOne rfl 9 _ rfl gb118 1 rfl (l := [.int .i64 a0_0,.string a0_1,.int .i64 a0_2,.int .i64 a0_3,.string a0_4,.slice A0_5 l0_5.length c0_5,.int .i64 a0_6,.int .i64 a0_7,.string a0_8,.slice A0_9 l0_9.length c0_9,.int .i64 a0_10,.int .i64 a0_11,.string a0_12,.slice A0_13 l0_13.length c0_13,.int .i64 a0_14,.int .i64 a0_15,.string a0_16,.slice A0_17 l0_17.length c0_17,.slice A0_18 l0_18.length c0_18]) (tb := 50) (by exact kX BK118.out) (.string a0_1) rfl (fun _ => by kernel_rfl) ?_)|((with_reducible refine gate_dst (N := 15) rfl ?_);(try (refine gate_guard (by rfl) ?_;dsimp only));refine normW ?_ (by (try simp only [Act.put,List.setIfInBounds_toArray,List.set_cons_zero,List.set_cons_succ]);rfl);refine ldOne rfl 9 _ rfl gb119 1 rfl (l := [.int .i64 a1_0,.string a1_1,.int .i64 a1_2,.int .i64 a1_3,.string a1_4,.slice A1_5 l1_5.length c1_5,.int .i64 a1_6,.int .i64 a1_7,.string a1_8,.slice A1_9 l1_9.length c1_9,.int .i64 a1_10,.int .i64 a1_11,.string a1_12,.slice A1_13 l1_13.length c1_13,.int .i64 a1_14,.int .i64 a1_15,.string a1_16,.slice A1_17 l1_17.length c1_17,.slice A1_18 l1_18.length c1_18]) (tb := 50) (by exact kX BK119.out) (.string a1_1) rfl (fun _ => by kernel_rfl) ?_))
    go_meet
    case rel => exact ⟨_,(true),(by first|rfl|(simp;done)|(simp [*];done)),H',⟨by first|omega|exact Nat.le_refl _⟩,⟨by refine kX ?_;exact BK118.out⟩,⟨by refine kX ?_;exact BK119.out⟩,⟨by repeat (first|(with_reducible first|exact HB.out|apply bA|apply bN|apply bD|refine bS ?_ GE118.out|refine bS ?_ GE119.out)|exact HB.out)⟩⟩
  ·rw [if_neg c6] at H
   have c6b0 : (a0_0 == a1_0) = false := beq_eq_false_iff_ne.mpr c6
   have c6b1 : (a0_0 != a1_0) = true := bne_iff_ne.mpr c6
   (first|rw [c6b0]|(simp only [i64_w,i32_w];rw [c6b0])|skip)
   have H' := mk0 H
   clear H
   go_wp2_with (first|((with_reducible refine gate_dst (N := 7) rfl ?_);(try (refine gate_guard (by rfl) ?_;dsimp only));refine normW ?_ (by (try simp only [Act.put,List.setIfInBounds_toArray,List.set_cons_zero,List.set_cons_succ]);rfl);refine ldOne rfl 3 _ rfl gb118 0 rfl (l := [.int .i64 a0_0,.string a0_1,.int .i64 a0_2,.int .i64 a0_3,.string a0_4,.slice A0_5 l0_5.length c0_5,.int .i64 a0_6,.int .i64 a0_7,.string a0_8,.slice A0_9 l0_9.length c0_9,.int .i64 a0_10,.int .i64 a0_11,.string a0_12,.slice A0_13 l0_13.length c0_13,.int .i64 a0_14,.int .i64 a0_15,.string a0_16,.slice A0_17 l0_17.length c0_17,.slice A0_18 l0_18.length c0_18]) (tb := 50) (by exact kX BK118.out) (.int .i64 a0_0) rfl (fun _ => by kernel_rfl) ?_;have hnb36 := NB118_119.out;have hnc36 := NB119_118.out)|((with_reducible refine gate_dst (N := 9) rfl ?_);(try (refine gate_guard (by rfl) ?_;dsimp only));refine normW ?_ (by (try simp only [Act.put,List.setIfInBounds_toArray,List.set_cons_zero,List.set_cons_succ]);rfl);refine ldOne rfl 3 _ rfl gb119 0 rfl (l := [.int .i64 a1_0,.string a1_1,.int .i64 a1_2,.int .i64 a1_3,.string a1_4,.slice A1_5 l1_5.length c1_5,.int .i64 a1_6,.int .i64 a1_7,.string a1_8,.slice A1_9 l1_9.length c1_9,.int .i64 a1_10,.int .i64 a1_11,.string a1_12,.slice A1_13 l1_13.length c1_13,.int .i64 a1_14,.int .i64 a1_15,.string a1_16,.slice A1_17 l1_17.length c1_17,.slice A1_18 l1_18.length c1_18]) (tb := 50) (by exact kX BK119.out) (.int .i64 a1_0) rfl (fun _ => by kernel_rfl) ?_))
   go_meet
   case rel => exact ⟨_,(true),(by first|rfl|(simp;done)|(simp [*];done)),H',⟨by first|omega|exact Nat.le_refl _⟩,⟨by refine kX ?_;exact BK118.out⟩,⟨by refine kX ?_;exact BK119.out⟩,⟨by repeat (first|(with_reducible first|exact HB.out|apply bA|apply bN|apply bD|refine bS ?_ GE118.out|refine bS ?_ GE119.out)|exact HB.out)⟩⟩
 case rest =>
  clear HC3
  try clear c1
  try clear c2
  try clear p2
  try clear c3
  try clear c6
  try clear c6b0
  try clear c6b1
  try clear c7
  try clear c7b0
  try clear c7b1
  try clear c9
  try clear c11
  try clear c13
  try clear c15
  try clear c16
  try clear c21
  try clear c23
  try clear c26
  try clear c30
  try clear c33
  try clear c35
  try clear c36
  obtain ⟨kq,x58_2,rfl,HA,HJ2,BK118,BK119,HB⟩ := hcut
  cases kq with
   |zero => exact absurd HA.out (by simp [spec_SameStmt.j0])
   |succ kj2 =>
   have H := HA.out
   clear HA
   simp only [spec_SameStmt.j0] at H
   by_cases c37 : x58_2 = true
   ·subst c37
    rw [if_pos rfl] at H
    obtain rfl := Option.some.inj H
    go_wp2
    go_ret
    exact ⟨by first|rfl|(simp [errW_none,errW_some] <;> rfl)|(simp [*,errW_none,errW_some] <;> rfl),by repeat (first|(with_reducible first|exact HB.out|apply bA|apply bN|apply bD|refine bS ?_ GE118.out|refine bS ?_ GE119.out)|exact HB.out)⟩
   ·replace c37 := Bool.eq_false_iff.mpr c37
    subst c37
    rw [if_neg (show ¬ (false = true) by decide)] at H
    have H' := mk0 H
    clear H
    go_wp2
    go_loopg [5] kj2 (fun kq v5 w' => ∃ (x5_2 : Int),v5 = .int .i64 x5_2 ∧ Aside0 (spec_SameStmt.l0 kq x5_2 a0_0 a0_1 a0_2 a0_3 a0_4 l0_5 a0_6 a0_7 a0_8 l0_9 a0_10 a0_11 a0_12 l0_13 a0_14 a0_15 a0_16 l0_17 l0_18 a1_0 a1_1 a1_2 a1_3 a1_4 l1_5 a1_6 a1_7 a1_8 l1_9 a1_10 a1_11 a1_12 l1_13 a1_14 a1_15 a1_16 l1_17 l1_18 = some r) ∧ Aside0 (kq ≤ kj2) ∧ Aside0 (w'.heap[gb118]? = some (.cells #[.int .i64 a0_0,.string a0_1,.int .i64 a0_2,.int .i64 a0_3,.string a0_4,(.slice A0_5 l0_5.length c0_5),.int .i64 a0_6,.int .i64 a0_7,.string a0_8,(.slice A0_9 l0_9.length c0_9),.int .i64 a0_10,.int .i64 a0_11,.string a0_12,(.slice A0_13 l0_13.length c0_13),.int .i64 a0_14,.int .i64 a0_15,.string a0_16,(.slice A0_17 l0_17.length c0_17),(.slice A0_18 l0_18.length c0_18)] 50 (0,0))) ∧ Aside0 (w'.heap[gb119]? = some (.cells #[.int .i64 a1_0,.string a1_1,.int .i64 a1_2,.int .i64 a1_3,.string a1_4,(.slice A1_5 l1_5.length c1_5),.int .i64 a1_6,.int .i64 a1_7,.string a1_8,(.slice A1_9 l1_9.length c1_9),.int .i64 a1_10,.int .i64 a1_11,.string a1_12,(.slice A1_13 l1_13.length c1_13),.int .i64 a1_14,.int .i64 a1_15,.string a1_16,(.slice A1_17 l1_17.length c1_17),(.slice A1_18 l1_18.length c1_18)] 50 (0,0))) ∧ Aside0 (Below w.heap.size w w'))
    case atStart => exact ⟨(0),(by first|rfl|(simp;done)|(simp [*];done)),H',⟨Nat.le_refl _⟩,⟨by refine kX ?_;exact BK118.out⟩,⟨by refine kX ?_;exact BK119.out⟩,⟨by repeat (first|(with_reducible first|exact HB.out|apply bA|apply bN|apply bD|refine bS ?_ GE118.out|refine bS ?_ GE119.out)|exact HB.out)⟩⟩
    case round =>
     clear H'
     try clear c1
     try clear c2
     try clear p2
     try clear c3
     try clear c6
     try clear c6b0
     try clear c6b1
     try clear c7
     try clear c7b0
     try clear c7b1
     try clear c9
     try clear c11
     try clear c13
     try clear c15
     try clear c16
     try clear c21
     try clear c23
     try clear c26
     try clear c30
     try clear c33
     try clear c35
     try clear c36
     try clear c37
     try clear p2
     obtain ⟨x5_2,rfl,HA,HK2,BK118,BK119,HB⟩ := hrel
     cases gk with
         |zero => exact absurd HA.out (by simp [spec_SameStmt.l0])
         |succ k2 =>
      have H := HA.out
      clear HA
      simp only [spec_SameStmt.l0] at H
      by_cases c38 : x5_2 < (l0_18.length : Int)
      ·rw [if_pos c38] at H
       have c38b0 : decide (x5_2 < (l0_18.length : Int)) = true := decide_eq_true c38
       clear c38
       by_cases c39 : 0 ≤ x5_2
       ·rw [if_pos c39] at H
        have c39b0 : decide (0 ≤ x5_2) = true := decide_eq_true c39
        clear c39
        by_cases c40 : x5_2 < (l1_18.length : Int)
        ·rw [if_pos c40] at H
         have c40b0 : decide (x5_2 < (l1_18.length : Int)) = true := decide_eq_true c40
         clear c40
         obtain ⟨t126,A41,H⟩ := bindA H
         by_cases c42 : t126 = true
         ·subst c42
          rw [if_pos rfl] at H
          have H' := mk0 H
          clear H
          try go_wp2_with (first|((with_reducible refine gate_dst (N := 61) rfl ?_);(try (refine gate_guard (by rfl) ?_;dsimp only));refine normW ?_ (by (try simp only [Act.put,List.setIfInBounds_toArray,List.set_cons_zero,List.set_cons_succ]);rfl);refine ldOne rfl 48 _ rfl gb118 18 rfl (l := [.int .i64 a0_0,.string a0_1,.int .i64 a0_2,.int .i64 a0_3,.string a0_4,.slice A0_5 l0_5.length c0_5,.int .i64 a0_6,.int .i64 a0_7,.string a0_8,.slice A0_9 l0_9.length c0_9,.int .i64 a0_10,.int .i64 a0_11,.string a0_12,.slice A0_13 l0_13.length c0_13,.int .i64 a0_14,.int .i64 a0_15,.string a0_16,.slice A0_17 l0_17.length c0_17,.slice A0_18 l0_18.length c0_18]) (tb := 50) (by exact kX BK118.out) (.slice A0_18 l0_18.length c0_18) rfl (fun _ => by kernel_rfl) ?_;have hnb43 := NB118_119.out;have hnc43 := NB119_118.out))
          have n0_ := mk0 (kD BK118.out)
          have n1_ := mk0 (kD BK119.out)
          have n2_ := mk0 (bD HB.out)
          clear BK118
          clear BK119
          clear HB
          have BK118 := n0_
          have BK119 := n1_
          have HB := n2_
          clear n0_ n1_ n2_
          have p124 : 0 ≤ (x5_2 : Int) := of_decide_eq_true (by first|(with_reducible assumption)|assumption)
          have q124 : x5_2 < (l0_18.length : Int) := of_decide_eq_true (by first|(with_reducible assumption)|assumption)
          obtain ⟨ad124,A124_5,c124_5,A124_9,c124_9,A124_13,c124_13,A124_17,c124_17,A124_18,c124_18,e124,hx124_0,hx124_1,hx124_2,hx124_3,hx124_4,hx124_5,hx124_6,hx124_7,hx124_8,hx124_9,hx124_10,hx124_11,hx124_12,hx124_13,hx124_14,hx124_15,hx124_16,hx124_17,hx124_18,hl124_5,hi124_5,hl124_9,hi124_9,hl124_13,hi124_13,hl124_17,hi124_17,hl124_18,hi124_18⟩ := at_T50 HR0_18.out x5_2 p124 q124
          have hw124_18 := hx124_18
          have hw124_17 := hx124_17
          have hw124_16 := hx124_16
          have hw124_15 := hx124_15
          have hw124_14 := hx124_14
          have hw124_13 := hx124_13
          have hw124_12 := hx124_12
          have hw124_11 := hx124_11
          have hw124_10 := hx124_10
          have hw124_9 := hx124_9
          have hw124_8 := hx124_8
          have hw124_7 := hx124_7
          have hw124_6 := hx124_6
          have hw124_5 := hx124_5
          have hw124_4 := hx124_4
          have hw124_3 := hx124_3
          have hw124_2 := hx124_2
          have hw124_1 := hx124_1
          have hw124_0 := hx124_0
          cases e124
          replace hx124_0 := hbc HB.out hx124_0
          replace hx124_1 := hbc HB.out hx124_1
          replace hx124_2 := hbc HB.out hx124_2
          replace hx124_3 := hbc HB.out hx124_3
          replace hx124_4 := hbc HB.out hx124_4
          replace hx124_5 := hbc HB.out hx124_5
          replace hx124_6 := hbc HB.out hx124_6
          replace hx124_7 := hbc HB.out hx124_7
          replace hx124_8 := hbc HB.out hx124_8
          replace hx124_9 := hbc HB.out hx124_9
          replace hx124_10 := hbc HB.out hx124_10
          replace hx124_11 := hbc HB.out hx124_11
          replace hx124_12 := hbc HB.out hx124_12
          replace hx124_13 := hbc HB.out hx124_13
          replace hx124_14 := hbc HB.out hx124_14
          replace hx124_15 := hbc HB.out hx124_15
          replace hx124_16 := hbc HB.out hx124_16
          replace hx124_17 := hbc HB.out hx124_17
          replace hx124_18 := hbc HB.out hx124_18
          have HR124_5 := mk0 hi124_5
          have HC124_5 := mk0 hl124_5
          clear hi124_5 hl124_5
          have HR124_9 := mk0 hi124_9
          have HC124_9 := mk0 hl124_9
          clear hi124_9 hl124_9
          have HR124_13 := mk0 hi124_13
          have HC124_13 := mk0 hl124_13
          clear hi124_13 hl124_13
          have HR124_17 := mk0 hi124_17
          have HC124_17 := mk0 hl124_17
          clear hi124_17 hl124_17
          have HR124_18 := mk0 hi124_18
          have HC124_18 := mk0 hl124_18
          clear hi124_18 hl124_18
          replace p124 := eq_true p124
          replace q124 := eq_true q124
          have p125 : 0 ≤ (x5_2 : Int) := of_decide_eq_true (by first|(with_reducible assumption)|assumption)
          have q125 : x5_2 < (l1_18.length : Int) := of_decide_eq_true (by first|(with_reducible assumption)|assumption)
          obtain ⟨ad125,A125_5,c125_5,A125_9,c125_9,A125_13,c125_13,A125_17,c125_17,A125_18,c125_18,e125,hx125_0,hx125_1,hx125_2,hx125_3,hx125_4,hx125_5,hx125_6,hx125_7,hx125_8,hx125_9,hx125_10,hx125_11,hx125_12,hx125_13,hx125_14,hx125_15,hx125_16,hx125_17,hx125_18,hl125_5,hi125_5,hl125_9,hi125_9,hl125_13,hi125_13,hl125_17,hi125_17,hl125_18,hi125_18⟩ := at_T50 HR1_18.out x5_2 p125 q125
          have hw125_18 := hx125_18
          have hw125_17 := hx125_17
          have hw125_16 := hx125_16
          have hw125_15 := hx125_15
          have hw125_14 := hx125_14
          have hw125_13 := hx125_13
          have hw125_12 := hx125_12
          have hw125_11 := hx125_11
          have hw125_10 := hx125_10
          have hw125_9 := hx125_9
          have hw125_8 := hx125_8
          have hw125_7 := hx125_7
          have hw125_6 := hx125_6
          have hw125_5 := hx125_5
          have hw125_4 := hx125_4
          have hw125_3 := hx125_3
          have hw125_2 := hx125_2
          have hw125_1 := hx125_1
          have hw125_0 := hx125_0
          cases e125
          replace hx125_0 := hbc HB.out hx125_0
          replace hx125_1 := hbc HB.out hx125_1
          replace hx125_2 := hbc HB.out hx125_2
          replace hx125_3 := hbc HB.out hx125_3
          replace hx125_4 := hbc HB.out hx125_4
          replace hx125_5 := hbc HB.out hx125_5
          replace hx125_6 := hbc HB.out hx125_6
          replace hx125_7 := hbc HB.out hx125_7
          replace hx125_8 := hbc HB.out hx125_8
          replace hx125_9 := hbc HB.out hx125_9
          replace hx125_10 := hbc HB.out hx125_10
          replace hx125_11 := hbc HB.out hx125_11
          replace hx125_12 := hbc HB.out hx125_12
          replace hx125_13 := hbc HB.out hx125_13
          replace hx125_14 := hbc HB.out hx125_14
          replace hx125_15 := hbc HB.out hx125_15
          replace hx125_16 := hbc HB.out hx125_16
          replace hx125_17 := hbc HB.out hx125_17
          replace hx125_18 := hbc HB.out hx125_18
          have HR125_5 := mk0 hi125_5
          have HC125_5 := mk0 hl125_5
          clear hi125_5 hl125_5
          have HR125_9 := mk0 hi125_9
          have HC125_9 := mk0 hl125_9
          clear hi125_9 hl125_9
          have HR125_13 := mk0 hi125_13
          have HC125_13 := mk0 hl125_13
          clear hi125_13 hl125_13
          have HR125_17 := mk0 hi125_17
          have HC125_17 := mk0 hl125_17
          clear hi125_17 hl125_17
          have HR125_18 := mk0 hi125_18
          have HC125_18 := mk0 hl125_18
          clear hi125_18 hl125_18
          replace p125 := eq_true p125
          replace q125 := eq_true q125
          refine start_ (n := 12) (S := fun w' => w'.cell? ⟨gb118,0,none⟩ = some (.int .i64 a0_0) ∧ w'.cell? ⟨gb118,1,none⟩ = some (.string a0_1) ∧ w'.cell? ⟨gb118,2,none⟩ = some (.int .i64 a0_2) ∧ w'.cell? ⟨gb118,3,none⟩ = some (.int .i64 a0_3) ∧ w'.cell? ⟨gb118,4,none⟩ = some (.string a0_4) ∧ w'.cell? ⟨gb118,5,none⟩ = some (.slice A0_5 l0_5.length c0_5) ∧ w'.cell? ⟨gb118,6,none⟩ = some (.int .i64 a0_6) ∧ w'.cell? ⟨gb118,7,none⟩ = some (.int .i64 a0_7) ∧ w'.cell? ⟨gb118,8,none⟩ = some (.string a0_8) ∧ w'.cell? ⟨gb118,9,none⟩ = some (.slice A0_9 l0_9.length c0_9) ∧ w'.cell? ⟨gb118,10,none⟩ = some (.int .i64 a0_10) ∧ w'.cell? ⟨gb118,11,none⟩ = some (.int .i64 a0_11) ∧ w'.cell? ⟨gb118,12,none⟩ = some (.string a0_12) ∧ w'.cell? ⟨gb118,13,none⟩ = some (.slice A0_13 l0_13.length c0_13) ∧ w'.cell? ⟨gb118,14,none⟩ = some (.int .i64 a0_14) ∧ w'.cell? ⟨gb118,15,none⟩ = some (.int .i64 a0_15) ∧ w'.cell? ⟨gb118,16,none⟩ = some (.string a0_16) ∧ w'.cell? ⟨gb118,17,none⟩ = some (.slice A0_17 l0_17.length c0_17) ∧ w'.cell? ⟨gb118,18,none⟩ = some (.slice (some ad124) l0_18.length c0_18) ∧ w'.cell? ⟨gb119,0,none⟩ = some (.int .i64 a1_0) ∧ w'.cell? ⟨gb119,1,none⟩ = some (.string a1_1) ∧ w'.cell? ⟨gb119,2,none⟩ = some (.int .i64 a1_2) ∧ w'.cell? ⟨gb119,3,none⟩ = some (.int .i64 a1_3) ∧ w'.cell? ⟨gb119,4,none⟩ = some (.string a1_4) ∧ w'.cell? ⟨gb119,5,none⟩ = some (.slice A1_5 l1_5.length c1_5) ∧ w'.cell? ⟨gb119,6,none⟩ = some (.int .i64 a1_6) ∧ w'.cell? ⟨gb119,7,none⟩ = some (.int .i64 a1_7) ∧ w'.cell? ⟨gb119,8,none⟩ = some (.string a1_8) ∧ w'.cell? ⟨gb119,9,none⟩ = some (.slice A1_9 l1_9.length c1_9) ∧ w'.cell? ⟨gb119,10,none⟩ = some (.int .i64 a1_10) ∧ w'.cell? ⟨gb119,11,none⟩ = some (.int .i64 a1_11) ∧ w'.cell? ⟨gb119,12,none⟩ = some (.string a1_12) ∧ w'.cell? ⟨gb119,13,none⟩ = some (.slice A1_13 l1_13.length c1_13) ∧ w'.cell? ⟨gb119,14,none⟩ = some (.int .i64 a1_14) ∧ w'.cell? ⟨gb119,15,none⟩ = some (.int .i64 a1_15) ∧ w'.cell? ⟨gb119,16,none⟩ = some (.string a1_16) ∧ w'.cell? ⟨gb119,17,none⟩ = some (.slice A1_17 l1_17.length c1_17) ∧ w'.cell? ⟨gb119,18,none⟩ = some (.slice (some ad125) l1_18.length c1_18) ∧ w'.cell? (ad124.add ((x5_2).toNat * 19)) = some (.int .i64 ((rd_T50 l0_18 x5_2).f0)) ∧ w'.cell? ⟨(ad124.add ((x5_2).toNat * 19)).block,(ad124.add ((x5_2).toNat * 19)).off + 1,none⟩ = some (.string ((rd_T50 l0_18 x5_2).f1)) ∧ w'.cell? ⟨(ad124.add ((x5_2).toNat * 19)).block,(ad124.add ((x5_2).toNat * 19)).off + 2,none⟩ = some (.int .i64 ((rd_T50 l0_18 x5_2).f2.f0)) ∧ w'.cell? ⟨(ad124.add ((x5_2).toNat * 19)).block,(ad124.add ((x5_2).toNat * 19)).off + 3,none⟩ = some (.int .i64 ((rd_T50 l0_18 x5_2).f2.f1)) ∧ w'.cell? ⟨(ad124.add ((x5_2).toNat * 19)).block,(ad124.add ((x5_2).toNat * 19)).off + 4,none⟩ = some (.string ((rd_T50 l0_18 x5_2).f2.f2)) ∧ w'.cell? ⟨(ad124.add ((x5_2).toNat * 19)).block,(ad124.add ((x5_2).toNat * 19)).off + 5,none⟩ = some (.slice A124_5 ((rd_T50 l0_18 x5_2).f2.f3).length c124_5) ∧ w'.cell? ⟨(ad124.add ((x5_2).toNat * 19)).block,(ad124.add ((x5_2).toNat * 19)).off + 6,none⟩ = some (.int .i64 ((rd_T50 l0_18 x5_2).f3.f0)) ∧ w'.cell? ⟨(ad124.add ((x5_2).toNat * 19)).block,(ad124.add ((x5_2).toNat * 19)).off + 7,none⟩ = some (.int .i64 ((rd_T50 l0_18 x5_2).f3.f1)) ∧ w'.cell? ⟨(ad124.add ((x5_2).toNat * 19)).block,(ad124.add ((x5_2).toNat * 19)).off + 8,none⟩ = some (.string ((rd_T50 l0_18 x5_2).f3.f2)) ∧ w'.cell? ⟨(ad124.add ((x5_2).toNat * 19)).block,(ad124.add ((x5_2).toNat * 19)).off + 9,none⟩ = some (.slice A124_9 ((rd_T50 l0_18 x5_2).f3.f3).length c124_9) ∧ w'.cell? ⟨(ad124.add ((x5_2).toNat * 19)).block,(ad124.add ((x5_2).toNat * 19)).off + 10,none⟩ = some (.int .i64 ((rd_T50 l0_18 x5_2).f4.f0)) ∧ w'.cell? ⟨(ad124.add ((x5_2).toNat * 19)).block,(ad124.add ((x5_2).toNat * 19)).off + 11,none⟩ = some (.int .i64 ((rd_T50 l0_18 x5_2).f4.f1)) ∧ w'.cell? ⟨(ad124.add ((x5_2).toNat * 19)).block,(ad124.add ((x5_2).toNat * 19)).off + 12,none⟩ = some (.string ((rd_T50 l0_18 x5_2).f4.f2)) ∧ w'.cell? ⟨(ad124.add ((x5_2).toNat * 19)).block,(ad124.add ((x5_2).toNat * 19)).off + 13,none⟩ = some (.slice A124_13 ((rd_T50 l0_18 x5_2).f4.f3).length c124_13) ∧ w'.cell? ⟨(ad124.add ((x5_2).toNat * 19)).block,(ad124.add ((x5_2).toNat * 19)).off + 14,none⟩ = some (.int .i64 ((rd_T50 l0_18 x5_2).f5.f0)) ∧ w'.cell? ⟨(ad124.add ((x5_2).toNat * 19)).block,(ad124.add ((x5_2).toNat * 19)).off + 15,none⟩ = some (.int .i64 ((rd_T50 l0_18 x5_2).f5.f1)) ∧ w'.cell? ⟨(ad124.add ((x5_2).toNat * 19)).block,(ad124.add ((x5_2).toNat * 19)).off + 16,none⟩ = some (.string ((rd_T50 l0_18 x5_2).f5.f2)) ∧ w'.cell? ⟨(ad124.add ((x5_2).toNat * 19)).block,(ad124.add ((x5_2).toNat * 19)).off + 17,none⟩ = some (.slice A124_17 ((rd_T50 l0_18 x5_2).f5.f3).length c124_17) ∧ w'.cell? ⟨(ad124.add ((x5_2).toNat * 19)).block,(ad124.add ((x5_2).toNat * 19)).off + 18,none⟩ = some (.slice A124_18 ((rd_T50 l0_18 x5_2).f6).length c124_18) ∧ w'.cell? (ad125.add ((x5_2).toNat * 19)) = some (.int .i64 ((rd_T50 l1_18 x5_2).f0)) ∧ w'.cell? ⟨(ad125.add ((x5_2).toNat * 19)).block,(ad125.add ((x5_2).toNat * 19)).off + 1,none⟩ = some (.string ((rd_T50 l1_18 x5_2).f1)) ∧ w'.cell? ⟨(ad125.add ((x5_2).toNat * 19)).block,(ad125.add ((x5_2).toNat * 19)).off + 2,none⟩ = some (.int .i64 ((rd_T50 l1_18 x5_2).f2.f0)) ∧ w'.cell? ⟨(ad125.add ((x5_2).toNat * 19)).block,(ad125.add ((x5_2).toNat * 19)).off + 3,none⟩ = some (.int .i64 ((rd_T50 l1_18 x5_2).f2.f1)) ∧ w'.cell? ⟨(ad125.add ((x5_2).toNat * 19)).block,(ad125.add ((x5_2).toNat * 19)).off + 4,none⟩ = some (.string ((rd_T50 l1_18 x5_2).f2.f2)) ∧ w'.cell? ⟨(ad125.add ((x5_2).toNat * 19)).block,(ad125.add ((x5_2).toNat * 19)).off + 5,none⟩ = some (.slice A125_5 ((rd_T50 l1_18 x5_2).f2.f3).length c125_5) ∧ w'.cell? ⟨(ad125.add ((x5_2).toNat * 19)).block,(ad125.add ((x5_2).toNat * 19)).off + 6,none⟩ = some (.int .i64 ((rd_T50 l1_18 x5_2).f3.f0)) ∧ w'.cell? ⟨(ad125.add ((x5_2).toNat * 19)).block,(ad125.add ((x5_2).toNat * 19)).off + 7,none⟩ = some (.int .i64 ((rd_T50 l1_18 x5_2).f3.f1)) ∧ w'.cell? ⟨(ad125.add ((x5_2).toNat * 19)).block,(ad125.add ((x5_2).toNat * 19)).off + 8,none⟩ = some (.string ((rd_T50 l1_18 x5_2).f3.f2)) ∧ w'.cell? ⟨(ad125.add ((x5_2).toNat * 19)).block,(ad125.add ((x5_2).toNat * 19)).off + 9,none⟩ = some (.slice A125_9 ((rd_T50 l1_18 x5_2).f3.f3).length c125_9) ∧ w'.cell? ⟨(ad125.add ((x5_2).toNat * 19)).block,(ad125.add ((x5_2).toNat * 19)).off + 10,none⟩ = some (.int .i64 ((rd_T50 l1_18 x5_2).f4.f0)) ∧ w'.cell? ⟨(ad125.add ((x5_2).toNat * 19)).block,(ad125.add ((x5_2).toNat * 19)).off + 11,none⟩ = some (.int .i64 ((rd_T50 l1_18 x5_2).f4.f1)) ∧ w'.cell? ⟨(ad125.add ((x5_2).toNat * 19)).block,(ad125.add ((x5_2).toNat * 19)).off + 12,none⟩ = some (.string ((rd_T50 l1_18 x5_2).f4.f2)) ∧ w'.cell? ⟨(ad125.add ((x5_2).toNat * 19)).block,(ad125.add ((x5_2).toNat * 19)).off + 13,none⟩ = some (.slice A125_13 ((rd_T50 l1_18 x5_2).f4.f3).length c125_13) ∧ w'.cell? ⟨(ad125.add ((x5_2).toNat * 19)).block,(ad125.add ((x5_2).toNat * 19)).off + 14,none⟩ = some (.int .i64 ((rd_T50 l1_18 x5_2).f5.f0)) ∧ w'.cell? ⟨(ad125.add ((x5_2).toNat * 19)).block,(ad125.add ((x5_2).toNat * 19)).off + 15,none⟩ = some (.int .i64 ((rd_T50 l1_18 x5_2).f5.f1)) ∧ w'.cell? ⟨(ad125.add ((x5_2).toNat * 19)).block,(ad125.add ((x5_2).toNat * 19)).off + 16,none⟩ = some (.string ((rd_T50 l1_18 x5_2).f5.f2)) ∧ w'.cell? ⟨(ad125.add ((x5_2).toNat * 19)).block,(ad125.add ((x5_2).toNat * 19)).off + 17,none⟩ = some (.slice A125_17 ((rd_T50 l1_18 x5_2).f5.f3).length c125_17) ∧ w'.cell? ⟨(ad125.add ((x5_2).toNat * 19)).block,(ad125.add ((x5_2).toNat * 19)).off + 18,none⟩ = some (.slice A125_18 ((rd_T50 l1_18 x5_2).f6).length c125_18)) (ds := []) #[false,false,false,false,false,false,false,false,false,false,false,false] (by kernel_rfl) rfl rfl ⟨(blk_cell BK118.out 0).trans rfl,(blk_cell BK118.out 1).trans rfl,(blk_cell BK118.out 2).trans rfl,(blk_cell BK118.out 3).trans rfl,(blk_cell BK118.out 4).trans rfl,(blk_cell BK118.out 5).trans rfl,(blk_cell BK118.out 6).trans rfl,(blk_cell BK118.out 7).trans rfl,(blk_cell BK118.out 8).trans rfl,(blk_cell BK118.out 9).trans rfl,(blk_cell BK118.out 10).trans rfl,(blk_cell BK118.out 11).trans rfl,(blk_cell BK118.out 12).trans rfl,(blk_cell BK118.out 13).trans rfl,(blk_cell BK118.out 14).trans rfl,(blk_cell BK118.out 15).trans rfl,(blk_cell BK118.out 16).trans rfl,(blk_cell BK118.out 17).trans rfl,(blk_cell BK118.out 18).trans rfl,(blk_cell BK119.out 0).trans rfl,(blk_cell BK119.out 1).trans rfl,(blk_cell BK119.out 2).trans rfl,(blk_cell BK119.out 3).trans rfl,(blk_cell BK119.out 4).trans rfl,(blk_cell BK119.out 5).trans rfl,(blk_cell BK119.out 6).trans rfl,(blk_cell BK119.out 7).trans rfl,(blk_cell BK119.out 8).trans rfl,(blk_cell BK119.out 9).trans rfl,(blk_cell BK119.out 10).trans rfl,(blk_cell BK119.out 11).trans rfl,(blk_cell BK119.out 12).trans rfl,(blk_cell BK119.out 13).trans rfl,(blk_cell BK119.out 14).trans rfl,(blk_cell BK119.out 15).trans rfl,(blk_cell BK119.out 16).trans rfl,(blk_cell BK119.out 17).trans rfl,(blk_cell BK119.out 18).trans rfl,((HB.out.cell (World.block_lt_of_cell? w _ hw124_0)).trans hw124_0),((HB.out.cell (World.block_lt_of_cell? w _ hw124_1)).trans hw124_1),((HB.out.cell (World.block_lt_of_cell? w _ hw124_2)).trans hw124_2),((HB.out.cell (World.block_lt_of_cell? w _ hw124_3)).trans hw124_3),((HB.out.cell (World.block_lt_of_cell? w _ hw124_4)).trans hw124_4),((HB.out.cell (World.block_lt_of_cell? w _ hw124_5)).trans hw124_5),((HB.out.cell (World.block_lt_of_cell? w _ hw124_6)).trans hw124_6),((HB.out.cell (World.block_lt_of_cell? w _ hw124_7)).trans hw124_7),((HB.out.cell (World.block_lt_of_cell? w _ hw124_8)).trans hw124_8),((HB.out.cell (World.block_lt_of_cell? w _ hw124_9)).trans hw124_9),((HB.out.cell (World.block_lt_of_cell? w _ hw124_10)).trans hw124_10),((HB.out.cell (World.block_lt_of_cell? w _ hw124_11)).trans hw124_11),((HB.out.cell (World.block_lt_of_cell? w _ hw124_12)).trans hw124_12),((HB.out.cell (World.block_lt_of_cell? w _ hw124_13)).trans hw124_13),((HB.out.cell (World.block_lt_of_cell? w _ hw124_14)).trans hw124_14),((HB.out.cell (World.block_lt_of_cell? w _ hw124_15)).trans hw124_15),((HB.out.cell (World.block_lt_of_cell? w _ hw124_16)).trans hw124_16),((HB.out.cell (World.block_lt_of_cell? w _ hw124_17)).trans hw124_17),((HB.out.cell (World.block_lt_of_cell? w _ hw124_18)).trans hw124_18),((HB.out.cell (World.block_lt_of_cell? w _ hw125_0)).trans hw125_0),((HB.out.cell (World.block_lt_of_cell? w _ hw125_1)).trans hw125_1),((HB.out.cell (World.block_lt_of_cell? w _ hw125_2)).trans hw125_2),((HB.out.cell (World.block_lt_of_cell? w _ hw125_3)).trans hw125_3),((HB.out.cell (World.block_lt_of_cell? w _ hw125_4)).trans hw125_4),((HB.out.cell (World.block_lt_of_cell? w _ hw125_5)).trans hw125_5),((HB.out.cell (World.block_lt_of_cell? w _ hw125_6)).trans hw125_6),((HB.out.cell (World.block_lt_of_cell? w _ hw125_7)).trans hw125_7),((HB.out.cell (World.block_lt_of_cell? w _ hw125_8)).trans hw125_8),((HB.out.cell (World.block_lt_of_cell? w _ hw125_9)).trans hw125_9),((HB.out.cell (World.block_lt_of_cell? w _ hw125_10)).trans hw125_10),((HB.out.cell (World.block_lt_of_cell? w _ hw125_11)).trans hw125_11),((HB.out.cell (World.block_lt_of_cell? w _ hw125_12)).trans hw125_12),((HB.out.cell (World.block_lt_of_cell? w _ hw125_13)).trans hw125_13),((HB.out.cell (World.block_lt_of_cell? w _ hw125_14)).trans hw125_14),((HB.out.cell (World.block_lt_of_cell? w _ hw125_15)).trans hw125_15),((HB.out.cell (World.block_lt_of_cell? w _ hw125_16)).trans hw125_16),((HB.out.cell (World.block_lt_of_cell? w _ hw125_17)).trans hw125_17),((HB.out.cell (World.block_lt_of_cell? w _ hw125_18)).trans hw125_18)⟩ (fun hHeld => ?_);refine with_tabW spec_SameStmt.tab6 spec_SameStmt.bits6 (fun HT_ HW_ => ?_)
          generalize wr.drew = w44 at BK118 BK119 HB HR124_13 HR124_17 HR124_18 HR124_5 HR124_9 HR125_13 HR125_17 HR125_18 HR125_5 HR125_9 hx124_0 hx124_1 hx124_10 hx124_11 hx124_12 hx124_13 hx124_14 hx124_15 hx124_16 hx124_17 hx124_18 hx124_2 hx124_3 hx124_4 hx124_5 hx124_6 hx124_7 hx124_8 hx124_9 hx125_0 hx125_1 hx125_10 hx125_11 hx125_12 hx125_13 hx125_14 hx125_15 hx125_16 hx125_17 hx125_18 hx125_2 hx125_3 hx125_4 hx125_5 hx125_6 hx125_7 hx125_8 hx125_9 hHeld ⊢
          refine pure_ (i := 0) (N := some 66) (v := ?_) (a' := ?_) #[true,false,false,false,false,false,false,false,false,false,false,false] rfl rfl (any_of HT_.out (by kernel_rfl)) (fun _ _ _ h => h) (Or.inl ⟨by rfl,?_⟩) ?_ ?_
          rotate_left
          ·intro w'
           go_simp
           with_reducible rfl
          rotate_left
          ·simp only [Act.put,List.setIfInBounds_toArray,List.set_cons_zero,List.set_cons_succ,i64_w,i32_w]
           rfl
          refine pure_ (i := 2) (N := some 68) (v := ?_) (a' := ?_) #[true,false,true,false,false,false,false,false,false,false,false,false] rfl rfl (any_of HT_.out (by kernel_rfl)) (fun _ _ _ h => h) (Or.inl ⟨by rfl,?_⟩) ?_ ?_
          rotate_left
          ·intro w'
           go_simp
           with_reducible rfl
          rotate_left
          ·simp only [Act.put,List.setIfInBounds_toArray,List.set_cons_zero,List.set_cons_succ,i64_w,i32_w]
           rfl
          refine pure_ (i := 5) (N := some 71) (v := ?_) (a' := ?_) #[true,false,true,false,false,true,false,false,false,false,false,false] rfl rfl (any_of HT_.out (by kernel_rfl)) (fun _ _ _ h => h) (Or.inl ⟨by rfl,?_⟩) ?_ ?_
          rotate_left
          ·intro w'
           go_simp
           with_reducible rfl
          rotate_left
          ·simp only [Act.put,List.setIfInBounds_toArray,List.set_cons_zero,List.set_cons_succ,i64_w,i32_w]
           rfl
          refine pure_ (i := 7) (N := some 73) (v := ?_) (a' := ?_) #[true,false,true,false,false,true,false,true,false,false,false,false] rfl rfl (any_of HT_.out (by kernel_rfl)) (fun _ _ _ h => h) (Or.inl ⟨by rfl,?_⟩) ?_ ?_
          rotate_left
          ·intro w'
           go_simp
           with_reducible rfl
          rotate_left
          ·simp only [Act.put,List.setIfInBounds_toArray,List.set_cons_zero,List.set_cons_succ,i64_w,i32_w]
           rfl
          refine take_ (i := 1) (N := some 67) (v := ?_) (a' := ?_) #[true,true,true,false,false,true,false,true,false,false,false,false] rfl rfl (take_ofW HT_.out HW_.out (by kernel_rfl)) (fun _ _ _ h => h) (Or.inl ⟨by rfl,?_⟩) hHeld ?_ ?_
          rotate_left
          ·rintro w' ⟨s0,s1,s2,s3,s4,s5,s6,s7,s8,s9,s10,s11,s12,s13,s14,s15,s16,s17,s18,s19,s20,s21,s22,s23,s24,s25,s26,s27,s28,s29,s30,s31,s32,s33,s34,s35,s36,s37,s38,s39,s40,s41,s42,s43,s44,s45,s46,s47,s48,s49,s50,s51,s52,s53,s54,s55,s56,s57,s58,s59,s60,s61,s62,s63,s64,s65,s66,s67,s68,s69,s70,s71,s72,s73,s74,s75⟩
           go_simp
           with_reducible rfl
          rotate_left
          ·simp only [Act.put,List.setIfInBounds_toArray,List.set_cons_zero,List.set_cons_succ,i64_w,i32_w]
           rfl
          refine pure_ (i := 3) (N := some 69) (v := ?_) (a' := ?_) #[true,true,true,true,false,true,false,true,false,false,false,false] rfl rfl (any_of HT_.out (by kernel_rfl)) (fun _ _ _ h => h) (Or.inl ⟨by rfl,?_⟩) ?_ ?_
          rotate_left
          ·intro w'
           go_simp
           with_reducible rfl
          rotate_left
          ·simp only [Act.put,List.setIfInBounds_toArray,List.set_cons_zero,List.set_cons_succ,i64_w,i32_w]
           rfl
          refine take_ (i := 4) (N := some 70) (v := ?_) (a' := ?_) #[true,true,true,true,true,true,false,true,false,false,false,false] rfl rfl (take_ofW HT_.out HW_.out (by kernel_rfl)) (fun _ _ _ h => h) (Or.inl ⟨by rfl,?_⟩) hHeld ?_ ?_
          rotate_left
          ·rintro w' ⟨s0,s1,s2,s3,s4,s5,s6,s7,s8,s9,s10,s11,s12,s13,s14,s15,s16,s17,s18,s19,s20,s21,s22,s23,s24,s25,s26,s27,s28,s29,s30,s31,s32,s33,s34,s35,s36,s37,s38,s39,s40,s41,s42,s43,s44,s45,s46,s47,s48,s49,s50,s51,s52,s53,s54,s55,s56,s57,s58,s59,s60,s61,s62,s63,s64,s65,s66,s67,s68,s69,s70,s71,s72,s73,s74,s75⟩
           first|(refine ldRun 50 ?x463_0 ?ho463_0 _ ?hx463_0 _ (row19 s0 s1 s2 s3 s4 s5 s6 s7 s8 s9 s10 s11 s12 s13 s14 s15 s16 s17 s18) _ Try.underlying50 (by kernel_rfl);(case ho463_0 => rfl);(case hx463_0 => rfl))|(refine ldRun 50 ?x463_19 ?ho463_19 _ ?hx463_19 _ (row19 s19 s20 s21 s22 s23 s24 s25 s26 s27 s28 s29 s30 s31 s32 s33 s34 s35 s36 s37) _ Try.underlying50 (by kernel_rfl);(case ho463_19 => rfl);(case hx463_19 => rfl))|(refine ldRun 50 ?x463_38 ?ho463_38 _ ?hx463_38 _ (row19 s38 s39 s40 s41 s42 s43 s44 s45 s46 s47 s48 s49 s50 s51 s52 s53 s54 s55 s56) _ Try.underlying50 (by kernel_rfl);(case ho463_38 => rfl);(case hx463_38 => rfl))|(refine ldRun 50 ?x463_57 ?ho463_57 _ ?hx463_57 _ (row19 s57 s58 s59 s60 s61 s62 s63 s64 s65 s66 s67 s68 s69 s70 s71 s72 s73 s74 s75) _ Try.underlying50 (by kernel_rfl);(case ho463_57 => rfl);(case hx463_57 => rfl))
          rotate_left
          ·simp only [Act.put,List.setIfInBounds_toArray,List.set_cons_zero,List.set_cons_succ,i64_w,i32_w]
           rfl
          refine take_ (i := 6) (N := some 72) (v := ?_) (a' := ?_) #[true,true,true,true,true,true,true,true,false,false,false,false] rfl rfl (take_ofW HT_.out HW_.out (by kernel_rfl)) (fun _ _ _ h => h) (Or.inl ⟨by rfl,?_⟩) hHeld ?_ ?_
          rotate_left
          ·rintro w' ⟨s0,s1,s2,s3,s4,s5,s6,s7,s8,s9,s10,s11,s12,s13,s14,s15,s16,s17,s18,s19,s20,s21,s22,s23,s24,s25,s26,s27,s28,s29,s30,s31,s32,s33,s34,s35,s36,s37,s38,s39,s40,s41,s42,s43,s44,s45,s46,s47,s48,s49,s50,s51,s52,s53,s54,s55,s56,s57,s58,s59,s60,s61,s62,s63,s64,s65,s66,s67,s68,s69,s70,s71,s72,s73,s74,s75⟩
           go_simp
           with_reducible rfl
          rotate_left
          ·simp only [Act.put,List.setIfInBounds_toArray,List.set_cons_zero,List.set_cons_succ,i64_w,i32_w]
           rfl
          refine pure_ (i := 8) (N := some 74) (v := ?_) (a' := ?_) #[true,true,true,true,true,true,true,true,true,false,false,false] rfl rfl (any_of HT_.out (by kernel_rfl)) (fun _ _ _ h => h) (Or.inl ⟨by rfl,?_⟩) ?_ ?_
          rotate_left
          ·intro w'
           go_simp
           with_reducible rfl
          rotate_left
          ·simp only [Act.put,List.setIfInBounds_toArray,List.set_cons_zero,List.set_cons_succ,i64_w,i32_w]
           rfl
          refine take_ (i := 9) (N := some 75) (v := ?_) (a' := ?_) #[true,true,true,true,true,true,true,true,true,true,false,false] rfl rfl (take_ofW HT_.out HW_.out (by kernel_rfl)) (fun _ _ _ h => h) (Or.inl ⟨by rfl,?_⟩) hHeld ?_ ?_
          rotate_left
          ·rintro w' ⟨s0,s1,s2,s3,s4,s5,s6,s7,s8,s9,s10,s11,s12,s13,s14,s15,s16,s17,s18,s19,s20,s21,s22,s23,s24,s25,s26,s27,s28,s29,s30,s31,s32,s33,s34,s35,s36,s37,s38,s39,s40,s41,s42,s43,s44,s45,s46,s47,s48,s49,s50,s51,s52,s53,s54,s55,s56,s57,s58,s59,s60,s61,s62,s63,s64,s65,s66,s67,s68,s69,s70,s71,s72,s73,s74,s75⟩
           first|(refine ldRun 50 ?x487_0 ?ho487_0 _ ?hx487_0 _ (row19 s0 s1 s2 s3 s4 s5 s6 s7 s8 s9 s10 s11 s12 s13 s14 s15 s16 s17 s18) _ Try.underlying50 (by kernel_rfl);(case ho487_0 => rfl);(case hx487_0 => rfl))|(refine ldRun 50 ?x487_19 ?ho487_19 _ ?hx487_19 _ (row19 s19 s20 s21 s22 s23 s24 s25 s26 s27 s28 s29 s30 s31 s32 s33 s34 s35 s36 s37) _ Try.underlying50 (by kernel_rfl);(case ho487_19 => rfl);(case hx487_19 => rfl))|(refine ldRun 50 ?x487_38 ?ho487_38 _ ?hx487_38 _ (row19 s38 s39 s40 s41 s42 s43 s44 s45 s46 s47 s48 s49 s50 s51 s52 s53 s54 s55 s56) _ Try.underlying50 (by kernel_rfl);(case ho487_38 => rfl);(case hx487_38 => rfl))|(refine ldRun 50 ?x487_57 ?ho487_57 _ ?hx487_57 _ (row19 s57 s58 s59 s60 s61 s62 s63 s64 s65 s66 s67 s68 s69 s70 s71 s72 s73 s74 s75) _ Try.underlying50 (by kernel_rfl);(case ho487_57 => rfl);(case hx487_57 => rfl))
          rotate_left
          ·simp only [Act.put,List.setIfInBounds_toArray,List.set_cons_zero,List.set_cons_succ,i64_w,i32_w]
           rfl
          refine one_ (i := 10) (N := some 76) #[true,true,true,true,true,true,true,true,true,true,true,false] rfl rfl (one_of HT_.out (by kernel_rfl)) (by decide) (fun K hK => ?_)
          refine goes_ Try.func23 (by kernel_rfl) rfl #[.agg #[.int .i64 ((rd_T50 l0_18 x5_2).f0),.string ((rd_T50 l0_18 x5_2).f1),.int .i64 ((rd_T50 l0_18 x5_2).f2.f0),.int .i64 ((rd_T50 l0_18 x5_2).f2.f1),.string ((rd_T50 l0_18 x5_2).f2.f2),.slice A124_5 ((rd_T50 l0_18 x5_2).f2.f3).length c124_5,.int .i64 ((rd_T50 l0_18 x5_2).f3.f0),.int .i64 ((rd_T50 l0_18 x5_2).f3.f1),.string ((rd_T50 l0_18 x5_2).f3.f2),.slice A124_9 ((rd_T50 l0_18 x5_2).f3.f3).length c124_9,.int .i64 ((rd_T50 l0_18 x5_2).f4.f0),.int .i64 ((rd_T50 l0_18 x5_2).f4.f1),.string ((rd_T50 l0_18 x5_2).f4.f2),.slice A124_13 ((rd_T50 l0_18 x5_2).f4.f3).length c124_13,.int .i64 ((rd_T50 l0_18 x5_2).f5.f0),.int .i64 ((rd_T50 l0_18 x5_2).f5.f1),.string ((rd_T50 l0_18 x5_2).f5.f2),.slice A124_17 ((rd_T50 l0_18 x5_2).f5.f3).length c124_17,.slice A124_18 ((rd_T50 l0_18 x5_2).f6).length c124_18],.agg #[.int .i64 ((rd_T50 l1_18 x5_2).f0),.string ((rd_T50 l1_18 x5_2).f1),.int .i64 ((rd_T50 l1_18 x5_2).f2.f0),.int .i64 ((rd_T50 l1_18 x5_2).f2.f1),.string ((rd_T50 l1_18 x5_2).f2.f2),.slice A125_5 ((rd_T50 l1_18 x5_2).f2.f3).length c125_5,.int .i64 ((rd_T50 l1_18 x5_2).f3.f0),.int .i64 ((rd_T50 l1_18 x5_2).f3.f1),.string ((rd_T50 l1_18 x5_2).f3.f2),.slice A125_9 ((rd_T50 l1_18 x5_2).f3.f3).length c125_9,.int .i64 ((rd_T50 l1_18 x5_2).f4.f0),.int .i64 ((rd_T50 l1_18 x5_2).f4.f1),.string ((rd_T50 l1_18 x5_2).f4.f2),.slice A125_13 ((rd_T50 l1_18 x5_2).f4.f3).length c125_13,.int .i64 ((rd_T50 l1_18 x5_2).f5.f0),.int .i64 ((rd_T50 l1_18 x5_2).f5.f1),.string ((rd_T50 l1_18 x5_2).f5.f2),.slice A125_17 ((rd_T50 l1_18 x5_2).f5.f3).length c125_17,.slice A125_18 ((rd_T50 l1_18 x5_2).f6).length c125_18]] (by rfl) rfl rfl (by (try simp only [List.map_toArray,List.map_cons,List.map_nil]);first|done|rfl) ?_
          with_reducible refine (ih k2 (by have := HJ2.out;have := HK2.out;omega) ((rd_T50 l0_18 x5_2).f0) ((rd_T50 l0_18 x5_2).f1) ((rd_T50 l0_18 x5_2).f2.f0) ((rd_T50 l0_18 x5_2).f2.f1) ((rd_T50 l0_18 x5_2).f2.f2) _ _ ((rd_T50 l0_18 x5_2).f2.f3) ((rd_T50 l0_18 x5_2).f3.f0) ((rd_T50 l0_18 x5_2).f3.f1) ((rd_T50 l0_18 x5_2).f3.f2) _ _ ((rd_T50 l0_18 x5_2).f3.f3) ((rd_T50 l0_18 x5_2).f4.f0) ((rd_T50 l0_18 x5_2).f4.f1) ((rd_T50 l0_18 x5_2).f4.f2) _ _ ((rd_T50 l0_18 x5_2).f4.f3) ((rd_T50 l0_18 x5_2).f5.f0) ((rd_T50 l0_18 x5_2).f5.f1) ((rd_T50 l0_18 x5_2).f5.f2) _ _ ((rd_T50 l0_18 x5_2).f5.f3) _ _ ((rd_T50 l0_18 x5_2).f6) ((rd_T50 l1_18 x5_2).f0) ((rd_T50 l1_18 x5_2).f1) ((rd_T50 l1_18 x5_2).f2.f0) ((rd_T50 l1_18 x5_2).f2.f1) ((rd_T50 l1_18 x5_2).f2.f2) _ _ ((rd_T50 l1_18 x5_2).f2.f3) ((rd_T50 l1_18 x5_2).f3.f0) ((rd_T50 l1_18 x5_2).f3.f1) ((rd_T50 l1_18 x5_2).f3.f2) _ _ ((rd_T50 l1_18 x5_2).f3.f3) ((rd_T50 l1_18 x5_2).f4.f0) ((rd_T50 l1_18 x5_2).f4.f1) ((rd_T50 l1_18 x5_2).f4.f2) _ _ ((rd_T50 l1_18 x5_2).f4.f3) ((rd_T50 l1_18 x5_2).f5.f0) ((rd_T50 l1_18 x5_2).f5.f1) ((rd_T50 l1_18 x5_2).f5.f2) _ _ ((rd_T50 l1_18 x5_2).f5.f3) _ _ ((rd_T50 l1_18 x5_2).f6) true _ ?side1 ?side2 ?side3 ?side4 ?side5 ?side6 ?side7 ?side8 ?side9 ?side10 ?side11 ?side12 ?side13 ?side14 ?side15 ?side16 ?side17 ?side18 ?side19 ?side20 A41.out).mono ?_
          (case side1 => repeat (first|exact (Kd.C_below HR124_5.out HB.out)|(with_reducible refine cA ?_ _)|(with_reducible refine cN ?_ _)|(with_reducible refine cD ?_)))
          (case side2 => exact HC124_5.out)
          (case side3 => repeat (first|exact (Kd.C_below HR124_9.out HB.out)|(with_reducible refine cA ?_ _)|(with_reducible refine cN ?_ _)|(with_reducible refine cD ?_)))
          (case side4 => exact HC124_9.out)
          (case side5 => repeat (first|exact (Kd.C_below HR124_13.out HB.out)|(with_reducible refine cA ?_ _)|(with_reducible refine cN ?_ _)|(with_reducible refine cD ?_)))
          (case side6 => exact HC124_13.out)
          (case side7 => repeat (first|exact (Kd.C_below HR124_17.out HB.out)|(with_reducible refine cA ?_ _)|(with_reducible refine cN ?_ _)|(with_reducible refine cD ?_)))
          (case side8 => exact HC124_17.out)
          (case side9 => repeat (first|exact (Kd.C_below HR124_18.out HB.out)|(with_reducible refine cA ?_ _)|(with_reducible refine cN ?_ _)|(with_reducible refine cD ?_)))
          (case side10 => exact HC124_18.out)
          (case side11 => repeat (first|exact (Kd.C_below HR125_5.out HB.out)|(with_reducible refine cA ?_ _)|(with_reducible refine cN ?_ _)|(with_reducible refine cD ?_)))
          (case side12 => exact HC125_5.out)
          (case side13 => repeat (first|exact (Kd.C_below HR125_9.out HB.out)|(with_reducible refine cA ?_ _)|(with_reducible refine cN ?_ _)|(with_reducible refine cD ?_)))
          (case side14 => exact HC125_9.out)
          (case side15 => repeat (first|exact (Kd.C_below HR125_13.out HB.out)|(with_reducible refine cA ?_ _)|(with_reducible refine cN ?_ _)|(with_reducible refine cD ?_)))
          (case side16 => exact HC125_13.out)
          (case side17 => repeat (first|exact (Kd.C_below HR125_17.out HB.out)|(with_reducible refine cA ?_ _)|(with_reducible refine cN ?_ _)|(with_reducible refine cD ?_)))
          (case side18 => exact HC125_17.out)
          (case side19 => repeat (first|exact (Kd.C_below HR125_18.out HB.out)|(with_reducible refine cA ?_ _)|(with_reducible refine cN ?_ _)|(with_reducible refine cD ?_)))
          (case side20 => exact HC125_18.out)
          rintro e w45 ⟨rfl,hb⟩
          refine ⟨_,rfl,?_⟩
          have n0_ := mk0 (blk_below (by exact kX BK118.out) hb)
          have n1_ := mk0 (blk_below (by exact kX BK119.out) hb)
          have n2_ := mk0 (below_step (by repeat (first|(with_reducible first|exact HB.out|apply bA|apply bN|apply bD|refine bS ?_ GE118.out|refine bS ?_ GE119.out)|exact HB.out)) hb)
          clear BK118
          clear BK119
          clear HB
          have BK118 := n0_
          have BK119 := n1_
          have HB := n2_
          clear n0_ n1_ n2_
          (try clear hb)
          (try clear hb2)
          (try clear hk)
          (try clear hi)
          refine hK.out _ _ ⟨(blk_cell BK118.out 0).trans rfl,(blk_cell BK118.out 1).trans rfl,(blk_cell BK118.out 2).trans rfl,(blk_cell BK118.out 3).trans rfl,(blk_cell BK118.out 4).trans rfl,(blk_cell BK118.out 5).trans rfl,(blk_cell BK118.out 6).trans rfl,(blk_cell BK118.out 7).trans rfl,(blk_cell BK118.out 8).trans rfl,(blk_cell BK118.out 9).trans rfl,(blk_cell BK118.out 10).trans rfl,(blk_cell BK118.out 11).trans rfl,(blk_cell BK118.out 12).trans rfl,(blk_cell BK118.out 13).trans rfl,(blk_cell BK118.out 14).trans rfl,(blk_cell BK118.out 15).trans rfl,(blk_cell BK118.out 16).trans rfl,(blk_cell BK118.out 17).trans rfl,(blk_cell BK118.out 18).trans rfl,(blk_cell BK119.out 0).trans rfl,(blk_cell BK119.out 1).trans rfl,(blk_cell BK119.out 2).trans rfl,(blk_cell BK119.out 3).trans rfl,(blk_cell BK119.out 4).trans rfl,(blk_cell BK119.out 5).trans rfl,(blk_cell BK119.out 6).trans rfl,(blk_cell BK119.out 7).trans rfl,(blk_cell BK119.out 8).trans rfl,(blk_cell BK119.out 9).trans rfl,(blk_cell BK119.out 10).trans rfl,(blk_cell BK119.out 11).trans rfl,(blk_cell BK119.out 12).trans rfl,(blk_cell BK119.out 13).trans rfl,(blk_cell BK119.out 14).trans rfl,(blk_cell BK119.out 15).trans rfl,(blk_cell BK119.out 16).trans rfl,(blk_cell BK119.out 17).trans rfl,(blk_cell BK119.out 18).trans rfl,((HB.out.cell (World.block_lt_of_cell? w _ hw124_0)).trans hw124_0),((HB.out.cell (World.block_lt_of_cell? w _ hw124_1)).trans hw124_1),((HB.out.cell (World.block_lt_of_cell? w _ hw124_2)).trans hw124_2),((HB.out.cell (World.block_lt_of_cell? w _ hw124_3)).trans hw124_3),((HB.out.cell (World.block_lt_of_cell? w _ hw124_4)).trans hw124_4),((HB.out.cell (World.block_lt_of_cell? w _ hw124_5)).trans hw124_5),((HB.out.cell (World.block_lt_of_cell? w _ hw124_6)).trans hw124_6),((HB.out.cell (World.block_lt_of_cell? w _ hw124_7)).trans hw124_7),((HB.out.cell (World.block_lt_of_cell? w _ hw124_8)).trans hw124_8),((HB.out.cell (World.block_lt_of_cell? w _ hw124_9)).trans hw124_9),((HB.out.cell (World.block_lt_of_cell? w _ hw124_10)).trans hw124_10),((HB.out.cell (World.block_lt_of_cell? w _ hw124_11)).trans hw124_11),((HB.out.cell (World.block_lt_of_cell? w _ hw124_12)).trans hw124_12),((HB.out.cell (World.block_lt_of_cell? w _ hw124_13)).trans hw124_13),((HB.out.cell (World.block_lt_of_cell? w _ hw124_14)).trans hw124_14),((HB.out.cell (World.block_lt_of_cell? w _ hw124_15)).trans hw124_15),((HB.out.cell (World.block_lt_of_cell? w _ hw124_16)).trans hw124_16),((HB.out.cell (World.block_lt_of_cell? w _ hw124_17)).trans hw124_17),((HB.out.cell (World.block_lt_of_cell? w _ hw124_18)).trans hw124_18),((HB.out.cell (World.block_lt_of_cell? w _ hw125_0)).trans hw125_0),((HB.out.cell (World.block_lt_of_cell? w _ hw125_1)).trans hw125_1),((HB.out.cell (World.block_lt_of_cell? w _ hw125_2)).trans hw125_2),((HB.out.cell (World.block_lt_of_cell? w _ hw125_3)).trans hw125_3),((HB.out.cell (World.block_lt_of_cell? w _ hw125_4)).trans hw125_4),((HB.out.cell (World.block_lt_of_cell? w _ hw125_5)).trans hw125_5),((HB.out.cell (World.block_lt_of_cell? w _ hw125_6)).trans hw125_6),((HB.out.cell (World.block_lt_of_cell? w _ hw125_7)).trans hw125_7),((HB.out.cell (World.block_lt_of_cell? w _ hw125_8)).trans hw125_8),((HB.out.cell (World.block_lt_of_cell? w _ hw125_9)).trans hw125_9),((HB.out.cell (World.block_lt_of_cell? w _ hw125_10)).trans hw125_10),((HB.out.cell (World.block_lt_of_cell? w _ hw125_11)).trans hw125_11),((HB.out.cell (World.block_lt_of_cell? w _ hw125_12)).trans hw125_12),((HB.out.cell (World.block_lt_of_cell? w _ hw125_13)).trans hw125_13),((HB.out.cell (World.block_lt_of_cell? w _ hw125_14)).trans hw125_14),((HB.out.cell (World.block_lt_of_cell? w _ hw125_15)).trans hw125_15),((HB.out.cell (World.block_lt_of_cell? w _ hw125_16)).trans hw125_16),((HB.out.cell (World.block_lt_of_cell? w _ hw125_17)).trans hw125_17),((HB.out.cell (World.block_lt_of_cell? w _ hw125_18)).trans hw125_18)⟩ (fun hHeld => ?_)
          clear hK K
          refine norm_ (a' := ?_) ?_ ?_
          rotate_left
          ·show Act.put _ (some 76) _ = _
           simp only [Act.put,List.setIfInBounds_toArray,List.set_cons_zero,List.set_cons_succ,i64_w,i32_w]
           rfl
          refine pure_ (i := 11) (N := some 77) (v := ?_) (a' := ?_) #[true,true,true,true,true,true,true,true,true,true,true,true] rfl rfl (any_of HT_.out (by kernel_rfl)) (fun _ _ _ h => h) (Or.inl ⟨by rfl,?_⟩) ?_ ?_
          rotate_left
          ·intro w'
           go_simp
           with_reducible rfl
          rotate_left
          ·simp only [Act.put,List.setIfInBounds_toArray,List.set_cons_zero,List.set_cons_succ,i64_w,i32_w]
           rfl
          refine done_ (done_of HT_.out (by kernel_rfl)) ?_
          try go_wp2_with (first|((with_reducible refine gate_dst (N := 70) rfl ?_);first|(refine ldRow rfl 50 _ rfl _ rfl _ (row19 hx124_0 hx124_1 hx124_2 hx124_3 hx124_4 hx124_5 hx124_6 hx124_7 hx124_8 hx124_9 hx124_10 hx124_11 hx124_12 hx124_13 hx124_14 hx124_15 hx124_16 hx124_17 hx124_18) _ Try.underlying50 (by kernel_rfl) ?_)|(refine ldRow rfl 50 _ rfl _ rfl _ (row19 hx125_0 hx125_1 hx125_2 hx125_3 hx125_4 hx125_5 hx125_6 hx125_7 hx125_8 hx125_9 hx125_10 hx125_11 hx125_12 hx125_13 hx125_14 hx125_15 hx125_16 hx125_17 hx125_18) _ Try.underlying50 (by kernel_rfl) ?_))|((with_reducible refine gate_dst (N := 75) rfl ?_);first|(refine ldRow rfl 50 _ rfl _ rfl _ (row19 hx124_0 hx124_1 hx124_2 hx124_3 hx124_4 hx124_5 hx124_6 hx124_7 hx124_8 hx124_9 hx124_10 hx124_11 hx124_12 hx124_13 hx124_14 hx124_15 hx124_16 hx124_17 hx124_18) _ Try.underlying50 (by kernel_rfl) ?_)|(refine ldRow rfl 50 _ rfl _ rfl _ (row19 hx125_0 hx125_1 hx125_2 hx125_3 hx125_4 hx125_5 hx125_6 hx125_7 hx125_8 hx125_9 hx125_10 hx125_11 hx125_12 hx125_13 hx125_14 hx125_15 hx125_16 hx125_17 hx125_18) _ Try.underlying50 (by kernel_rfl) ?_)))
          go_roundg k2
          case measure => have := HJ2.out;have := HK2.out;omega
          case rel => exact ⟨(wrap64 (x5_2 + 1)),(by first|rfl|(simp;done)|(simp [*];done)),H',⟨by have := HJ2.out;have := HK2.out;omega⟩,⟨by refine kX ?_;exact BK118.out⟩,⟨by refine kX ?_;exact BK119.out⟩,⟨by repeat (first|(with_reducible first|exact HB.out|apply bA|apply bN|apply bD|refine bS ?_ GE118.out|refine bS ?_ GE119.out)|exact HB.out)⟩⟩
         ·replace c42 := Bool.eq_false_iff.mpr c42
          subst c42
          rw [if_neg (show ¬ (false = true) by decide)] at H
          obtain rfl := Option.some.inj H
          try go_wp2_with (first|((with_reducible refine gate_dst (N := 61) rfl ?_);(try (refine gate_guard (by rfl) ?_;dsimp only));refine normW ?_ (by (try simp only [Act.put,List.setIfInBounds_toArray,List.set_cons_zero,List.set_cons_succ]);rfl);refine ldOne rfl 48 _ rfl gb118 18 rfl (l := [.int .i64 a0_0,.string a0_1,.int .i64 a0_2,.int .i64 a0_3,.string a0_4,.slice A0_5 l0_5.length c0_5,.int .i64 a0_6,.int .i64 a0_7,.string a0_8,.slice A0_9 l0_9.length c0_9,.int .i64 a0_10,.int .i64 a0_11,.string a0_12,.slice A0_13 l0_13.length c0_13,.int .i64 a0_14,.int .i64 a0_15,.string a0_16,.slice A0_17 l0_17.length c0_17,.slice A0_18 l0_18.length c0_18]) (tb := 50) (by exact kX BK118.out) (.slice A0_18 l0_18.length c0_18) rfl (fun _ => by kernel_rfl) ?_;have hnb46 := NB118_119.out;have hnc46 := NB119_118.out))
          have n0_ := mk0 (kD BK118.out)
          have n1_ := mk0 (kD BK119.out)
          have n2_ := mk0 (bD HB.out)
          clear BK118
          clear BK119
          clear HB
          have BK118 := n0_
          have BK119 := n1_
          have HB := n2_
          clear n0_ n1_ n2_
          have p124 : 0 ≤ (x5_2 : Int) := of_decide_eq_true (by first|(with_reducible assumption)|assumption)
          have q124 : x5_2 < (l0_18.length : Int) := of_decide_eq_true (by first|(with_reducible assumption)|assumption)
          obtain ⟨ad124,A124_5,c124_5,A124_9,c124_9,A124_13,c124_13,A124_17,c124_17,A124_18,c124_18,e124,hx124_0,hx124_1,hx124_2,hx124_3,hx124_4,hx124_5,hx124_6,hx124_7,hx124_8,hx124_9,hx124_10,hx124_11,hx124_12,hx124_13,hx124_14,hx124_15,hx124_16,hx124_17,hx124_18,hl124_5,hi124_5,hl124_9,hi124_9,hl124_13,hi124_13,hl124_17,hi124_17,hl124_18,hi124_18⟩ := at_T50 HR0_18.out x5_2 p124 q124
          have hw124_18 := hx124_18
          have hw124_17 := hx124_17
          have hw124_16 := hx124_16
          have hw124_15 := hx124_15
          have hw124_14 := hx124_14
          have hw124_13 := hx124_13
          have hw124_12 := hx124_12
          have hw124_11 := hx124_11
          have hw124_10 := hx124_10
          have hw124_9 := hx124_9
          have hw124_8 := hx124_8
          have hw124_7 := hx124_7
          have hw124_6 := hx124_6
          have hw124_5 := hx124_5
          have hw124_4 := hx124_4
          have hw124_3 := hx124_3
          have hw124_2 := hx124_2
          have hw124_1 := hx124_1
          have hw124_0 := hx124_0
          cases e124
          replace hx124_0 := hbc HB.out hx124_0
          replace hx124_1 := hbc HB.out hx124_1
          replace hx124_2 := hbc HB.out hx124_2
          replace hx124_3 := hbc HB.out hx124_3
          replace hx124_4 := hbc HB.out hx124_4
          replace hx124_5 := hbc HB.out hx124_5
          replace hx124_6 := hbc HB.out hx124_6
          replace hx124_7 := hbc HB.out hx124_7
          replace hx124_8 := hbc HB.out hx124_8
          replace hx124_9 := hbc HB.out hx124_9
          replace hx124_10 := hbc HB.out hx124_10
          replace hx124_11 := hbc HB.out hx124_11
          replace hx124_12 := hbc HB.out hx124_12
          replace hx124_13 := hbc HB.out hx124_13
          replace hx124_14 := hbc HB.out hx124_14
          replace hx124_15 := hbc HB.out hx124_15
          replace hx124_16 := hbc HB.out hx124_16
          replace hx124_17 := hbc HB.out hx124_17
          replace hx124_18 := hbc HB.out hx124_18
          have HR124_5 := mk0 hi124_5
          have HC124_5 := mk0 hl124_5
          clear hi124_5 hl124_5
          have HR124_9 := mk0 hi124_9
          have HC124_9 := mk0 hl124_9
          clear hi124_9 hl124_9
          have HR124_13 := mk0 hi124_13
          have HC124_13 := mk0 hl124_13
          clear hi124_13 hl124_13
          have HR124_17 := mk0 hi124_17
          have HC124_17 := mk0 hl124_17
          clear hi124_17 hl124_17
          have HR124_18 := mk0 hi124_18
          have HC124_18 := mk0 hl124_18
          clear hi124_18 hl124_18
          replace p124 := eq_true p124
          replace q124 := eq_true q124
          have p125 : 0 ≤ (x5_2 : Int) := of_decide_eq_true (by first|(with_reducible assumption)|assumption)
          have q125 : x5_2 < (l1_18.length : Int) := of_decide_eq_true (by first|(with_reducible assumption)|assumption)
          obtain ⟨ad125,A125_5,c125_5,A125_9,c125_9,A125_13,c125_13,A125_17,c125_17,A125_18,c125_18,e125,hx125_0,hx125_1,hx125_2,hx125_3,hx125_4,hx125_5,hx125_6,hx125_7,hx125_8,hx125_9,hx125_10,hx125_11,hx125_12,hx125_13,hx125_14,hx125_15,hx125_16,hx125_17,hx125_18,hl125_5,hi125_5,hl125_9,hi125_9,hl125_13,hi125_13,hl125_17,hi125_17,hl125_18,hi125_18⟩ := at_T50 HR1_18.out x5_2 p125 q125
          have hw125_18 := hx125_18
          have hw125_17 := hx125_17
          have hw125_16 := hx125_16
          have hw125_15 := hx125_15
          have hw125_14 := hx125_14
          have hw125_13 := hx125_13
          have hw125_12 := hx125_12
          have hw125_11 := hx125_11
          have hw125_10 := hx125_10
          have hw125_9 := hx125_9
          have hw125_8 := hx125_8
          have hw125_7 := hx125_7
          have hw125_6 := hx125_6
          have hw125_5 := hx125_5
          have hw125_4 := hx125_4
          have hw125_3 := hx125_3
          have hw125_2 := hx125_2
          have hw125_1 := hx125_1
          have hw125_0 := hx125_0
          cases e125
          replace hx125_0 := hbc HB.out hx125_0
          replace hx125_1 := hbc HB.out hx125_1
          replace hx125_2 := hbc HB.out hx125_2
          replace hx125_3 := hbc HB.out hx125_3
          replace hx125_4 := hbc HB.out hx125_4
          replace hx125_5 := hbc HB.out hx125_5
          replace hx125_6 := hbc HB.out hx125_6
          replace hx125_7 := hbc HB.out hx125_7
          replace hx125_8 := hbc HB.out hx125_8
          replace hx125_9 := hbc HB.out hx125_9
          replace hx125_10 := hbc HB.out hx125_10
          replace hx125_11 := hbc HB.out hx125_11
          replace hx125_12 := hbc HB.out hx125_12
          replace hx125_13 := hbc HB.out hx125_13
          replace hx125_14 := hbc HB.out hx125_14
          replace hx125_15 := hbc HB.out hx125_15
          replace hx125_16 := hbc HB.out hx125_16
          replace hx125_17 := hbc HB.out hx125_17
          replace hx125_18 := hbc HB.out hx125_18
          have HR125_5 := mk0 hi125_5
          have HC125_5 := mk0 hl125_5
          clear hi125_5 hl125_5
          have HR125_9 := mk0 hi125_9
          have HC125_9 := mk0 hl125_9
          clear hi125_9 hl125_9
          have HR125_13 := mk0 hi125_13
          have HC125_13 := mk0 hl125_13
          clear hi125_13 hl125_13
          have HR125_17 := mk0 hi125_17
          have HC125_17 := mk0 hl125_17
          clear hi125_17 hl125_17
          have HR125_18 := mk0 hi125_18
          have HC125_18 := mk0 hl125_18
          clear hi125_18 hl125_18
          replace p125 := eq_true p125
          replace q125 := eq_true q125
          refine start_ (n := 12) (S := fun w' => w'.cell? ⟨gb118,0,none⟩ = some (.int .i64 a0_0) ∧ w'.cell? ⟨gb118,1,none⟩ = some (.string a0_1) ∧ w'.cell? ⟨gb118,2,none⟩ = some (.int .i64 a0_2) ∧ w'.cell? ⟨gb118,3,none⟩ = some (.int .i64 a0_3) ∧ w'.cell? ⟨gb118,4,none⟩ = some (.string a0_4) ∧ w'.cell? ⟨gb118,5,none⟩ = some (.slice A0_5 l0_5.length c0_5) ∧ w'.cell? ⟨gb118,6,none⟩ = some (.int .i64 a0_6) ∧ w'.cell? ⟨gb118,7,none⟩ = some (.int .i64 a0_7) ∧ w'.cell? ⟨gb118,8,none⟩ = some (.string a0_8) ∧ w'.cell? ⟨gb118,9,none⟩ = some (.slice A0_9 l0_9.length c0_9) ∧ w'.cell? ⟨gb118,10,none⟩ = some (.int .i64 a0_10) ∧ w'.cell? ⟨gb118,11,none⟩ = some (.int .i64 a0_11) ∧ w'.cell? ⟨gb118,12,none⟩ = some (.string a0_12) ∧ w'.cell? ⟨gb118,13,none⟩ = some (.slice A0_13 l0_13.length c0_13) ∧ w'.cell? ⟨gb118,14,none⟩ = some (.int .i64 a0_14) ∧ w'.cell? ⟨gb118,15,none⟩ = some (.int .i64 a0_15) ∧ w'.cell? ⟨gb118,16,none⟩ = some (.string a0_16) ∧ w'.cell? ⟨gb118,17,none⟩ = some (.slice A0_17 l0_17.length c0_17) ∧ w'.cell? ⟨gb118,18,none⟩ = some (.slice (some ad124) l0_18.length c0_18) ∧ w'.cell? ⟨gb119,0,none⟩ = some (.int .i64 a1_0) ∧ w'.cell? ⟨gb119,1,none⟩ = some (.string a1_1) ∧ w'.cell? ⟨gb119,2,none⟩ = some (.int .i64 a1_2) ∧ w'.cell? ⟨gb119,3,none⟩ = some (.int .i64 a1_3) ∧ w'.cell? ⟨gb119,4,none⟩ = some (.string a1_4) ∧ w'.cell? ⟨gb119,5,none⟩ = some (.slice A1_5 l1_5.length c1_5) ∧ w'.cell? ⟨gb119,6,none⟩ = some (.int .i64 a1_6) ∧ w'.cell? ⟨gb119,7,none⟩ = some (.int .i64 a1_7) ∧ w'.cell? ⟨gb119,8,none⟩ = some (.string a1_8) ∧ w'.cell? ⟨gb119,9,none⟩ = some (.slice A1_9 l1_9.length c1_9) ∧ w'.cell? ⟨gb119,10,none⟩ = some (.int .i64 a1_10) ∧ w'.cell? ⟨gb119,11,none⟩ = some (.int .i64 a1_11) ∧ w'.cell? ⟨gb119,12,none⟩ = some (.string a1_12) ∧ w'.cell? ⟨gb119,13,none⟩ = some (.slice A1_13 l1_13.length c1_13) ∧ w'.cell? ⟨gb119,14,none⟩ = some (.int .i64 a1_14) ∧ w'.cell? ⟨gb119,15,none⟩ = some (.int .i64 a1_15) ∧ w'.cell? ⟨gb119,16,none⟩ = some (.string a1_16) ∧ w'.cell? ⟨gb119,17,none⟩ = some (.slice A1_17 l1_17.length c1_17) ∧ w'.cell? ⟨gb119,18,none⟩ = some (.slice (some ad125) l1_18.length c1_18) ∧ w'.cell? (ad124.add ((x5_2).toNat * 19)) = some (.int .i64 ((rd_T50 l0_18 x5_2).f0)) ∧ w'.cell? ⟨(ad124.add ((x5_2).toNat * 19)).block,(ad124.add ((x5_2).toNat * 19)).off + 1,none⟩ = some (.string ((rd_T50 l0_18 x5_2).f1)) ∧ w'.cell? ⟨(ad124.add ((x5_2).toNat * 19)).block,(ad124.add ((x5_2).toNat * 19)).off + 2,none⟩ = some (.int .i64 ((rd_T50 l0_18 x5_2).f2.f0)) ∧ w'.cell? ⟨(ad124.add ((x5_2).toNat * 19)).block,(ad124.add ((x5_2).toNat * 19)).off + 3,none⟩ = some (.int .i64 ((rd_T50 l0_18 x5_2).f2.f1)) ∧ w'.cell? ⟨(ad124.add ((x5_2).toNat * 19)).block,(ad124.add ((x5_2).toNat * 19)).off + 4,none⟩ = some (.string ((rd_T50 l0_18 x5_2).f2.f2)) ∧ w'.cell? ⟨(ad124.add ((x5_2).toNat * 19)).block,(ad124.add ((x5_2).toNat * 19)).off + 5,none⟩ = some (.slice A124_5 ((rd_T50 l0_18 x5_2).f2.f3).length c124_5) ∧ w'.cell? ⟨(ad124.add ((x5_2).toNat * 19)).block,(ad124.add ((x5_2).toNat * 19)).off + 6,none⟩ = some (.int .i64 ((rd_T50 l0_18 x5_2).f3.f0)) ∧ w'.cell? ⟨(ad124.add ((x5_2).toNat * 19)).block,(ad124.add ((x5_2).toNat * 19)).off + 7,none⟩ = some (.int .i64 ((rd_T50 l0_18 x5_2).f3.f1)) ∧ w'.cell? ⟨(ad124.add ((x5_2).toNat * 19)).block,(ad124.add ((x5_2).toNat * 19)).off + 8,none⟩ = some (.string ((rd_T50 l0_18 x5_2).f3.f2)) ∧ w'.cell? ⟨(ad124.add ((x5_2).toNat * 19)).block,(ad124.add ((x5_2).toNat * 19)).off + 9,none⟩ = some (.slice A124_9 ((rd_T50 l0_18 x5_2).f3.f3).length c124_9) ∧ w'.cell? ⟨(ad124.add ((x5_2).toNat * 19)).block,(ad124.add ((x5_2).toNat * 19)).off + 10,none⟩ = some (.int .i64 ((rd_T50 l0_18 x5_2).f4.f0)) ∧ w'.cell? ⟨(ad124.add ((x5_2).toNat * 19)).block,(ad124.add ((x5_2).toNat * 19)).off + 11,none⟩ = some (.int .i64 ((rd_T50 l0_18 x5_2).f4.f1)) ∧ w'.cell? ⟨(ad124.add ((x5_2).toNat * 19)).block,(ad124.add ((x5_2).toNat * 19)).off + 12,none⟩ = some (.string ((rd_T50 l0_18 x5_2).f4.f2)) ∧ w'.cell? ⟨(ad124.add ((x5_2).toNat * 19)).block,(ad124.add ((x5_2).toNat * 19)).off + 13,none⟩ = some (.slice A124_13 ((rd_T50 l0_18 x5_2).f4.f3).length c124_13) ∧ w'.cell? ⟨(ad124.add ((x5_2).toNat * 19)).block,(ad124.add ((x5_2).toNat * 19)).off + 14,none⟩ = some (.int .i64 ((rd_T50 l0_18 x5_2).f5.f0)) ∧ w'.cell? ⟨(ad124.add ((x5_2).toNat * 19)).block,(ad124.add ((x5_2).toNat * 19)).off + 15,none⟩ = some (.int .i64 ((rd_T50 l0_18 x5_2).f5.f1)) ∧ w'.cell? ⟨(ad124.add ((x5_2).toNat * 19)).block,(ad124.add ((x5_2).toNat * 19)).off + 16,none⟩ = some (.string ((rd_T50 l0_18 x5_2).f5.f2)) ∧ w'.cell? ⟨(ad124.add ((x5_2).toNat * 19)).block,(ad124.add ((x5_2).toNat * 19)).off + 17,none⟩ = some (.slice A124_17 ((rd_T50 l0_18 x5_2).f5.f3).length c124_17) ∧ w'.cell? ⟨(ad124.add ((x5_2).toNat * 19)).block,(ad124.add ((x5_2).toNat * 19)).off + 18,none⟩ = some (.slice A124_18 ((rd_T50 l0_18 x5_2).f6).length c124_18) ∧ w'.cell? (ad125.add ((x5_2).toNat * 19)) = some (.int .i64 ((rd_T50 l1_18 x5_2).f0)) ∧ w'.cell? ⟨(ad125.add ((x5_2).toNat * 19)).block,(ad125.add ((x5_2).toNat * 19)).off + 1,none⟩ = some (.string ((rd_T50 l1_18 x5_2).f1)) ∧ w'.cell? ⟨(ad125.add ((x5_2).toNat * 19)).block,(ad125.add ((x5_2).toNat * 19)).off + 2,none⟩ = some (.int .i64 ((rd_T50 l1_18 x5_2).f2.f0)) ∧ w'.cell? ⟨(ad125.add ((x5_2).toNat * 19)).block,(ad125.add ((x5_2).toNat * 19)).off + 3,none⟩ = some (.int .i64 ((rd_T50 l1_18 x5_2).f2.f1)) ∧ w'.cell? ⟨(ad125.add ((x5_2).toNat * 19)).block,(ad125.add ((x5_2).toNat * 19)).off + 4,none⟩ = some (.string ((rd_T50 l1_18 x5_2).f2.f2)) ∧ w'.cell? ⟨(ad125.add ((x5_2).toNat * 19)).block,(ad125.add ((x5_2).toNat * 19)).off + 5,none⟩ = some (.slice A125_5 ((rd_T50 l1_18 x5_2).f2.f3).length c125_5) ∧ w'.cell? ⟨(ad125.add ((x5_2).toNat * 19)).block,(ad125.add ((x5_2).toNat * 19)).off + 6,none⟩ = some (.int .i64 ((rd_T50 l1_18 x5_2).f3.f0)) ∧ w'.cell? ⟨(ad125.add ((x5_2).toNat * 19)).block,(ad125.add ((x5_2).toNat * 19)).off + 7,none⟩ = some (.int .i64 ((rd_T50 l1_18 x5_2).f3.f1)) ∧ w'.cell? ⟨(ad125.add ((x5_2).toNat * 19)).block,(ad125.add ((x5_2).toNat * 19)).off + 8,none⟩ = some (.string ((rd_T50 l1_18 x5_2).f3.f2)) ∧ w'.cell? ⟨(ad125.add ((x5_2).toNat * 19)).block,(ad125.add ((x5_2).toNat * 19)).off + 9,none⟩ = some (.slice A125_9 ((rd_T50 l1_18 x5_2).f3.f3).length c125_9) ∧ w'.cell? ⟨(ad125.add ((x5_2).toNat * 19)).block,(ad125.add ((x5_2).toNat * 19)).off + 10,none⟩ = some (.int .i64 ((rd_T50 l1_18 x5_2).f4.f0)) ∧ w'.cell? ⟨(ad125.add ((x5_2).toNat * 19)).block,(ad125.add ((x5_2).toNat * 19)).off + 11,none⟩ = some (.int .i64 ((rd_T50 l1_18 x5_2).f4.f1)) ∧ w'.cell? ⟨(ad125.add ((x5_2).toNat * 19)).block,(ad125.add ((x5_2).toNat * 19)).off + 12,none⟩ = some (.string ((rd_T50 l1_18 x5_2).f4.f2)) ∧ w'.cell? ⟨(ad125.add ((x5_2).toNat * 19)).block,(ad125.add ((x5_2).toNat * 19)).off + 13,none⟩ = some (.slice A125_13 ((rd_T50 l1_18 x5_2).f4.f3).length c125_13) ∧ w'.cell? ⟨(ad125.add ((x5_2).toNat * 19)).block,(ad125.add ((x5_2).toNat * 19)).off + 14,none⟩ = some (.int .i64 ((rd_T50 l1_18 x5_2).f5.f0)) ∧ w'.cell? ⟨(ad125.add ((x5_2).toNat * 19)).block,(ad125.add ((x5_2).toNat * 19)).off + 15,none⟩ = some (.int .i64 ((rd_T50 l1_18 x5_2).f5.f1)) ∧ w'.cell? ⟨(ad125.add ((x5_2).toNat * 19)).block,(ad125.add ((x5_2).toNat * 19)).off + 16,none⟩ = some (.string ((rd_T50 l1_18 x5_2).f5.f2)) ∧ w'.cell? ⟨(ad125.add ((x5_2).toNat * 19)).block,(ad125.add ((x5_2).toNat * 19)).off + 17,none⟩ = some (.slice A125_17 ((rd_T50 l1_18 x5_2).f5.f3).length c125_17) ∧ w'.cell? ⟨(ad125.add ((x5_2).toNat * 19)).block,(ad125.add ((x5_2).toNat * 19)).off + 18,none⟩ = some (.slice A125_18 ((rd_T50 l1_18 x5_2).f6).length c125_18)) (ds := []) #[false,false,false,false,false,false,false,false,false,false,false,false] (by kernel_rfl) rfl rfl ⟨(blk_cell BK118.out 0).trans rfl,(blk_cell BK118.out 1).trans rfl,(blk_cell BK118.out 2).trans rfl,(blk_cell BK118.out 3).trans rfl,(blk_cell BK118.out 4).trans rfl,(blk_cell BK118.out 5).trans rfl,(blk_cell BK118.out 6).trans rfl,(blk_cell BK118.out 7).trans rfl,(blk_cell BK118.out 8).trans rfl,(blk_cell BK118.out 9).trans rfl,(blk_cell BK118.out 10).trans rfl,(blk_cell BK118.out 11).trans rfl,(blk_cell BK118.out 12).trans rfl,(blk_cell BK118.out 13).trans rfl,(blk_cell BK118.out 14).trans rfl,(blk_cell BK118.out 15).trans rfl,(blk_cell BK118.out 16).trans rfl,(blk_cell BK118.out 17).trans rfl,(blk_cell BK118.out 18).trans rfl,(blk_cell BK119.out 0).trans rfl,(blk_cell BK119.out 1).trans rfl,(blk_cell BK119.out 2).trans rfl,(blk_cell BK119.out 3).trans rfl,(blk_cell BK119.out 4).trans rfl,(blk_cell BK119.out 5).trans rfl,(blk_cell BK119.out 6).trans rfl,(blk_cell BK119.out 7).trans rfl,(blk_cell BK119.out 8).trans rfl,(blk_cell BK119.out 9).trans rfl,(blk_cell BK119.out 10).trans rfl,(blk_cell BK119.out 11).trans rfl,(blk_cell BK119.out 12).trans rfl,(blk_cell BK119.out 13).trans rfl,(blk_cell BK119.out 14).trans rfl,(blk_cell BK119.out 15).trans rfl,(blk_cell BK119.out 16).trans rfl,(blk_cell BK119.out 17).trans rfl,(blk_cell BK119.out 18).trans rfl,((HB.out.cell (World.block_lt_of_cell? w _ hw124_0)).trans hw124_0),((HB.out.cell (World.block_lt_of_cell? w _ hw124_1)).trans hw124_1),((HB.out.cell (World.block_lt_of_cell? w _ hw124_2)).trans hw124_2),((HB.out.cell (World.block_lt_of_cell? w _ hw124_3)).trans hw124_3),((HB.out.cell (World.block_lt_of_cell? w _ hw124_4)).trans hw124_4),((HB.out.cell (World.block_lt_of_cell? w _ hw124_5)).trans hw124_5),((HB.out.cell (World.block_lt_of_cell? w _ hw124_6)).trans hw124_6),((HB.out.cell (World.block_lt_of_cell? w _ hw124_7)).trans hw124_7),((HB.out.cell (World.block_lt_of_cell? w _ hw124_8)).trans hw124_8),((HB.out.cell (World.block_lt_of_cell? w _ hw124_9)).trans hw124_9),((HB.out.cell (World.block_lt_of_cell? w _ hw124_10)).trans hw124_10),((HB.out.cell (World.block_lt_of_cell? w _ hw124_11)).trans hw124_11),((HB.out.cell (World.block_lt_of_cell? w _ hw124_12)).trans hw124_12),((HB.out.cell (World.block_lt_of_cell? w _ hw124_13)).trans hw124_13),((HB.out.cell (World.block_lt_of_cell? w _ hw124_14)).trans hw124_14),((HB.out.cell (World.block_lt_of_cell? w _ hw124_15)).trans hw124_15),((HB.out.cell (World.block_lt_of_cell? w _ hw124_16)).trans hw124_16),((HB.out.cell (World.block_lt_of_cell? w _ hw124_17)).trans hw124_17),((HB.out.cell (World.block_lt_of_cell? w _ hw124_18)).trans hw124_18),((HB.out.cell (World.block_lt_of_cell? w _ hw125_0)).trans hw125_0),((HB.out.cell (World.block_lt_of_cell? w _ hw125_1)).trans hw125_1),((HB.out.cell (World.block_lt_of_cell? w _ hw125_2)).trans hw125_2),((HB.out.cell (World.block_lt_of_cell? w _ hw125_3)).trans hw125_3),((HB.out.cell (World.block_lt_of_cell? w _ hw125_4)).trans hw125_4),((HB.out.cell (World.block_lt_of_cell? w _ hw125_5)).trans hw125_5),((HB.out.cell (World.block_lt_of_cell? w _ hw125_6)).trans hw125_6),((HB.out.cell (World.block_lt_of_cell? w _ hw125_7)).trans hw125_7),((HB.out.cell (World.block_lt_of_cell? w _ hw125_8)).trans hw125_8),((HB.out.cell (World.block_lt_of_cell? w _ hw125_9)).trans hw125_9),((HB.out.cell (World.block_lt_of_cell? w _ hw125_10)).trans hw125_10),((HB.out.cell (World.block_lt_of_cell? w _ hw125_11)).trans hw125_11),((HB.out.cell (World.block_lt_of_cell? w _ hw125_12)).trans hw125_12),((HB.out.cell (World.block_lt_of_cell? w _ hw125_13)).trans hw125_13),((HB.out.cell (World.block_lt_of_cell? w _ hw125_14)).trans hw125_14),((HB.out.cell (World.block_lt_of_cell? w _ hw125_15)).trans hw125_15),((HB.out.cell (World.block_lt_of_cell? w _ hw125_16)).trans hw125_16),((HB.out.cell (World.block_lt_of_cell? w _ hw125_17)).trans hw125_17),((HB.out.cell (World.block_lt_of_cell? w _ hw125_18)).trans hw125_18)⟩ (fun hHeld => ?_);refine with_tabW spec_SameStmt.tab6 spec_SameStmt.bits6 (fun HT_ HW_ => ?_)
          generalize wr.drew = w47 at BK118 BK119 HB HR124_13 HR124_17 HR124_18 HR124_5 HR124_9 HR125_13 HR125_17 HR125_18 HR125_5 HR125_9 hx124_0 hx124_1 hx124_10 hx124_11 hx124_12 hx124_13 hx124_14 hx124_15 hx124_16 hx124_17 hx124_18 hx124_2 hx124_3 hx124_4 hx124_5 hx124_6 hx124_7 hx124_8 hx124_9 hx125_0 hx125_1 hx125_10 hx125_11 hx125_12 hx125_13 hx125_14 hx125_15 hx125_16 hx125_17 hx125_18 hx125_2 hx125_3 hx125_4 hx125_5 hx125_6 hx125_7 hx125_8 hx125_9 hHeld ⊢
          refine pure_ (i := 0) (N := some 66) (v := ?_) (a' := ?_) #[true,false,false,false,false,false,false,false,false,false,false,false] rfl rfl (any_of HT_.out (by kernel_rfl)) (fun _ _ _ h => h) (Or.inl ⟨by rfl,?_⟩) ?_ ?_
          rotate_left
          ·intro w'
           go_simp
           with_reducible rfl
          rotate_left
          ·simp only [Act.put,List.setIfInBounds_toArray,List.set_cons_zero,List.set_cons_succ,i64_w,i32_w]
           rfl
          refine pure_ (i := 2) (N := some 68) (v := ?_) (a' := ?_) #[true,false,true,false,false,false,false,false,false,false,false,false] rfl rfl (any_of HT_.out (by kernel_rfl)) (fun _ _ _ h => h) (Or.inl ⟨by rfl,?_⟩) ?_ ?_
          rotate_left
          ·intro w'
           go_simp
           with_reducible rfl
          rotate_left
          ·simp only [Act.put,List.setIfInBounds_toArray,List.set_cons_zero,List.set_cons_succ,i64_w,i32_w]
           rfl
          refine pure_ (i := 5) (N := some 71) (v := ?_) (a' := ?_) #[true,false,true,false,false,true,false,false,false,false,false,false] rfl rfl (any_of HT_.out (by kernel_rfl)) (fun _ _ _ h => h) (Or.inl ⟨by rfl,?_⟩) ?_ ?_
          rotate_left
          ·intro w'
           go_simp
           with_reducible rfl
          rotate_left
          ·simp only [Act.put,List.setIfInBounds_toArray,List.set_cons_zero,List.set_cons_succ,i64_w,i32_w]
           rfl
          refine pure_ (i := 7) (N := some 73) (v := ?_) (a' := ?_) #[true,false,true,false,false,true,false,true,false,false,false,false] rfl rfl (any_of HT_.out (by kernel_rfl)) (fun _ _ _ h => h) (Or.inl ⟨by rfl,?_⟩) ?_ ?_
          rotate_left
          ·intro w'
           go_simp
           with_reducible rfl
          rotate_left
          ·simp only [Act.put,List.setIfInBounds_toArray,List.set_cons_zero,List.set_cons_succ,i64_w,i32_w]
           rfl
          refine take_ (i := 1) (N := some 67) (v := ?_) (a' := ?_) #[true,true,true,false,false,true,false,true,false,false,false,false] rfl rfl (take_ofW HT_.out HW_.out (by kernel_rfl)) (fun _ _ _ h => h) (Or.inl ⟨by rfl,?_⟩) hHeld ?_ ?_
          rotate_left
          ·rintro w' ⟨s0,s1,s2,s3,s4,s5,s6,s7,s8,s9,s10,s11,s12,s13,s14,s15,s16,s17,s18,s19,s20,s21,s22,s23,s24,s25,s26,s27,s28,s29,s30,s31,s32,s33,s34,s35,s36,s37,s38,s39,s40,s41,s42,s43,s44,s45,s46,s47,s48,s49,s50,s51,s52,s53,s54,s55,s56,s57,s58,s59,s60,s61,s62,s63,s64,s65,s66,s67,s68,s69,s70,s71,s72,s73,s74,s75⟩
           go_simp
           with_reducible rfl
          rotate_left
          ·simp only [Act.put,List.setIfInBounds_toArray,List.set_cons_zero,List.set_cons_succ,i64_w,i32_w]
           rfl
          refine pure_ (i := 3) (N := some 69) (v := ?_) (a' := ?_) #[true,true,true,true,false,true,false,true,false,false,false,false] rfl rfl (any_of HT_.out (by kernel_rfl)) (fun _ _ _ h => h) (Or.inl ⟨by rfl,?_⟩) ?_ ?_
          rotate_left
          ·intro w'
           go_simp
           with_reducible rfl
          rotate_left
          ·simp only [Act.put,List.setIfInBounds_toArray,List.set_cons_zero,List.set_cons_succ,i64_w,i32_w]
           rfl
          refine take_ (i := 4) (N := some 70) (v := ?_) (a' := ?_) #[true,true,true,true,true,true,false,true,false,false,false,false] rfl rfl (take_ofW HT_.out HW_.out (by kernel_rfl)) (fun _ _ _ h => h) (Or.inl ⟨by rfl,?_⟩) hHeld ?_ ?_
          rotate_left
          ·rintro w' ⟨s0,s1,s2,s3,s4,s5,s6,s7,s8,s9,s10,s11,s12,s13,s14,s15,s16,s17,s18,s19,s20,s21,s22,s23,s24,s25,s26,s27,s28,s29,s30,s31,s32,s33,s34,s35,s36,s37,s38,s39,s40,s41,s42,s43,s44,s45,s46,s47,s48,s49,s50,s51,s52,s53,s54,s55,s56,s57,s58,s59,s60,s61,s62,s63,s64,s65,s66,s67,s68,s69,s70,s71,s72,s73,s74,s75⟩
           first|(refine ldRun 50 ?x740_0 ?ho740_0 _ ?hx740_0 _ (row19 s0 s1 s2 s3 s4 s5 s6 s7 s8 s9 s10 s11 s12 s13 s14 s15 s16 s17 s18) _ Try.underlying50 (by kernel_rfl);(case ho740_0 => rfl);(case hx740_0 => rfl))|(refine ldRun 50 ?x740_19 ?ho740_19 _ ?hx740_19 _ (row19 s19 s20 s21 s22 s23 s24 s25 s26 s27 s28 s29 s30 s31 s32 s33 s34 s35 s36 s37) _ Try.underlying50 (by kernel_rfl);(case ho740_19 => rfl);(case hx740_19 => rfl))|(refine ldRun 50 ?x740_38 ?ho740_38 _ ?hx740_38 _ (row19 s38 s39 s40 s41 s42 s43 s44 s45 s46 s47 s48 s49 s50 s51 s52 s53 s54 s55 s56) _ Try.underlying50 (by kernel_rfl);(case ho740_38 => rfl);(case hx740_38 => rfl))|(refine ldRun 50 ?x740_57 ?ho740_57 _ ?hx740_57 _ (row19 s57 s58 s59 s60 s61 s62 s63 s64 s65 s66 s67 s68 s69 s70 s71 s72 s73 s74 s75) _ Try.underlying50 (by kernel_rfl);(case ho740_57 => rfl);(case hx740_57 => rfl))
          rotate_left
          ·simp only [Act.put,List.setIfInBounds_toArray,List.set_cons_zero,List.set_cons_succ,i64_w,i32_w]
           rfl
          refine take_ (i := 6) (N := some 72) (v := ?_) (a' := ?_) #[true,true,true,true,true,true,true,true,false,false,false,false] rfl rfl (take_ofW HT_.out HW_.out (by kernel_rfl)) (fun _ _ _ h => h) (Or.inl ⟨by rfl,?_⟩) hHeld ?_ ?_
          rotate_left
          ·rintro w' ⟨s0,s1,s2,s3,s4,s5,s6,s7,s8,s9,s10,s11,s12,s13,s14,s15,s16,s17,s18,s19,s20,s21,s22,s23,s24,s25,s26,s27,s28,s29,s30,s31,s32,s33,s34,s35,s36,s37,s38,s39,s40,s41,s42,s43,s44,s45,s46,s47,s48,s49,s50,s51,s52,s53,s54,s55,s56,s57,s58,s59,s60,s61,s62,s63,s64,s65,s66,s67,s68,s69,s70,s71,s72,s73,s74,s75⟩
           go_simp
           with_reducible rfl
          rotate_left
          ·simp only [Act.put,List.setIfInBounds_toArray,List.set_cons_zero,List.set_cons_succ,i64_w,i32_w]
           rfl
          refine pure_ (i := 8) (N := some 74) (v := ?_) (a' := ?_) #[true,true,true,true,true,true,true,true,true,false,false,false] rfl rfl (any_of HT_.out (by kernel_rfl)) (fun _ _ _ h => h) (Or.inl ⟨by rfl,?_⟩) ?_ ?_
          rotate_left
          ·intro w'
           go_simp
           with_reducible rfl
          rotate_left
          ·simp only [Act.put,List.setIfInBounds_toArray,List.set_cons_zero,List.set_cons_succ,i64_w,i32_w]
           rfl
          refine take_ (i := 9) (N := some 75) (v := ?_) (a' := ?_) #[true,true,true,true,true,true,true,true,true,true,false,false] rfl rfl (take_ofW HT_.out HW_.out (by kernel_rfl)) (fun _ _ _ h => h) (Or.inl ⟨by rfl,?_⟩) hHeld ?_ ?_
          rotate_left
          ·rintro w' ⟨s0,s1,s2,s3,s4,s5,s6,s7,s8,s9,s10,s11,s12,s13,s14,s15,s16,s17,s18,s19,s20,s21,s22,s23,s24,s25,s26,s27,s28,s29,s30,s31,s32,s33,s34,s35,s36,s37,s38,s39,s40,s41,s42,s43,s44,s45,s46,s47,s48,s49,s50,s51,s52,s53,s54,s55,s56,s57,s58,s59,s60,s61,s62,s63,s64,s65,s66,s67,s68,s69,s70,s71,s72,s73,s74,s75⟩
           first|(refine ldRun 50 ?x764_0 ?ho764_0 _ ?hx764_0 _ (row19 s0 s1 s2 s3 s4 s5 s6 s7 s8 s9 s10 s11 s12 s13 s14 s15 s16 s17 s18) _ Try.underlying50 (by kernel_rfl);(case ho764_0 => rfl);(case hx764_0 => rfl))|(refine ldRun 50 ?x764_19 ?ho764_19 _ ?hx764_19 _ (row19 s19 s20 s21 s22 s23 s24 s25 s26 s27 s28 s29 s30 s31 s32 s33 s34 s35 s36 s37) _ Try.underlying50 (by kernel_rfl);(case ho764_19 => rfl);(case hx764_19 => rfl))|(refine ldRun 50 ?x764_38 ?ho764_38 _ ?hx764_38 _ (row19 s38 s39 s40 s41 s42 s43 s44 s45 s46 s47 s48 s49 s50 s51 s52 s53 s54 s55 s56) _ Try.underlying50 (by kernel_rfl);(case ho764_38 => rfl);(case hx764_38 => rfl))|(refine ldRun 50 ?x764_57 ?ho764_57 _ ?hx764_57 _ (row19 s57 s58 s59 s60 s61 s62 s63 s64 s65 s66 s67 s68 s69 s70 s71 s72 s73 s74 s75) _ Try.underlying50 (by kernel_rfl);(case ho764_57 => rfl);(case hx764_57 => rfl))
          rotate_left
          ·simp only [Act.put,List.setIfInBounds_toArray,List.set_cons_zero,List.set_cons_succ,i64_w,i32_w]
           rfl
          refine one_ (i := 10) (N := some 76) #[true,true,true,true,true,true,true,true,true,true,true,false] rfl rfl (one_of HT_.out (by kernel_rfl)) (by decide) (fun K hK => ?_)
          refine goes_ Try.func23 (by kernel_rfl) rfl #[.agg #[.int .i64 ((rd_T50 l0_18 x5_2).f0),.string ((rd_T50 l0_18 x5_2).f1),.int .i64 ((rd_T50 l0_18 x5_2).f2.f0),.int .i64 ((rd_T50 l0_18 x5_2).f2.f1),.string ((rd_T50 l0_18 x5_2).f2.f2),.slice A124_5 ((rd_T50 l0_18 x5_2).f2.f3).length c124_5,.int .i64 ((rd_T50 l0_18 x5_2).f3.f0),.int .i64 ((rd_T50 l0_18 x5_2).f3.f1),.string ((rd_T50 l0_18 x5_2).f3.f2),.slice A124_9 ((rd_T50 l0_18 x5_2).f3.f3).length c124_9,.int .i64 ((rd_T50 l0_18 x5_2).f4.f0),.int .i64 ((rd_T50 l0_18 x5_2).f4.f1),.string ((rd_T50 l0_18 x5_2).f4.f2),.slice A124_13 ((rd_T50 l0_18 x5_2).f4.f3).length c124_13,.int .i64 ((rd_T50 l0_18 x5_2).f5.f0),.int .i64 ((rd_T50 l0_18 x5_2).f5.f1),.string ((rd_T50 l0_18 x5_2).f5.f2),.slice A124_17 ((rd_T50 l0_18 x5_2).f5.f3).length c124_17,.slice A124_18 ((rd_T50 l0_18 x5_2).f6).length c124_18],.agg #[.int .i64 ((rd_T50 l1_18 x5_2).f0),.string ((rd_T50 l1_18 x5_2).f1),.int .i64 ((rd_T50 l1_18 x5_2).f2.f0),.int .i64 ((rd_T50 l1_18 x5_2).f2.f1),.string ((rd_T50 l1_18 x5_2).f2.f2),.slice A125_5 ((rd_T50 l1_18 x5_2).f2.f3).length c125_5,.int .i64 ((rd_T50 l1_18 x5_2).f3.f0),.int .i64 ((rd_T50 l1_18 x5_2).f3.f1),.string ((rd_T50 l1_18 x5_2).f3.f2),.slice A125_9 ((rd_T50 l1_18 x5_2).f3.f3).length c125_9,.int .i64 ((rd_T50 l1_18 x5_2).f4.f0),.int .i64 ((rd_T50 l1_18 x5_2).f4.f1),.string ((rd_T50 l1_18 x5_2).f4.f2),.slice A125_13 ((rd_T50 l1_18 x5_2).f4.f3).length c125_13,.int .i64 ((rd_T50 l1_18 x5_2).f5.f0),.int .i64 ((rd_T50 l1_18 x5_2).f5.f1),.string ((rd_T50 l1_18 x5_2).f5.f2),.slice A125_17 ((rd_T50 l1_18 x5_2).f5.f3).length c125_17,.slice A125_18 ((rd_T50 l1_18 x5_2).f6).length c125_18]] (by rfl) rfl rfl (by (try simp only [List.map_toArray,List.map_cons,List.map_nil]);first|done|rfl) ?_
          with_reducible refine (ih k2 (by have := HJ2.out;have := HK2.out;omega) ((rd_T50 l0_18 x5_2).f0) ((rd_T50 l0_18 x5_2).f1) ((rd_T50 l0_18 x5_2).f2.f0) ((rd_T50 l0_18 x5_2).f2.f1) ((rd_T50 l0_18 x5_2).f2.f2) _ _ ((rd_T50 l0_18 x5_2).f2.f3) ((rd_T50 l0_18 x5_2).f3.f0) ((rd_T50 l0_18 x5_2).f3.f1) ((rd_T50 l0_18 x5_2).f3.f2) _ _ ((rd_T50 l0_18 x5_2).f3.f3) ((rd_T50 l0_18 x5_2).f4.f0) ((rd_T50 l0_18 x5_2).f4.f1) ((rd_T50 l0_18 x5_2).f4.f2) _ _ ((rd_T50 l0_18 x5_2).f4.f3) ((rd_T50 l0_18 x5_2).f5.f0) ((rd_T50 l0_18 x5_2).f5.f1) ((rd_T50 l0_18 x5_2).f5.f2) _ _ ((rd_T50 l0_18 x5_2).f5.f3) _ _ ((rd_T50 l0_18 x5_2).f6) ((rd_T50 l1_18 x5_2).f0) ((rd_T50 l1_18 x5_2).f1) ((rd_T50 l1_18 x5_2).f2.f0) ((rd_T50 l1_18 x5_2).f2.f1) ((rd_T50 l1_18 x5_2).f2.f2) _ _ ((rd_T50 l1_18 x5_2).f2.f3) ((rd_T50 l1_18 x5_2).f3.f0) ((rd_T50 l1_18 x5_2).f3.f1) ((rd_T50 l1_18 x5_2).f3.f2) _ _ ((rd_T50 l1_18 x5_2).f3.f3) ((rd_T50 l1_18 x5_2).f4.f0) ((rd_T50 l1_18 x5_2).f4.f1) ((rd_T50 l1_18 x5_2).f4.f2) _ _ ((rd_T50 l1_18 x5_2).f4.f3) ((rd_T50 l1_18 x5_2).f5.f0) ((rd_T50 l1_18 x5_2).f5.f1) ((rd_T50 l1_18 x5_2).f5.f2) _ _ ((rd_T50 l1_18 x5_2).f5.f3) _ _ ((rd_T50 l1_18 x5_2).f6) false _ ?side1 ?side2 ?side3 ?side4 ?side5 ?side6 ?side7 ?side8 ?side9 ?side10 ?side11 ?side12 ?side13 ?side14 ?side15 ?side16 ?side17 ?side18 ?side19 ?side20 A41.out).mono ?_
          (case side1 => repeat (first|exact (Kd.C_below HR124_5.out HB.out)|(with_reducible refine cA ?_ _)|(with_reducible refine cN ?_ _)|(with_reducible refine cD ?_)))
          (case side2 => exact HC124_5.out)
          (case side3 => repeat (first|exact (Kd.C_below HR124_9.out HB.out)|(with_reducible refine cA ?_ _)|(with_reducible refine cN ?_ _)|(with_reducible refine cD ?_)))
          (case side4 => exact HC124_9.out)
          (case side5 => repeat (first|exact (Kd.C_below HR124_13.out HB.out)|(with_reducible refine cA ?_ _)|(with_reducible refine cN ?_ _)|(with_reducible refine cD ?_)))
          (case side6 => exact HC124_13.out)
          (case side7 => repeat (first|exact (Kd.C_below HR124_17.out HB.out)|(with_reducible refine cA ?_ _)|(with_reducible refine cN ?_ _)|(with_reducible refine cD ?_)))
          (case side8 => exact HC124_17.out)
          (case side9 => repeat (first|exact (Kd.C_below HR124_18.out HB.out)|(with_reducible refine cA ?_ _)|(with_reducible refine cN ?_ _)|(with_reducible refine cD ?_)))
          (case side10 => exact HC124_18.out)
          (case side11 => repeat (first|exact (Kd.C_below HR125_5.out HB.out)|(with_reducible refine cA ?_ _)|(with_reducible refine cN ?_ _)|(with_reducible refine cD ?_)))
          (case side12 => exact HC125_5.out)
          (case side13 => repeat (first|exact (Kd.C_below HR125_9.out HB.out)|(with_reducible refine cA ?_ _)|(with_reducible refine cN ?_ _)|(with_reducible refine cD ?_)))
          (case side14 => exact HC125_9.out)
          (case side15 => repeat (first|exact (Kd.C_below HR125_13.out HB.out)|(with_reducible refine cA ?_ _)|(with_reducible refine cN ?_ _)|(with_reducible refine cD ?_)))
          (case side16 => exact HC125_13.out)
          (case side17 => repeat (first|exact (Kd.C_below HR125_17.out HB.out)|(with_reducible refine cA ?_ _)|(with_reducible refine cN ?_ _)|(with_reducible refine cD ?_)))
          (case side18 => exact HC125_17.out)
          (case side19 => repeat (first|exact (Kd.C_below HR125_18.out HB.out)|(with_reducible refine cA ?_ _)|(with_reducible refine cN ?_ _)|(with_reducible refine cD ?_)))
          (case side20 => exact HC125_18.out)
          rintro e w48 ⟨rfl,hb⟩
          refine ⟨_,rfl,?_⟩
          have n0_ := mk0 (blk_below (by exact kX BK118.out) hb)
          have n1_ := mk0 (blk_below (by exact kX BK119.out) hb)
          have n2_ := mk0 (below_step (by repeat (first|(with_reducible first|exact HB.out|apply bA|apply bN|apply bD|refine bS ?_ GE118.out|refine bS ?_ GE119.out)|exact HB.out)) hb)
          clear BK118
          clear BK119
          clear HB
          have BK118 := n0_
          have BK119 := n1_
          have HB := n2_
          clear n0_ n1_ n2_
          (try clear hb)
          (try clear hb2)
          (try clear hk)
          (try clear hi)
          refine hK.out _ _ ⟨(blk_cell BK118.out 0).trans rfl,(blk_cell BK118.out 1).trans rfl,(blk_cell BK118.out 2).trans rfl,(blk_cell BK118.out 3).trans rfl,(blk_cell BK118.out 4).trans rfl,(blk_cell BK118.out 5).trans rfl,(blk_cell BK118.out 6).trans rfl,(blk_cell BK118.out 7).trans rfl,(blk_cell BK118.out 8).trans rfl,(blk_cell BK118.out 9).trans rfl,(blk_cell BK118.out 10).trans rfl,(blk_cell BK118.out 11).trans rfl,(blk_cell BK118.out 12).trans rfl,(blk_cell BK118.out 13).trans rfl,(blk_cell BK118.out 14).trans rfl,(blk_cell BK118.out 15).trans rfl,(blk_cell BK118.out 16).trans rfl,(blk_cell BK118.out 17).trans rfl,(blk_cell BK118.out 18).trans rfl,(blk_cell BK119.out 0).trans rfl,(blk_cell BK119.out 1).trans rfl,(blk_cell BK119.out 2).trans rfl,(blk_cell BK119.out 3).trans rfl,(blk_cell BK119.out 4).trans rfl,(blk_cell BK119.out 5).trans rfl,(blk_cell BK119.out 6).trans rfl,(blk_cell BK119.out 7).trans rfl,(blk_cell BK119.out 8).trans rfl,(blk_cell BK119.out 9).trans rfl,(blk_cell BK119.out 10).trans rfl,(blk_cell BK119.out 11).trans rfl,(blk_cell BK119.out 12).trans rfl,(blk_cell BK119.out 13).trans rfl,(blk_cell BK119.out 14).trans rfl,(blk_cell BK119.out 15).trans rfl,(blk_cell BK119.out 16).trans rfl,(blk_cell BK119.out 17).trans rfl,(blk_cell BK119.out 18).trans rfl,((HB.out.cell (World.block_lt_of_cell? w _ hw124_0)).trans hw124_0),((HB.out.cell (World.block_lt_of_cell? w _ hw124_1)).trans hw124_1),((HB.out.cell (World.block_lt_of_cell? w _ hw124_2)).trans hw124_2),((HB.out.cell (World.block_lt_of_cell? w _ hw124_3)).trans hw124_3),((HB.out.cell (World.block_lt_of_cell? w _ hw124_4)).trans hw124_4),((HB.out.cell (World.block_lt_of_cell? w _ hw124_5)).trans hw124_5),((HB.out.cell (World.block_lt_of_cell? w _ hw124_6)).trans hw124_6),((HB.out.cell (World.block_lt_of_cell? w _ hw124_7)).trans hw124_7),((HB.out.cell (World.block_lt_of_cell? w _ hw124_8)).trans hw124_8),((HB.out.cell (World.block_lt_of_cell? w _ hw124_9)).trans hw124_9),((HB.out.cell (World.block_lt_of_cell? w _ hw124_10)).trans hw124_10),((HB.out.cell (World.block_lt_of_cell? w _ hw124_11)).trans hw124_11),((HB.out.cell (World.block_lt_of_cell? w _ hw124_12)).trans hw124_12),((HB.out.cell (World.block_lt_of_cell? w _ hw124_13)).trans hw124_13),((HB.out.cell (World.block_lt_of_cell? w _ hw124_14)).trans hw124_14),((HB.out.cell (World.block_lt_of_cell? w _ hw124_15)).trans hw124_15),((HB.out.cell (World.block_lt_of_cell? w _ hw124_16)).trans hw124_16),((HB.out.cell (World.block_lt_of_cell? w _ hw124_17)).trans hw124_17),((HB.out.cell (World.block_lt_of_cell? w _ hw124_18)).trans hw124_18),((HB.out.cell (World.block_lt_of_cell? w _ hw125_0)).trans hw125_0),((HB.out.cell (World.block_lt_of_cell? w _ hw125_1)).trans hw125_1),((HB.out.cell (World.block_lt_of_cell? w _ hw125_2)).trans hw125_2),((HB.out.cell (World.block_lt_of_cell? w _ hw125_3)).trans hw125_3),((HB.out.cell (World.block_lt_of_cell? w _ hw125_4)).trans hw125_4),((HB.out.cell (World.block_lt_of_cell? w _ hw125_5)).trans hw125_5),((HB.out.cell (World.block_lt_of_cell? w _ hw125_6)).trans hw125_6),((HB.out.cell (World.block_lt_of_cell? w _ hw125_7)).trans hw125_7),((HB.out.cell (World.block_lt_of_cell? w _ hw125_8)).trans hw125_8),((HB.out.cell (World.block_lt_of_cell? w _ hw125_9)).trans hw125_9),((HB.out.cell (World.block_lt_of_cell? w _ hw125_10)).trans hw125_10),((HB.out.cell (World.block_lt_of_cell? w _ hw125_11)).trans hw125_11),((HB.out.cell (World.block_lt_of_cell? w _ hw125_12)).trans hw125_12),((HB.out.cell (World.block_lt_of_cell? w _ hw125_13)).trans hw125_13),((HB.out.cell (World.block_lt_of_cell? w _ hw125_14)).trans hw125_14),((HB.out.cell (World.block_lt_of_cell? w _ hw125_15)).trans hw125_15),((HB.out.cell (World.block_lt_of_cell? w _ hw125_16)).trans hw125_16),((HB.out.cell (World.block_lt_of_cell? w _ hw125_17)).trans hw125_17),((HB.out.cell (World.block_lt_of_cell? w _ hw125_18)).trans hw125_18)⟩ (fun hHeld => ?_)
          clear hK K
          refine norm_ (a' := ?_) ?_ ?_
          rotate_left
          ·show Act.put _ (some 76) _ = _
           simp only [Act.put,List.setIfInBounds_toArray,List.set_cons_zero,List.set_cons_succ,i64_w,i32_w]
           rfl
          refine pure_ (i := 11) (N := some 77) (v := ?_) (a' := ?_) #[true,true,true,true,true,true,true,true,true,true,true,true] rfl rfl (any_of HT_.out (by kernel_rfl)) (fun _ _ _ h => h) (Or.inl ⟨by rfl,?_⟩) ?_ ?_
          rotate_left
          ·intro w'
           go_simp
           with_reducible rfl
          rotate_left
          ·simp only [Act.put,List.setIfInBounds_toArray,List.set_cons_zero,List.set_cons_succ,i64_w,i32_w]
           rfl
          refine done_ (done_of HT_.out (by kernel_rfl)) ?_
          try go_wp2_with (first|((with_reducible refine gate_dst (N := 70) rfl ?_);first|(refine ldRow rfl 50 _ rfl _ rfl _ (row19 hx124_0 hx124_1 hx124_2 hx124_3 hx124_4 hx124_5 hx124_6 hx124_7 hx124_8 hx124_9 hx124_10 hx124_11 hx124_12 hx124_13 hx124_14 hx124_15 hx124_16 hx124_17 hx124_18) _ Try.underlying50 (by kernel_rfl) ?_)|(refine ldRow rfl 50 _ rfl _ rfl _ (row19 hx125_0 hx125_1 hx125_2 hx125_3 hx125_4 hx125_5 hx125_6 hx125_7 hx125_8 hx125_9 hx125_10 hx125_11 hx125_12 hx125_13 hx125_14 hx125_15 hx125_16 hx125_17 hx125_18) _ Try.underlying50 (by kernel_rfl) ?_))|((with_reducible refine gate_dst (N := 75) rfl ?_);first|(refine ldRow rfl 50 _ rfl _ rfl _ (row19 hx124_0 hx124_1 hx124_2 hx124_3 hx124_4 hx124_5 hx124_6 hx124_7 hx124_8 hx124_9 hx124_10 hx124_11 hx124_12 hx124_13 hx124_14 hx124_15 hx124_16 hx124_17 hx124_18) _ Try.underlying50 (by kernel_rfl) ?_)|(refine ldRow rfl 50 _ rfl _ rfl _ (row19 hx125_0 hx125_1 hx125_2 hx125_3 hx125_4 hx125_5 hx125_6 hx125_7 hx125_8 hx125_9 hx125_10 hx125_11 hx125_12 hx125_13 hx125_14 hx125_15 hx125_16 hx125_17 hx125_18) _ Try.underlying50 (by kernel_rfl) ?_)))
          go_ret
          exact ⟨by first|rfl|(simp [errW_none,errW_some] <;> rfl)|(simp [*,errW_none,errW_some] <;> rfl),by repeat (first|(with_reducible first|exact HB.out|apply bA|apply bN|apply bD|refine bS ?_ GE118.out|refine bS ?_ GE119.out)|exact HB.out)⟩
        ·rw [if_neg c40] at H
         exact absurd H (by simp)
       ·rw [if_neg c39] at H
        exact absurd H (by simp)
      ·rw [if_neg c38] at H
       have c38b0 : decide (x5_2 < (l0_18.length : Int)) = false := decide_eq_false c38
       clear c38
       obtain rfl := Option.some.inj H
       go_wp2_with (first|((with_reducible refine gate_dst (N := 61) rfl ?_);(try (refine gate_guard (by rfl) ?_;dsimp only));refine normW ?_ (by (try simp only [Act.put,List.setIfInBounds_toArray,List.set_cons_zero,List.set_cons_succ]);rfl);refine ldOne rfl 48 _ rfl gb118 18 rfl (l := [.int .i64 a0_0,.string a0_1,.int .i64 a0_2,.int .i64 a0_3,.string a0_4,.slice A0_5 l0_5.length c0_5,.int .i64 a0_6,.int .i64 a0_7,.string a0_8,.slice A0_9 l0_9.length c0_9,.int .i64 a0_10,.int .i64 a0_11,.string a0_12,.slice A0_13 l0_13.length c0_13,.int .i64 a0_14,.int .i64 a0_15,.string a0_16,.slice A0_17 l0_17.length c0_17,.slice A0_18 l0_18.length c0_18]) (tb := 50) (by exact kX BK118.out) (.slice A0_18 l0_18.length c0_18) rfl (fun _ => by kernel_rfl) ?_;have hnb49 := NB118_119.out;have hnc49 := NB119_118.out))
       go_ret
       exact ⟨by first|rfl|(simp [errW_none,errW_some] <;> rfl)|(simp [*,errW_none,errW_some] <;> rfl),by repeat (first|(with_reducible first|exact HB.out|apply bA|apply bN|apply bD|refine bS ?_ GE118.out|refine bS ?_ GE119.out)|exact HB.out)⟩
end Go.Proofs.Ytmmdgciefehbcaa.PFnExactSameStmt
