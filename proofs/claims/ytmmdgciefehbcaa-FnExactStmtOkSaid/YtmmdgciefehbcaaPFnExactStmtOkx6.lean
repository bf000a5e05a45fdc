-- The functions of a law as plain Lean functions, each with its contract: written by a program of this session.
import Derived.Test.YtmmdgciefehbcaaPFnExactStmtOkx0
import Derived.Test.YtmmdgciefehbcaaPFnExactStmtOkx3
import Derived.Test.YtmmdgciefehbcaaPFnExactStmtOkx4
import Derived.Test.YtmmdgciefehbcaaPFnExactStmtOkx5
namespace Go.Proofs.Ytmmdgciefehbcaa.PFnExactStmtOk
open Go.RowKit Go.Proofs.YtmmdgciefehbcaaW.PrintWords Go.Proofs.YtmmdgciefehbcaaW.PrintLast Go.Proofs.YtmmdgciefehbcaaW.PrintMore
attribute [local go_sem] max2_int min2_int max_two min_two max_three min_three max_four min_four   -- for this text's walks alone
set_option linter.unusedVariables false
set_option linter.unusedSimpArgs false

/-! ### spec_l3Stmt: function 62 -/
mutual
def spec_l3Stmt.j0 : Nat → Int → Bool → Bool → Bool → Bool → Bool → Int → ByteArray → Int → Int → ByteArray → List (S29) → Int → Int → ByteArray → List (S29) → Int → Int → ByteArray → List (S29) → Int → Int → ByteArray → List (S29) → List (S50) → Option (Int)
 | 0, _, _, _, _, _, _, _, _, _, _, _, _, _, _, _, _, _, _, _, _, _, _, _, _, _ => none
 | k + 1, x1, x5, x6, x7, x8, x9, x232000, x232001, x232002, x232003, x232004, x232005, x232006, x232007, x232008, x232009, x232010, x232011, x232012, x232013, x232014, x232015, x232016, x232017, x232018 => if x5 = true then (if x6 = true then (if x7 = true then (if x8 = true then (if x9 = true then ((spec_l1In.f x232000 1 4).bind fun t241 => (spec_l3Stmt.j1 k x1 (!t241) x232000 x232001 x232002 x232003 x232004 x232005 x232006 x232007 x232008 x232009 x232010 x232011 x232012 x232013 x232014 x232015 x232016 x232017 x232018)) else (spec_l3Stmt.j1 k x1 true x232000 x232001 x232002 x232003 x232004 x232005 x232006 x232007 x232008 x232009 x232010 x232011 x232012 x232013 x232014 x232015 x232016 x232017 x232018)) else (spec_l3Stmt.j1 k x1 true x232000 x232001 x232002 x232003 x232004 x232005 x232006 x232007 x232008 x232009 x232010 x232011 x232012 x232013 x232014 x232015 x232016 x232017 x232018)) else (spec_l3Stmt.j1 k x1 true x232000 x232001 x232002 x232003 x232004 x232005 x232006 x232007 x232008 x232009 x232010 x232011 x232012 x232013 x232014 x232015 x232016 x232017 x232018)) else (spec_l3Stmt.j1 k x1 true x232000 x232001 x232002 x232003 x232004 x232005 x232006 x232007 x232008 x232009 x232010 x232011 x232012 x232013 x232014 x232015 x232016 x232017 x232018)) else (spec_l3Stmt.j1 k x1 true x232000 x232001 x232002 x232003 x232004 x232005 x232006 x232007 x232008 x232009 x232010 x232011 x232012 x232013 x232014 x232015 x232016 x232017 x232018)
def spec_l3Stmt.j1 : Nat → Int → Bool → Int → ByteArray → Int → Int → ByteArray → List (S29) → Int → Int → ByteArray → List (S29) → Int → Int → ByteArray → List (S29) → Int → Int → ByteArray → List (S29) → List (S50) → Option (Int)
 | 0, _, _, _, _, _, _, _, _, _, _, _, _, _, _, _, _, _, _, _, _, _ => none
 | k + 1, x1, x73, x232000, x232001, x232002, x232003, x232004, x232005, x232006, x232007, x232008, x232009, x232010, x232011, x232012, x232013, x232014, x232015, x232016, x232017, x232018 => if x73 = true then (some 100) else (if x232000 = 3 then (if x1 ≥ 3 then (spec_l3Stmt.j2 k x1 true x232000 x232001 x232002 x232003 x232004 x232005 x232006 x232007 x232008 x232009 x232010 x232011 x232012 x232013 x232014 x232015 x232016 x232017 x232018) else ((spec_l1In.f (x232018.length : Int) 1 6).bind fun t242 => (spec_l3Stmt.j2 k x1 (!t242) x232000 x232001 x232002 x232003 x232004 x232005 x232006 x232007 x232008 x232009 x232010 x232011 x232012 x232013 x232014 x232015 x232016 x232017 x232018))) else (if (x232018.length : Int) > 0 then (some 100) else (some 1)))
def spec_l3Stmt.j2 : Nat → Int → Bool → Int → ByteArray → Int → Int → ByteArray → List (S29) → Int → Int → ByteArray → List (S29) → Int → Int → ByteArray → List (S29) → Int → Int → ByteArray → List (S29) → List (S50) → Option (Int)
 | 0, _, _, _, _, _, _, _, _, _, _, _, _, _, _, _, _, _, _, _, _, _ => none
 | k + 1, x1, x89, x232000, x232001, x232002, x232003, x232004, x232005, x232006, x232007, x232008, x232009, x232010, x232011, x232012, x232013, x232014, x232015, x232016, x232017, x232018 => if x89 = true then (some 100) else (spec_l3Stmt.l0 k x1 1 0 x232000 x232001 x232002 x232003 x232004 x232005 x232006 x232007 x232008 x232009 x232010 x232011 x232012 x232013 x232014 x232015 x232016 x232017 x232018)
def spec_l3Stmt.l0 : Nat → Int → Int → Int → Int → ByteArray → Int → Int → ByteArray → List (S29) → Int → Int → ByteArray → List (S29) → Int → Int → ByteArray → List (S29) → Int → Int → ByteArray → List (S29) → List (S50) → Option (Int)
 | 0, _, _, _, _, _, _, _, _, _, _, _, _, _, _, _, _, _, _, _, _, _, _ => none
 | k + 1, x1, x10, x11, x232000, x232001, x232002, x232003, x232004, x232005, x232006, x232007, x232008, x232009, x232010, x232011, x232012, x232013, x232014, x232015, x232016, x232017, x232018 => if x11 < (x232018.length : Int) then (if x10 ≤ 40 then (if 0 ≤ x11 then ((spec_l3Stmt.f k ((rd_T50 x232018 x11).f0) ((rd_T50 x232018 x11).f1) ((rd_T50 x232018 x11).f2.f0) ((rd_T50 x232018 x11).f2.f1) ((rd_T50 x232018 x11).f2.f2) ((rd_T50 x232018 x11).f2.f3) ((rd_T50 x232018 x11).f3.f0) ((rd_T50 x232018 x11).f3.f1) ((rd_T50 x232018 x11).f3.f2) ((rd_T50 x232018 x11).f3.f3) ((rd_T50 x232018 x11).f4.f0) ((rd_T50 x232018 x11).f4.f1) ((rd_T50 x232018 x11).f4.f2) ((rd_T50 x232018 x11).f4.f3) ((rd_T50 x232018 x11).f5.f0) ((rd_T50 x232018 x11).f5.f1) ((rd_T50 x232018 x11).f5.f2) ((rd_T50 x232018 x11).f5.f3) ((rd_T50 x232018 x11).f6) (wrap64 (x1 + 1))).bind fun t244 => (spec_l3Stmt.l0 k x1 (wrap64 (x10 + t244)) (wrap64 (x11 + 1)) x232000 x232001 x232002 x232003 x232004 x232005 x232006 x232007 x232008 x232009 x232010 x232011 x232012 x232013 x232014 x232015 x232016 x232017 x232018)) else (none)) else (some x10)) else (some x10)
def spec_l3Stmt.f : Nat → Int → ByteArray → Int → Int → ByteArray → List (S29) → Int → Int → ByteArray → List (S29) → Int → Int → ByteArray → List (S29) → Int → Int → ByteArray → List (S29) → List (S50) → Int → Option (Int)
 | 0, _, _, _, _, _, _, _, _, _, _, _, _, _, _, _, _, _, _, _, _ => none
 | k + 1, a0_0, a0_1, a0_2, a0_3, a0_4, l0_5, a0_6, a0_7, a0_8, l0_9, a0_10, a0_11, a0_12, l0_13, a0_14, a0_15, a0_16, l0_17, l0_18, a1 => (spec_l3No.f a0_2 a0_3 a0_4 l0_5).bind fun t232 => ((spec_ExpOk.f k a0_6 a0_7 a0_8 l0_9).bind fun t233 => ((spec_l3No.f a0_10 a0_11 a0_12 l0_13).bind fun t234 => ((spec_l3No.f a0_14 a0_15 a0_16 l0_17).bind fun t235 => ((spec_NameOk.f k a0_1).bind fun t236 => (if a0_0 = 2 then ((spec_ExpOk.f k a0_2 a0_3 a0_4 l0_5).bind fun t237 => (spec_l3Stmt.j0 k a1 t237 t233 t234 t235 t236 a0_0 a0_1 a0_2 a0_3 a0_4 l0_5 a0_6 a0_7 a0_8 l0_9 a0_10 a0_11 a0_12 l0_13 a0_14 a0_15 a0_16 l0_17 l0_18)) else (if a0_0 = 3 then ((spec_l3No.f a0_6 a0_7 a0_8 l0_9).bind fun t238 => ((spec_ExpOk.f k a0_10 a0_11 a0_12 l0_13).bind fun t239 => ((spec_ExpOk.f k a0_14 a0_15 a0_16 l0_17).bind fun t240 => (spec_l3Stmt.j0 k a1 t232 t238 t239 t240 t236 a0_0 a0_1 a0_2 a0_3 a0_4 l0_5 a0_6 a0_7 a0_8 l0_9 a0_10 a0_11 a0_12 l0_13 a0_14 a0_15 a0_16 l0_17 l0_18)))) else (if a0_0 = 4 then (spec_l3Stmt.j0 k a1 t232 t233 t234 t235 (a0_1.toList == ([] : List UInt8)) a0_0 a0_1 a0_2 a0_3 a0_4 l0_5 a0_6 a0_7 a0_8 l0_9 a0_10 a0_11 a0_12 l0_13 a0_14 a0_15 a0_16 l0_17 l0_18) else (spec_l3Stmt.j0 k a1 t232 t233 t234 t235 t236 a0_0 a0_1 a0_2 a0_3 a0_4 l0_5 a0_6 a0_7 a0_8 l0_9 a0_10 a0_11 a0_12 l0_13 a0_14 a0_15 a0_16 l0_17 l0_18))))))))
end
theorem spec_l3Stmt.mono_l : ∀ k, (∀ y0 y1 y2 y3 y4 y5 y6 y7 y8 y9 y10 y11 y12 y13 y14 y15 y16 y17 y18 y19, LeO (spec_l3Stmt.f k y0 y1 y2 y3 y4 y5 y6 y7 y8 y9 y10 y11 y12 y13 y14 y15 y16 y17 y18 y19) (spec_l3Stmt.f (k + 1) y0 y1 y2 y3 y4 y5 y6 y7 y8 y9 y10 y11 y12 y13 y14 y15 y16 y17 y18 y19)) ∧ (∀ y0 y1 y2 y3 y4 y5 y6 y7 y8 y9 y10 y11 y12 y13 y14 y15 y16 y17 y18 y19 y20 y21 y22 y23 y24, LeO (spec_l3Stmt.j0 k y0 y1 y2 y3 y4 y5 y6 y7 y8 y9 y10 y11 y12 y13 y14 y15 y16 y17 y18 y19 y20 y21 y22 y23 y24) (spec_l3Stmt.j0 (k + 1) y0 y1 y2 y3 y4 y5 y6 y7 y8 y9 y10 y11 y12 y13 y14 y15 y16 y17 y18 y19 y20 y21 y22 y23 y24)) ∧ (∀ y0 y1 y2 y3 y4 y5 y6 y7 y8 y9 y10 y11 y12 y13 y14 y15 y16 y17 y18 y19 y20, LeO (spec_l3Stmt.j1 k y0 y1 y2 y3 y4 y5 y6 y7 y8 y9 y10 y11 y12 y13 y14 y15 y16 y17 y18 y19 y20) (spec_l3Stmt.j1 (k + 1) y0 y1 y2 y3 y4 y5 y6 y7 y8 y9 y10 y11 y12 y13 y14 y15 y16 y17 y18 y19 y20)) ∧ (∀ y0 y1 y2 y3 y4 y5 y6 y7 y8 y9 y10 y11 y12 y13 y14 y15 y16 y17 y18 y19 y20, LeO (spec_l3Stmt.j2 k y0 y1 y2 y3 y4 y5 y6 y7 y8 y9 y10 y11 y12 y13 y14 y15 y16 y17 y18 y19 y20) (spec_l3Stmt.j2 (k + 1) y0 y1 y2 y3 y4 y5 y6 y7 y8 y9 y10 y11 y12 y13 y14 y15 y16 y17 y18 y19 y20)) ∧ (∀ y0 y1 y2 y3 y4 y5 y6 y7 y8 y9 y10 y11 y12 y13 y14 y15 y16 y17 y18 y19 y20 y21, LeO (spec_l3Stmt.l0 k y0 y1 y2 y3 y4 y5 y6 y7 y8 y9 y10 y11 y12 y13 y14 y15 y16 y17 y18 y19 y20 y21) (spec_l3Stmt.l0 (k + 1) y0 y1 y2 y3 y4 y5 y6 y7 y8 y9 y10 y11 y12 y13 y14 y15 y16 y17 y18 y19 y20 y21))
 | 0 => ⟨fun _ _ _ _ _ _ _ _ _ _ _ _ _ _ _ _ _ _ _ _ r h => by simp [spec_l3Stmt.f] at h, fun _ _ _ _ _ _ _ _ _ _ _ _ _ _ _ _ _ _ _ _ _ _ _ _ _ r h => by simp [spec_l3Stmt.j0] at h, fun _ _ _ _ _ _ _ _ _ _ _ _ _ _ _ _ _ _ _ _ _ r h => by simp [spec_l3Stmt.j1] at h, fun _ _ _ _ _ _ _ _ _ _ _ _ _ _ _ _ _ _ _ _ _ r h => by simp [spec_l3Stmt.j2] at h, fun _ _ _ _ _ _ _ _ _ _ _ _ _ _ _ _ _ _ _ _ _ _ r h => by simp [spec_l3Stmt.l0] at h⟩
 | k + 1 => by
  obtain ⟨ih0, ih1, ih2, ih3, ih4⟩ := spec_l3Stmt.mono_l k
  refine ⟨?_, ?_, ?_, ?_, ?_⟩
  ·intro y0 y1 y2 y3 y4 y5 y6 y7 y8 y9 y10 y11 y12 y13 y14 y15 y16 y17 y18 y19
   unfold spec_l3Stmt.f
   repeat' first
   | (with_reducible exact ih0 _ _ _ _ _ _ _ _ _ _ _ _ _ _ _ _ _ _ _ _)
   | (with_reducible exact ih1 _ _ _ _ _ _ _ _ _ _ _ _ _ _ _ _ _ _ _ _ _ _ _ _ _)
   | (with_reducible exact ih2 _ _ _ _ _ _ _ _ _ _ _ _ _ _ _ _ _ _ _ _ _)
   | (with_reducible exact ih3 _ _ _ _ _ _ _ _ _ _ _ _ _ _ _ _ _ _ _ _ _)
   | (with_reducible exact ih4 _ _ _ _ _ _ _ _ _ _ _ _ _ _ _ _ _ _ _ _ _ _)
   | (with_reducible exact spec_ExpOk.mono _ _ _ _ _)
   | (with_reducible exact spec_NameOk.mono _ _)
   | (with_reducible exact LeO.refl _)
   | (with_reducible exact LeO.none _)
   | (with_reducible refine LeO.ite ?_ ?_)
   | (with_reducible refine LeO.bind ?_ (fun _ => ?_))
   | exact ih0 _ _ _ _ _ _ _ _ _ _ _ _ _ _ _ _ _ _ _ _
   | exact ih1 _ _ _ _ _ _ _ _ _ _ _ _ _ _ _ _ _ _ _ _ _ _ _ _ _
   | exact ih2 _ _ _ _ _ _ _ _ _ _ _ _ _ _ _ _ _ _ _ _ _
   | exact ih3 _ _ _ _ _ _ _ _ _ _ _ _ _ _ _ _ _ _ _ _ _
   | exact ih4 _ _ _ _ _ _ _ _ _ _ _ _ _ _ _ _ _ _ _ _ _ _
   | exact spec_ExpOk.mono _ _ _ _ _
   | exact spec_NameOk.mono _ _
   | exact LeO.none _
   | refine LeO.ite ?_ ?_
   | refine LeO.bind ?_ (fun _ => ?_)
  ·intro y0 y1 y2 y3 y4 y5 y6 y7 y8 y9 y10 y11 y12 y13 y14 y15 y16 y17 y18 y19 y20 y21 y22 y23 y24
   unfold spec_l3Stmt.j0
   repeat' first
   | (with_reducible exact ih0 _ _ _ _ _ _ _ _ _ _ _ _ _ _ _ _ _ _ _ _)
   | (with_reducible exact ih1 _ _ _ _ _ _ _ _ _ _ _ _ _ _ _ _ _ _ _ _ _ _ _ _ _)
   | (with_reducible exact ih2 _ _ _ _ _ _ _ _ _ _ _ _ _ _ _ _ _ _ _ _ _)
   | (with_reducible exact ih3 _ _ _ _ _ _ _ _ _ _ _ _ _ _ _ _ _ _ _ _ _)
   | (with_reducible exact ih4 _ _ _ _ _ _ _ _ _ _ _ _ _ _ _ _ _ _ _ _ _ _)
   | (with_reducible exact spec_ExpOk.mono _ _ _ _ _)
   | (with_reducible exact spec_NameOk.mono _ _)
   | (with_reducible exact LeO.refl _)
   | (with_reducible exact LeO.none _)
   | (with_reducible refine LeO.ite ?_ ?_)
   | (with_reducible refine LeO.bind ?_ (fun _ => ?_))
   | exact ih0 _ _ _ _ _ _ _ _ _ _ _ _ _ _ _ _ _ _ _ _
   | exact ih1 _ _ _ _ _ _ _ _ _ _ _ _ _ _ _ _ _ _ _ _ _ _ _ _ _
   | exact ih2 _ _ _ _ _ _ _ _ _ _ _ _ _ _ _ _ _ _ _ _ _
   | exact ih3 _ _ _ _ _ _ _ _ _ _ _ _ _ _ _ _ _ _ _ _ _
   | exact ih4 _ _ _ _ _ _ _ _ _ _ _ _ _ _ _ _ _ _ _ _ _ _
   | exact spec_ExpOk.mono _ _ _ _ _
   | exact spec_NameOk.mono _ _
   | exact LeO.none _
   | refine LeO.ite ?_ ?_
   | refine LeO.bind ?_ (fun _ => ?_)
  ·intro y0 y1 y2 y3 y4 y5 y6 y7 y8 y9 y10 y11 y12 y13 y14 y15 y16 y17 y18 y19 y20
   unfold spec_l3Stmt.j1
   repeat' first
   | (with_reducible exact ih0 _ _ _ _ _ _ _ _ _ _ _ _ _ _ _ _ _ _ _ _)
   | (with_reducible exact ih1 _ _ _ _ _ _ _ _ _ _ _ _ _ _ _ _ _ _ _ _ _ _ _ _ _)
   | (with_reducible exact ih2 _ _ _ _ _ _ _ _ _ _ _ _ _ _ _ _ _ _ _ _ _)
   | (with_reducible exact ih3 _ _ _ _ _ _ _ _ _ _ _ _ _ _ _ _ _ _ _ _ _)
   | (with_reducible exact ih4 _ _ _ _ _ _ _ _ _ _ _ _ _ _ _ _ _ _ _ _ _ _)
   | (with_reducible exact spec_ExpOk.mono _ _ _ _ _)
   | (with_reducible exact spec_NameOk.mono _ _)
   | (with_reducible exact LeO.refl _)
   | (with_reducible exact LeO.none _)
   | (with_reducible refine LeO.ite ?_ ?_)
   | (with_reducible refine LeO.bind ?_ (fun _ => ?_))
   | exact ih0 _ _ _ _ _ _ _ _ _ _ _ _ _ _ _ _ _ _ _ _
   | exact ih1 _ _ _ _ _ _ _ _ _ _ _ _ _ _ _ _ _ _ _ _ _ _ _ _ _
   | exact ih2 _ _ _ _ _ _ _ _ _ _ _ _ _ _ _ _ _ _ _ _ _
   | exact ih3 _ _ _ _ _ _ _ _ _ _ _ _ _ _ _ _ _ _ _ _ _
   | exact ih4 _ _ _ _ _ _ _ _ _ _ _ _ _ _ _ _ _ _ _ _ _ _
   | exact spec_ExpOk.mono _ _ _ _ _
   | exact spec_NameOk.mono _ _
   | exact LeO.none _
   | refine LeO.ite ?_ ?_
   | refine LeO.bind ?_ (fun _ => ?_)
  ·intro y0 y1 y2 y3 y4 y5 y6 y7 y8 y9 y10 y11 y12 y13 y14 y15 y16 y17 y18 y19 y20
   unfold spec_l3Stmt.j2
   repeat' first
   | (with_reducible exact ih0 _ _ _ _ _ _ _ _ _ _ _ _ _ _ _ _ _ _ _ _)
   | (with_reducible exact ih1 _ _ _ _ _ _ _ _ _ _ _ _ _ _ _ _ _ _ _ _ _ _ _ _ _)
   | (with_reducible exact ih2 _ _ _ _ _ _ _ _ _ _ _ _ _ _ _ _ _ _ _ _ _)
   | (with_reducible exact ih3 _ _ _ _ _ _ _ _ _ _ _ _ _ _ _ _ _ _ _ _ _)
   | (with_reducible exact ih4 _ _ _ _ _ _ _ _ _ _ _ _ _ _ _ _ _ _ _ _ _ _)
   | (with_reducible exact spec_ExpOk.mono _ _ _ _ _)
   | (with_reducible exact spec_NameOk.mono _ _)
   | (with_reducible exact LeO.refl _)
   | (with_reducible exact LeO.none _)
   | (with_reducible refine LeO.ite ?_ ?_)
   | (with_reducible refine LeO.bind ?_ (fun _ => ?_))
   | exact ih0 _ _ _ _ _ _ _ _ _ _ _ _ _ _ _ _ _ _ _ _
   | exact ih1 _ _ _ _ _ _ _ _ _ _ _ _ _ _ _ _ _ _ _ _ _ _ _ _ _
   | exact ih2 _ _ _ _ _ _ _ _ _ _ _ _ _ _ _ _ _ _ _ _ _
   | exact ih3 _ _ _ _ _ _ _ _ _ _ _ _ _ _ _ _ _ _ _ _ _
   | exact ih4 _ _ _ _ _ _ _ _ _ _ _ _ _ _ _ _ _ _ _ _ _ _
   | exact spec_ExpOk.mono _ _ _ _ _
   | exact spec_NameOk.mono _ _
   | exact LeO.none _
   | refine LeO.ite ?_ ?_
   | refine LeO.bind ?_ (fun _ => ?_)
  ·intro y0 y1 y2 y3 y4 y5 y6 y7 y8 y9 y10 y11 y12 y13 y14 y15 y16 y17 y18 y19 y20 y21
   unfold spec_l3Stmt.l0
   repeat' first
   | (with_reducible exact ih0 _ _ _ _ _ _ _ _ _ _ _ _ _ _ _ _ _ _ _ _)
   | (with_reducible exact ih1 _ _ _ _ _ _ _ _ _ _ _ _ _ _ _ _ _ _ _ _ _ _ _ _ _)
   | (with_reducible exact ih2 _ _ _ _ _ _ _ _ _ _ _ _ _ _ _ _ _ _ _ _ _)
   | (with_reducible exact ih3 _ _ _ _ _ _ _ _ _ _ _ _ _ _ _ _ _ _ _ _ _)
   | (with_reducible exact ih4 _ _ _ _ _ _ _ _ _ _ _ _ _ _ _ _ _ _ _ _ _ _)
   | (with_reducible exact spec_ExpOk.mono _ _ _ _ _)
   | (with_reducible exact spec_NameOk.mono _ _)
   | (with_reducible exact LeO.refl _)
   | (with_reducible exact LeO.none _)
   | (with_reducible refine LeO.ite ?_ ?_)
   | (with_reducible refine LeO.bind ?_ (fun _ => ?_))
   | exact ih0 _ _ _ _ _ _ _ _ _ _ _ _ _ _ _ _ _ _ _ _
   | exact ih1 _ _ _ _ _ _ _ _ _ _ _ _ _ _ _ _ _ _ _ _ _ _ _ _ _
   | exact ih2 _ _ _ _ _ _ _ _ _ _ _ _ _ _ _ _ _ _ _ _ _
   | exact ih3 _ _ _ _ _ _ _ _ _ _ _ _ _ _ _ _ _ _ _ _ _
   | exact ih4 _ _ _ _ _ _ _ _ _ _ _ _ _ _ _ _ _ _ _ _ _ _
   | exact spec_ExpOk.mono _ _ _ _ _
   | exact spec_NameOk.mono _ _
   | exact LeO.none _
   | refine LeO.ite ?_ ?_
   | refine LeO.bind ?_ (fun _ => ?_)
theorem spec_l3Stmt.mono : ∀ a0 a1 a2 a3 a4 a5 a6 a7 a8 a9 a10 a11 a12 a13 a14 a15 a16 a17 a18 a19 k, LeO (spec_l3Stmt.f k a0 a1 a2 a3 a4 a5 a6 a7 a8 a9 a10 a11 a12 a13 a14 a15 a16 a17 a18 a19) (spec_l3Stmt.f (k + 1) a0 a1 a2 a3 a4 a5 a6 a7 a8 a9 a10 a11 a12 a13 a14 a15 a16 a17 a18 a19) := by
 intro a0 a1 a2 a3 a4 a5 a6 a7 a8 a9 a10 a11 a12 a13 a14 a15 a16 a17 a18 a19 k
 obtain ⟨ih0, ih1, ih2, ih3, ih4⟩ := spec_l3Stmt.mono_l k
 exact ih0 a0 a1 a2 a3 a4 a5 a6 a7 a8 a9 a10 a11 a12 a13 a14 a15 a16 a17 a18 a19
set_option maxHeartbeats 8000000 in
set_option maxRecDepth 100000 in
theorem spec_l3Stmt.calls (k : Nat) : ∀ (a0_0 : Int) (a0_1 : ByteArray) (a0_2 : Int) (a0_3 : Int) (a0_4 : ByteArray) (A0_5 : Option Addr) (c0_5 : Nat) (l0_5 : List (S29)) (a0_6 : Int) (a0_7 : Int) (a0_8 : ByteArray) (A0_9 : Option Addr) (c0_9 : Nat) (l0_9 : List (S29)) (a0_10 : Int) (a0_11 : Int) (a0_12 : ByteArray) (A0_13 : Option Addr) (c0_13 : Nat) (l0_13 : List (S29)) (a0_14 : Int) (a0_15 : Int) (a0_16 : ByteArray) (A0_17 : Option Addr) (c0_17 : Nat) (l0_17 : List (S29)) (A0_18 : Option Addr) (c0_18 : Nat) (l0_18 : List (S50)) (a1 : Int) (r : Int) (w : World) (hr0_5 : Kd.C k29 w A0_5 l0_5.length l0_5) (hc0_5 : l0_5.length ≤ c0_5) (hr0_9 : Kd.C k29 w A0_9 l0_9.length l0_9) (hc0_9 : l0_9.length ≤ c0_9) (hr0_13 : Kd.C k29 w A0_13 l0_13.length l0_13) (hc0_13 : l0_13.length ≤ c0_13) (hr0_17 : Kd.C k29 w A0_17 l0_17.length l0_17) (hc0_17 : l0_17.length ≤ c0_17) (hr0_18 : Kd.C k50 w A0_18 l0_18.length l0_18) (hc0_18 : l0_18.length ≤ c0_18) (h : spec_l3Stmt.f k a0_0 a0_1 a0_2 a0_3 a0_4 l0_5 a0_6 a0_7 a0_8 l0_9 a0_10 a0_11 a0_12 l0_13 a0_14 a0_15 a0_16 l0_17 l0_18 a1 = some r),
  Calls Try.prog 62 #[.agg #[.int .i64 a0_0, .string a0_1, .int .i64 a0_2, .int .i64 a0_3, .string a0_4, .slice A0_5 l0_5.length c0_5, .int .i64 a0_6, .int .i64 a0_7, .string a0_8, .slice A0_9 l0_9.length c0_9, .int .i64 a0_10, .int .i64 a0_11, .string a0_12, .slice A0_13 l0_13.length c0_13, .int .i64 a0_14, .int .i64 a0_15, .string a0_16, .slice A0_17 l0_17.length c0_17, .slice A0_18 l0_18.length c0_18], .int .i64 a1] w fun e w' => e = .returned (.int .i64 r) ∧ Below w.heap.size w w' := by
 induction k using Nat.strongRecOn with
 |_ k ih =>
 intro a0_0 a0_1 a0_2 a0_3 a0_4 A0_5 c0_5 l0_5 a0_6 a0_7 a0_8 A0_9 c0_9 l0_9 a0_10 a0_11 a0_12 A0_13 c0_13 l0_13 a0_14 a0_15 a0_16 A0_17 c0_17 l0_17 A0_18 c0_18 l0_18 a1 r w hr0_5 hc0_5 hr0_9 hc0_9 hr0_13 hc0_13 hr0_17 hc0_17 hr0_18 hc0_18 h
 cases k with
 |zero => exact absurd h (by simp [spec_l3Stmt.f])
 |succ k =>
 simp only [spec_l3Stmt.f] at h
 have hu50 := Try.underlying50
 have hu29 := Try.underlying29
 have HR0_5 := mk0 hr0_5
 have HC0_5 := mk0 hc0_5
 clear hr0_5 hc0_5
 have HR0_9 := mk0 hr0_9
 have HC0_9 := mk0 hc0_9
 clear hr0_9 hc0_9
 have HR0_13 := mk0 hr0_13
 have HC0_13 := mk0 hc0_13
 clear hr0_13 hc0_13
 have HR0_17 := mk0 hr0_17
 have HC0_17 := mk0 hc0_17
 clear hr0_17 hc0_17
 have HR0_18 := mk0 hr0_18
 have HC0_18 := mk0 hc0_18
 clear hr0_18 hc0_18
 have HB := mk0 (Below.refl w.heap.size w)
 have H : ((spec_l3No.f a0_2 a0_3 a0_4 l0_5).bind fun t232 => ((spec_ExpOk.f k a0_6 a0_7 a0_8 l0_9).bind fun t233 => ((spec_l3No.f a0_10 a0_11 a0_12 l0_13).bind fun t234 => ((spec_l3No.f a0_14 a0_15 a0_16 l0_17).bind fun t235 => ((spec_NameOk.f k a0_1).bind fun t236 => (if a0_0 = 2 then ((spec_ExpOk.f k a0_2 a0_3 a0_4 l0_5).bind fun t237 => (spec_l3Stmt.j0 k a1 t237 t233 t234 t235 t236 a0_0 a0_1 a0_2 a0_3 a0_4 l0_5 a0_6 a0_7 a0_8 l0_9 a0_10 a0_11 a0_12 l0_13 a0_14 a0_15 a0_16 l0_17 l0_18)) else (if a0_0 = 3 then ((spec_l3No.f a0_6 a0_7 a0_8 l0_9).bind fun t238 => ((spec_ExpOk.f k a0_10 a0_11 a0_12 l0_13).bind fun t239 => ((spec_ExpOk.f k a0_14 a0_15 a0_16 l0_17).bind fun t240 => (spec_l3Stmt.j0 k a1 t232 t238 t239 t240 t236 a0_0 a0_1 a0_2 a0_3 a0_4 l0_5 a0_6 a0_7 a0_8 l0_9 a0_10 a0_11 a0_12 l0_13 a0_14 a0_15 a0_16 l0_17 l0_18)))) else (if a0_0 = 4 then (spec_l3Stmt.j0 k a1 t232 t233 t234 t235 (a0_1.toList == ([] : List UInt8)) a0_0 a0_1 a0_2 a0_3 a0_4 l0_5 a0_6 a0_7 a0_8 l0_9 a0_10 a0_11 a0_12 l0_13 a0_14 a0_15 a0_16 l0_17 l0_18) else (spec_l3Stmt.j0 k a1 t232 t233 t234 t235 t236 a0_0 a0_1 a0_2 a0_3 a0_4 l0_5 a0_6 a0_7 a0_8 l0_9 a0_10 a0_11 a0_12 l0_13 a0_14 a0_15 a0_16 l0_17 l0_18))))))))) = some r := h
 clear h
 obtain ⟨t232,A3,H⟩ := bindA H
 obtain ⟨t233,A4,H⟩ := bindA H
 obtain ⟨t234,A5,H⟩ := bindA H
 obtain ⟨t235,A6,H⟩ := bindA H
 obtain ⟨t236,A7,H⟩ := bindA H
 have HC8 := mk0 H
 clear H
 go_enter Try.func62,Try.ntmps62
 go_upto_block 0 with (first|((with_reducible refine gate_dst (N := 2) rfl ?_);(try (refine gate_guard (by rfl) ?_;dsimp only));refine box_event ?hg (N := 2) ?hd (cs := #[.int .i64 a0_0,.string a0_1,.int .i64 a0_2,.int .i64 a0_3,.string a0_4,.slice A0_5 l0_5.length c0_5,.int .i64 a0_6,.int .i64 a0_7,.string a0_8,.slice A0_9 l0_9.length c0_9,.int .i64 a0_10,.int .i64 a0_11,.string a0_12,.slice A0_13 l0_13.length c0_13,.int .i64 a0_14,.int .i64 a0_15,.string a0_16,.slice A0_17 l0_17.length c0_17,.slice A0_18 l0_18.length c0_18]) (t := 50) ?hr ?_;(case hd => rfl);(case hg => rfl);(case hr => first|(go_simp;done)|(go_simp;rfl));intro gb231 hg w9 hbox hb;have q_ := qB (by repeat (first|(with_reducible first|exact HB.out|apply bA|apply bN|apply bD)|exact HB.out)) hb;have n0_ := mk0 (below_step q_ hb);have n1_ := mk0 (hbox);have n2_ := mk0 (below_size2 q_ hg);have n3_ := n2_;clear HB;have HB := n0_;have BK231 := n1_;have GW231 := n2_;have GE231 := n3_;clear q_ n0_ n1_ n2_ n3_;clear hb hbox hg)|((with_reducible refine gate_dst (N := 13) rfl ?_);(try (refine gate_guard (by rfl) ?_;dsimp only));refine ldBox rfl 29 _ rfl gb231 2 rfl (l := [.int .i64 a0_0,.string a0_1,.int .i64 a0_2,.int .i64 a0_3,.string a0_4,.slice A0_5 l0_5.length c0_5,.int .i64 a0_6,.int .i64 a0_7,.string a0_8,.slice A0_9 l0_9.length c0_9,.int .i64 a0_10,.int .i64 a0_11,.string a0_12,.slice A0_13 l0_13.length c0_13,.int .i64 a0_14,.int .i64 a0_15,.string a0_16,.slice A0_17 l0_17.length c0_17,.slice A0_18 l0_18.length c0_18]) (tb := 50) (by exact kX BK231.out) [.int .i64 a0_2,.int .i64 a0_3,.string a0_4,.slice A0_5 l0_5.length c0_5] rfl _ hu29 (by kernel_rfl) ?_)|((with_reducible refine gate_callee (f := 78) rfl ?_);refine goesL_ (some 14) rfl rfl Try.func78 (by kernel_rfl) rfl #[.agg #[.int .i64 a0_2,.int .i64 a0_3,.string a0_4,.slice A0_5 l0_5.length c0_5]] rfl (by (try simp only [List.map_toArray,List.map_cons,List.map_nil]);first|done|rfl) ?_;(with_reducible refine (spec_l3No.calls a0_2 a0_3 a0_4 _ _ l0_5 t232 _ ?side1 ?side2 A3.out).mono ?_);(case side1 => repeat (first|exact (Kd.C_below HR0_5.out HB.out)|(with_reducible refine cA ?_ _)|(with_reducible refine cN ?_ _)|(with_reducible refine cD ?_)));(case side2 => exact HC0_5.out);rintro e w10 ⟨rfl,hb⟩;refine ⟨_,rfl,?_⟩;have n0_ := mk0 (blk_below (by exact kX BK231.out) hb);have n1_ := mk0 (below_step (by repeat (first|(with_reducible first|exact HB.out|apply bA|apply bN|apply bD|refine bS ?_ GE231.out)|exact HB.out)) hb);clear BK231;clear HB;have BK231 := n0_;have HB := n1_;clear n0_ n1_;(try clear hb);(try clear hb2);(try clear hk);(try clear hi))|((with_reducible refine gate_dst (N := 16) rfl ?_);(try (refine gate_guard (by rfl) ?_;dsimp only));refine ldBox rfl 29 _ rfl gb231 6 rfl (l := [.int .i64 a0_0,.string a0_1,.int .i64 a0_2,.int .i64 a0_3,.string a0_4,.slice A0_5 l0_5.length c0_5,.int .i64 a0_6,.int .i64 a0_7,.string a0_8,.slice A0_9 l0_9.length c0_9,.int .i64 a0_10,.int .i64 a0_11,.string a0_12,.slice A0_13 l0_13.length c0_13,.int .i64 a0_14,.int .i64 a0_15,.string a0_16,.slice A0_17 l0_17.length c0_17,.slice A0_18 l0_18.length c0_18]) (tb := 50) (by exact kX BK231.out) [.int .i64 a0_6,.int .i64 a0_7,.string a0_8,.slice A0_9 l0_9.length c0_9] rfl _ hu29 (by kernel_rfl) ?_)|((with_reducible refine gate_callee (f := 20) rfl ?_);refine goesL_ (some 17) rfl rfl Try.func20 (by kernel_rfl) rfl #[.agg #[.int .i64 a0_6,.int .i64 a0_7,.string a0_8,.slice A0_9 l0_9.length c0_9]] rfl (by (try simp only [List.map_toArray,List.map_cons,List.map_nil]);first|done|rfl) ?_;(with_reducible refine (spec_ExpOk.calls k a0_6 a0_7 a0_8 _ _ l0_9 t233 _ ?side1 ?side2 A4.out).mono ?_);(case side1 => repeat (first|exact (Kd.C_below HR0_9.out HB.out)|(with_reducible refine cA ?_ _)|(with_reducible refine cN ?_ _)|(with_reducible refine cD ?_)));(case side2 => exact HC0_9.out);rintro e w11 ⟨rfl,hb⟩;refine ⟨_,rfl,?_⟩;have n0_ := mk0 (blk_below (by exact kX BK231.out) hb);have n1_ := mk0 (below_step (by repeat (first|(with_reducible first|exact HB.out|apply bA|apply bN|apply bD|refine bS ?_ GE231.out)|exact HB.out)) hb);clear BK231;clear HB;have BK231 := n0_;have HB := n1_;clear n0_ n1_;(try clear hb);(try clear hb2);(try clear hk);(try clear hi))|((with_reducible refine gate_dst (N := 19) rfl ?_);(try (refine gate_guard (by rfl) ?_;dsimp only));refine ldBox rfl 29 _ rfl gb231 10 rfl (l := [.int .i64 a0_0,.string a0_1,.int .i64 a0_2,.int .i64 a0_3,.string a0_4,.slice A0_5 l0_5.length c0_5,.int .i64 a0_6,.int .i64 a0_7,.string a0_8,.slice A0_9 l0_9.length c0_9,.int .i64 a0_10,.int .i64 a0_11,.string a0_12,.slice A0_13 l0_13.length c0_13,.int .i64 a0_14,.int .i64 a0_15,.string a0_16,.slice A0_17 l0_17.length c0_17,.slice A0_18 l0_18.length c0_18]) (tb := 50) (by exact kX BK231.out) [.int .i64 a0_10,.int .i64 a0_11,.string a0_12,.slice A0_13 l0_13.length c0_13] rfl _ hu29 (by kernel_rfl) ?_)|((with_reducible refine gate_callee (f := 78) rfl ?_);refine goesL_ (some 20) rfl rfl Try.func78 (by kernel_rfl) rfl #[.agg #[.int .i64 a0_10,.int .i64 a0_11,.string a0_12,.slice A0_13 l0_13.length c0_13]] rfl (by (try simp only [List.map_toArray,List.map_cons,List.map_nil]);first|done|rfl) ?_;(with_reducible refine (spec_l3No.calls a0_10 a0_11 a0_12 _ _ l0_13 t234 _ ?side1 ?side2 A5.out).mono ?_);(case side1 => repeat (first|exact (Kd.C_below HR0_13.out HB.out)|(with_reducible refine cA ?_ _)|(with_reducible refine cN ?_ _)|(with_reducible refine cD ?_)));(case side2 => exact HC0_13.out);rintro e w12 ⟨rfl,hb⟩;refine ⟨_,rfl,?_⟩;have n0_ := mk0 (blk_below (by exact kX BK231.out) hb);have n1_ := mk0 (below_step (by repeat (first|(with_reducible first|exact HB.out|apply bA|apply bN|apply bD|refine bS ?_ GE231.out)|exact HB.out)) hb);clear BK231;clear HB;have BK231 := n0_;have HB := n1_;clear n0_ n1_;(try clear hb);(try clear hb2);(try clear hk);(try clear hi))|((with_reducible refine gate_dst (N := 22) rfl ?_);(try (refine gate_guard (by rfl) ?_;dsimp only));refine ldBox rfl 29 _ rfl gb231 14 rfl (l := [.int .i64 a0_0,.string a0_1,.int .i64 a0_2,.int .i64 a0_3,.string a0_4,.slice A0_5 l0_5.length c0_5,.int .i64 a0_6,.int .i64 a0_7,.string a0_8,.slice A0_9 l0_9.length c0_9,.int .i64 a0_10,.int .i64 a0_11,.string a0_12,.slice A0_13 l0_13.length c0_13,.int .i64 a0_14,.int .i64 a0_15,.string a0_16,.slice A0_17 l0_17.length c0_17,.slice A0_18 l0_18.length c0_18]) (tb := 50) (by exact kX BK231.out) [.int .i64 a0_14,.int .i64 a0_15,.string a0_16,.slice A0_17 l0_17.length c0_17] rfl _ hu29 (by kernel_rfl) ?_)|((with_reducible refine gate_callee (f := 78) rfl ?_);refine goesL_ (some 23) rfl rfl Try.func78 (by kernel_rfl) rfl #[.agg #[.int .i64 a0_14,.int .i64 a0_15,.string a0_16,.slice A0_17 l0_17.length c0_17]] rfl (by (try simp only [List.map_toArray,List.map_cons,List.map_nil]);first|done|rfl) ?_;(with_reducible refine (spec_l3No.calls a0_14 a0_15 a0_16 _ _ l0_17 t235 _ ?side1 ?side2 A6.out).mono ?_);(case side1 => repeat (first|exact (Kd.C_below HR0_17.out HB.out)|(with_reducible refine cA ?_ _)|(with_reducible refine cN ?_ _)|(with_reducible refine cD ?_)));(case side2 => exact HC0_17.out);rintro e w13 ⟨rfl,hb⟩;refine ⟨_,rfl,?_⟩;have n0_ := mk0 (blk_below (by exact kX BK231.out) hb);have n1_ := mk0 (below_step (by repeat (first|(with_reducible first|exact HB.out|apply bA|apply bN|apply bD|refine bS ?_ GE231.out)|exact HB.out)) hb);clear BK231;clear HB;have BK231 := n0_;have HB := n1_;clear n0_ n1_;(try clear hb);(try clear hb2);(try clear hk);(try clear hi))|((with_reducible refine gate_dst (N := 25) rfl ?_);(try (refine gate_guard (by rfl) ?_;dsimp only));refine ldOne rfl 9 _ rfl gb231 1 rfl (l := [.int .i64 a0_0,.string a0_1,.int .i64 a0_2,.int .i64 a0_3,.string a0_4,.slice A0_5 l0_5.length c0_5,.int .i64 a0_6,.int .i64 a0_7,.string a0_8,.slice A0_9 l0_9.length c0_9,.int .i64 a0_10,.int .i64 a0_11,.string a0_12,.slice A0_13 l0_13.length c0_13,.int .i64 a0_14,.int .i64 a0_15,.string a0_16,.slice A0_17 l0_17.length c0_17,.slice A0_18 l0_18.length c0_18]) (tb := 50) (by exact kX BK231.out) (.string a0_1) rfl (fun _ => by kernel_rfl) ?_)|((with_reducible refine gate_callee (f := 79) rfl ?_);refine goesL_ (some 26) rfl rfl Try.func79 (by kernel_rfl) rfl #[.string a0_1] rfl (by (try simp only [List.map_toArray,List.map_cons,List.map_nil]);first|done|rfl) ?_;(with_reducible refine (spec_NameOk.calls k a0_1 t236 _ A7.out).mono ?_);rintro e w14 ⟨rfl,hb⟩;refine ⟨_,rfl,?_⟩;have n0_ := mk0 (blk_below (by exact kX BK231.out) hb);have n1_ := mk0 (below_step (by repeat (first|(with_reducible first|exact HB.out|apply bA|apply bN|apply bD|refine bS ?_ GE231.out)|exact HB.out)) hb);clear BK231;clear HB;have BK231 := n0_;have HB := n1_;clear n0_ n1_;(try clear hb);(try clear hb2);(try clear hk);(try clear hi))|((with_reducible refine gate_dst (N := 28) rfl ?_);(try (refine gate_guard (by rfl) ?_;dsimp only));refine ldOne rfl 3 _ rfl gb231 0 rfl (l := [.int .i64 a0_0,.string a0_1,.int .i64 a0_2,.int .i64 a0_3,.string a0_4,.slice A0_5 l0_5.length c0_5,.int .i64 a0_6,.int .i64 a0_7,.string a0_8,.slice A0_9 l0_9.length c0_9,.int .i64 a0_10,.int .i64 a0_11,.string a0_12,.slice A0_13 l0_13.length c0_13,.int .i64 a0_14,.int .i64 a0_15,.string a0_16,.slice A0_17 l0_17.length c0_17,.slice A0_18 l0_18.length c0_18]) (tb := 50) (by exact kX BK231.out) (.int .i64 a0_0) rfl (fun _ => by kernel_rfl) ?_))
 (try simp only [Act.put,List.setIfInBounds_toArray,List.set_cons_zero,List.set_cons_succ])
 go_cut [5,6,7,8,9] (fun v5 v6 v7 v8 v9 wc => ∃ (kq : Nat) (x5_7 : Bool) (x6_7 : Bool) (x7_7 : Bool) (x8_7 : Bool) (x9_7 : Bool),v5 = .bool x5_7 ∧ v6 = .bool x6_7 ∧ v7 = .bool x7_7 ∧ v8 = .bool x8_7 ∧ v9 = .bool x9_7 ∧ Aside0 (spec_l3Stmt.j0 kq a1 x5_7 x6_7 x7_7 x8_7 x9_7 a0_0 a0_1 a0_2 a0_3 a0_4 l0_5 a0_6 a0_7 a0_8 l0_9 a0_10 a0_11 a0_12 l0_13 a0_14 a0_15 a0_16 l0_17 l0_18 = some r) ∧ Aside0 (kq ≤ k) ∧ Aside0 (wc.heap[gb231]? = some (.cells #[.int .i64 a0_0,.string a0_1,.int .i64 a0_2,.int .i64 a0_3,.string a0_4,(.slice A0_5 l0_5.length c0_5),.int .i64 a0_6,.int .i64 a0_7,.string a0_8,(.slice A0_9 l0_9.length c0_9),.int .i64 a0_10,.int .i64 a0_11,.string a0_12,(.slice A0_13 l0_13.length c0_13),.int .i64 a0_14,.int .i64 a0_15,.string a0_16,(.slice A0_17 l0_17.length c0_17),(.slice A0_18 l0_18.length c0_18)] 50 (0,0))) ∧ Aside0 (Below w.heap.size w wc))
 case first =>
  have H := HC8.out
  clear HC8
  by_cases c15 : a0_0 = 2
  ·rw [if_pos c15] at H
   have c15b0 : (a0_0 == 2) = true := beq_iff_eq.mpr c15
   have c15b1 : (a0_0 != 2) = false := bne_eq_false_iff_eq.mpr c15
   clear c15
   (first|rw [c15b0]|(simp only [i64_w,i32_w];rw [c15b0])|skip)
   obtain ⟨t237,A16,H⟩ := bindA H
   have H' := mk0 H
   clear H
   go_wp2_with (first|((with_reducible refine gate_dst (N := 32) rfl ?_);(try (refine gate_guard (by rfl) ?_;dsimp only));refine ldBox rfl 29 _ rfl gb231 2 rfl (l := [.int .i64 a0_0,.string a0_1,.int .i64 a0_2,.int .i64 a0_3,.string a0_4,.slice A0_5 l0_5.length c0_5,.int .i64 a0_6,.int .i64 a0_7,.string a0_8,.slice A0_9 l0_9.length c0_9,.int .i64 a0_10,.int .i64 a0_11,.string a0_12,.slice A0_13 l0_13.length c0_13,.int .i64 a0_14,.int .i64 a0_15,.string a0_16,.slice A0_17 l0_17.length c0_17,.slice A0_18 l0_18.length c0_18]) (tb := 50) (by exact kX BK231.out) [.int .i64 a0_2,.int .i64 a0_3,.string a0_4,.slice A0_5 l0_5.length c0_5] rfl _ hu29 (by kernel_rfl) ?_)|((with_reducible refine gate_callee (f := 20) rfl ?_);refine goesL_ (some 33) rfl rfl Try.func20 (by kernel_rfl) rfl #[.agg #[.int .i64 a0_2,.int .i64 a0_3,.string a0_4,.slice A0_5 l0_5.length c0_5]] rfl (by (try simp only [List.map_toArray,List.map_cons,List.map_nil]);first|done|rfl) ?_;(with_reducible refine (spec_ExpOk.calls k a0_2 a0_3 a0_4 _ _ l0_5 t237 _ ?side1 ?side2 A16.out).mono ?_);(case side1 => repeat (first|exact (Kd.C_below HR0_5.out HB.out)|(with_reducible refine cA ?_ _)|(with_reducible refine cN ?_ _)|(with_reducible refine cD ?_)));(case side2 => exact HC0_5.out);rintro e w17 ⟨rfl,hb⟩;refine ⟨_,rfl,?_⟩;have n0_ := mk0 (blk_below (by exact kX BK231.out) hb);have n1_ := mk0 (below_step (by repeat (first|(with_reducible first|exact HB.out|apply bA|apply bN|apply bD|refine bS ?_ GE231.out)|exact HB.out)) hb);clear BK231;clear HB;have BK231 := n0_;have HB := n1_;clear n0_ n1_;(try clear hb);(try clear hb2);(try clear hk);(try clear hi)))
   go_meet
   case rel => exact ⟨_,(t237),(t233),(t234),(t235),(t236),(by first|rfl|(simp;done)|(simp [*];done)),(by first|rfl|(simp;done)|(simp [*];done)),(by first|rfl|(simp;done)|(simp [*];done)),(by first|rfl|(simp;done)|(simp [*];done)),(by first|rfl|(simp;done)|(simp [*];done)),H',⟨by first|omega|exact Nat.le_refl _⟩,⟨by refine kX ?_;exact BK231.out⟩,⟨by repeat (first|(with_reducible first|exact HB.out|apply bA|apply bN|apply bD|refine bS ?_ GE231.out)|exact HB.out)⟩⟩
  ·rw [if_neg c15] at H
   have c15b0 : (a0_0 == 2) = false := beq_eq_false_iff_ne.mpr c15
   have c15b1 : (a0_0 != 2) = true := bne_iff_ne.mpr c15
   (first|rw [c15b0]|(simp only [i64_w,i32_w];rw [c15b0])|skip)
   by_cases c18 : a0_0 = 3
   ·rw [if_pos c18] at H
    have c18b0 : (a0_0 == 3) = true := beq_iff_eq.mpr c18
    have c18b1 : (a0_0 != 3) = false := bne_eq_false_iff_eq.mpr c18
    clear c18
    obtain ⟨t238,A19,H⟩ := bindA H
    obtain ⟨t239,A20,H⟩ := bindA H
    obtain ⟨t240,A21,H⟩ := bindA H
    have H' := mk0 H
    clear H
    go_wp2_with (first|((with_reducible refine gate_dst (N := 37) rfl ?_);(try (refine gate_guard (by rfl) ?_;dsimp only));refine ldBox rfl 29 _ rfl gb231 6 rfl (l := [.int .i64 a0_0,.string a0_1,.int .i64 a0_2,.int .i64 a0_3,.string a0_4,.slice A0_5 l0_5.length c0_5,.int .i64 a0_6,.int .i64 a0_7,.string a0_8,.slice A0_9 l0_9.length c0_9,.int .i64 a0_10,.int .i64 a0_11,.string a0_12,.slice A0_13 l0_13.length c0_13,.int .i64 a0_14,.int .i64 a0_15,.string a0_16,.slice A0_17 l0_17.length c0_17,.slice A0_18 l0_18.length c0_18]) (tb := 50) (by exact kX BK231.out) [.int .i64 a0_6,.int .i64 a0_7,.string a0_8,.slice A0_9 l0_9.length c0_9] rfl _ hu29 (by kernel_rfl) ?_)|((with_reducible refine gate_callee (f := 78) rfl ?_);refine goesL_ (some 38) rfl rfl Try.func78 (by kernel_rfl) rfl #[.agg #[.int .i64 a0_6,.int .i64 a0_7,.string a0_8,.slice A0_9 l0_9.length c0_9]] rfl (by (try simp only [List.map_toArray,List.map_cons,List.map_nil]);first|done|rfl) ?_;(with_reducible refine (spec_l3No.calls a0_6 a0_7 a0_8 _ _ l0_9 t238 _ ?side1 ?side2 A19.out).mono ?_);(case side1 => repeat (first|exact (Kd.C_below HR0_9.out HB.out)|(with_reducible refine cA ?_ _)|(with_reducible refine cN ?_ _)|(with_reducible refine cD ?_)));(case side2 => exact HC0_9.out);rintro e w22 ⟨rfl,hb⟩;refine ⟨_,rfl,?_⟩;have n0_ := mk0 (blk_below (by exact kX BK231.out) hb);have n1_ := mk0 (below_step (by repeat (first|(with_reducible first|exact HB.out|apply bA|apply bN|apply bD|refine bS ?_ GE231.out)|exact HB.out)) hb);clear BK231;clear HB;have BK231 := n0_;have HB := n1_;clear n0_ n1_;(try clear hb);(try clear hb2);(try clear hk);(try clear hi))|((with_reducible refine gate_dst (N := 40) rfl ?_);(try (refine gate_guard (by rfl) ?_;dsimp only));refine ldBox rfl 29 _ rfl gb231 10 rfl (l := [.int .i64 a0_0,.string a0_1,.int .i64 a0_2,.int .i64 a0_3,.string a0_4,.slice A0_5 l0_5.length c0_5,.int .i64 a0_6,.int .i64 a0_7,.string a0_8,.slice A0_9 l0_9.length c0_9,.int .i64 a0_10,.int .i64 a0_11,.string a0_12,.slice A0_13 l0_13.length c0_13,.int .i64 a0_14,.int .i64 a0_15,.string a0_16,.slice A0_17 l0_17.length c0_17,.slice A0_18 l0_18.length c0_18]) (tb := 50) (by exact kX BK231.out) [.int .i64 a0_10,.int .i64 a0_11,.string a0_12,.slice A0_13 l0_13.length c0_13] rfl _ hu29 (by kernel_rfl) ?_)|((with_reducible refine gate_callee (f := 20) rfl ?_);refine goesL_ (some 41) rfl rfl Try.func20 (by kernel_rfl) rfl #[.agg #[.int .i64 a0_10,.int .i64 a0_11,.string a0_12,.slice A0_13 l0_13.length c0_13]] rfl (by (try simp only [List.map_toArray,List.map_cons,List.map_nil]);first|done|rfl) ?_;(with_reducible refine (spec_ExpOk.calls k a0_10 a0_11 a0_12 _ _ l0_13 t239 _ ?side1 ?side2 A20.out).mono ?_);(case side1 => repeat (first|exact (Kd.C_below HR0_13.out HB.out)|(with_reducible refine cA ?_ _)|(with_reducible refine cN ?_ _)|(with_reducible refine cD ?_)));(case side2 => exact HC0_13.out);rintro e w23 ⟨rfl,hb⟩;refine ⟨_,rfl,?_⟩;have n0_ := mk0 (blk_below (by exact kX BK231.out) hb);have n1_ := mk0 (below_step (by repeat (first|(with_reducible first|exact HB.out|apply bA|apply bN|apply bD|refine bS ?_ GE231.out)|exact HB.out)) hb);clear BK231;clear HB;have BK231 := n0_;have HB := n1_;clear n0_ n1_;(try clear hb);(try clear hb2);(try clear hk);(try clear hi))|((with_reducible refine gate_dst (N := 43) rfl ?_);(try (refine gate_guard (by rfl) ?_;dsimp only));refine ldBox rfl 29 _ rfl gb231 14 rfl (l := [.int .i64 a0_0,.string a0_1,.int .i64 a0_2,.int .i64 a0_3,.string a0_4,.slice A0_5 l0_5.length c0_5,.int .i64 a0_6,.int .i64 a0_7,.string a0_8,.slice A0_9 l0_9.length c0_9,.int .i64 a0_10,.int .i64 a0_11,.string a0_12,.slice A0_13 l0_13.length c0_13,.int .i64 a0_14,.int .i64 a0_15,.string a0_16,.slice A0_17 l0_17.length c0_17,.slice A0_18 l0_18.length c0_18]) (tb := 50) (by exact kX BK231.out) [.int .i64 a0_14,.int .i64 a0_15,.string a0_16,.slice A0_17 l0_17.length c0_17] rfl _ hu29 (by kernel_rfl) ?_)|((with_reducible refine gate_callee (f := 20) rfl ?_);refine goesL_ (some 44) rfl rfl Try.func20 (by kernel_rfl) rfl #[.agg #[.int .i64 a0_14,.int .i64 a0_15,.string a0_16,.slice A0_17 l0_17.length c0_17]] rfl (by (try simp only [List.map_toArray,List.map_cons,List.map_nil]);first|done|rfl) ?_;(with_reducible refine (spec_ExpOk.calls k a0_14 a0_15 a0_16 _ _ l0_17 t240 _ ?side1 ?side2 A21.out).mono ?_);(case side1 => repeat (first|exact (Kd.C_below HR0_17.out HB.out)|(with_reducible refine cA ?_ _)|(with_reducible refine cN ?_ _)|(with_reducible refine cD ?_)));(case side2 => exact HC0_17.out);rintro e w24 ⟨rfl,hb⟩;refine ⟨_,rfl,?_⟩;have n0_ := mk0 (blk_below (by exact kX BK231.out) hb);have n1_ := mk0 (below_step (by repeat (first|(with_reducible first|exact HB.out|apply bA|apply bN|apply bD|refine bS ?_ GE231.out)|exact HB.out)) hb);clear BK231;clear HB;have BK231 := n0_;have HB := n1_;clear n0_ n1_;(try clear hb);(try clear hb2);(try clear hk);(try clear hi)))
    go_meet
    case rel => exact ⟨_,(t232),(t238),(t239),(t240),(t236),(by first|rfl|(simp;done)|(simp [*];done)),(by first|rfl|(simp;done)|(simp [*];done)),(by first|rfl|(simp;done)|(simp [*];done)),(by first|rfl|(simp;done)|(simp [*];done)),(by first|rfl|(simp;done)|(simp [*];done)),H',⟨by first|omega|exact Nat.le_refl _⟩,⟨by refine kX ?_;exact BK231.out⟩,⟨by repeat (first|(with_reducible first|exact HB.out|apply bA|apply bN|apply bD|refine bS ?_ GE231.out)|exact HB.out)⟩⟩
   ·rw [if_neg c18] at H
    have c18b0 : (a0_0 == 3) = false := beq_eq_false_iff_ne.mpr c18
    have c18b1 : (a0_0 != 3) = true := bne_iff_ne.mpr c18
    by_cases c25 : a0_0 = 4
    ·rw [if_pos c25] at H
     have c25b0 : (a0_0 == 4) = true := beq_iff_eq.mpr c25
     have c25b1 : (a0_0 != 4) = false := bne_eq_false_iff_eq.mpr c25
     clear c25
     have H' := mk0 H
     clear H
     go_wp2_with (first|((with_reducible refine gate_dst (N := 48) rfl ?_);(try (refine gate_guard (by rfl) ?_;dsimp only));refine ldOne rfl 9 _ rfl gb231 1 rfl (l := [.int .i64 a0_0,.string a0_1,.int .i64 a0_2,.int .i64 a0_3,.string a0_4,.slice A0_5 l0_5.length c0_5,.int .i64 a0_6,.int .i64 a0_7,.string a0_8,.slice A0_9 l0_9.length c0_9,.int .i64 a0_10,.int .i64 a0_11,.string a0_12,.slice A0_13 l0_13.length c0_13,.int .i64 a0_14,.int .i64 a0_15,.string a0_16,.slice A0_17 l0_17.length c0_17,.slice A0_18 l0_18.length c0_18]) (tb := 50) (by exact kX BK231.out) (.string a0_1) rfl (fun _ => by kernel_rfl) ?_))
     go_meet
     case rel => exact ⟨_,(t232),(t233),(t234),(t235),((a0_1.toList == ([] : List UInt8))),(by first|rfl|(simp;done)|(simp [*];done)),(by first|rfl|(simp;done)|(simp [*];done)),(by first|rfl|(simp;done)|(simp [*];done)),(by first|rfl|(simp;done)|(simp [*];done)),(by first|rfl|(simp;done)|(simp [*];done)),H',⟨by first|omega|exact Nat.le_refl _⟩,⟨by refine kX ?_;exact BK231.out⟩,⟨by repeat (first|(with_reducible first|exact HB.out|apply bA|apply bN|apply bD|refine bS ?_ GE231.out)|exact HB.out)⟩⟩
    ·rw [if_neg c25] at H
     have c25b0 : (a0_0 == 4) = false := beq_eq_false_iff_ne.mpr c25
     have c25b1 : (a0_0 != 4) = true := bne_iff_ne.mpr c25
     have H' := mk0 H
     clear H
     go_wp2
     go_meet
     case rel => exact ⟨_,(t232),(t233),(t234),(t235),(t236),(by first|rfl|(simp;done)|(simp [*];done)),(by first|rfl|(simp;done)|(simp [*];done)),(by first|rfl|(simp;done)|(simp [*];done)),(by first|rfl|(simp;done)|(simp [*];done)),(by first|rfl|(simp;done)|(simp [*];done)),H',⟨by first|omega|exact Nat.le_refl _⟩,⟨by refine kX ?_;exact BK231.out⟩,⟨by repeat (first|(with_reducible first|exact HB.out|apply bA|apply bN|apply bD|refine bS ?_ GE231.out)|exact HB.out)⟩⟩
 case rest =>
  clear HC8
  try clear c1
  try clear c2
  try clear p2
  try clear c6
  try clear c7
  try clear c15
  try clear c15b0
  try clear c15b1
  try clear c18
  try clear c18b0
  try clear c18b1
  try clear c20
  try clear c25
  try clear c25b0
  try clear c25b1
  obtain ⟨kq,x5_7,x6_7,x7_7,x8_7,x9_7,rfl,rfl,rfl,rfl,rfl,HA,HJ7,BK231,HB⟩ := hcut
  cases kq with
   |zero => exact absurd HA.out (by simp [spec_l3Stmt.j0])
   |succ kj7 =>
   have H := HA.out
   clear HA
   simp only [spec_l3Stmt.j0] at H
   have HC26 := mk0 H
   clear H
   go_upto_region 15 with (fail)
   go_cut [73] (fun v73 wc => ∃ (kq : Nat) (x73_25 : Bool),v73 = .bool x73_25 ∧ Aside0 (spec_l3Stmt.j1 kq a1 x73_25 a0_0 a0_1 a0_2 a0_3 a0_4 l0_5 a0_6 a0_7 a0_8 l0_9 a0_10 a0_11 a0_12 l0_13 a0_14 a0_15 a0_16 l0_17 l0_18 = some r) ∧ Aside0 (kq ≤ kj7) ∧ Aside0 (wc.heap[gb231]? = some (.cells #[.int .i64 a0_0,.string a0_1,.int .i64 a0_2,.int .i64 a0_3,.string a0_4,(.slice A0_5 l0_5.length c0_5),.int .i64 a0_6,.int .i64 a0_7,.string a0_8,(.slice A0_9 l0_9.length c0_9),.int .i64 a0_10,.int .i64 a0_11,.string a0_12,(.slice A0_13 l0_13.length c0_13),.int .i64 a0_14,.int .i64 a0_15,.string a0_16,(.slice A0_17 l0_17.length c0_17),(.slice A0_18 l0_18.length c0_18)] 50 (0,0))) ∧ Aside0 (Below w.heap.size w wc))
   case first =>
    have H := HC26.out
    clear HC26
    by_cases c27 : x5_7 = true
    ·subst c27
     rw [if_pos rfl] at H
     by_cases c28 : x6_7 = true
     ·subst c28
      rw [if_pos rfl] at H
      by_cases c29 : x7_7 = true
      ·subst c29
       rw [if_pos rfl] at H
       by_cases c30 : x8_7 = true
       ·subst c30
        rw [if_pos rfl] at H
        by_cases c31 : x9_7 = true
        ·subst c31
         rw [if_pos rfl] at H
         obtain ⟨t241,A32,H⟩ := bindA H
         have H' := mk0 H
         clear H
         go_wp2_with (first|((with_reducible refine gate_dst (N := 70) rfl ?_);(try (refine gate_guard (by rfl) ?_;dsimp only));refine ldOne rfl 3 _ rfl gb231 0 rfl (l := [.int .i64 a0_0,.string a0_1,.int .i64 a0_2,.int .i64 a0_3,.string a0_4,.slice A0_5 l0_5.length c0_5,.int .i64 a0_6,.int .i64 a0_7,.string a0_8,.slice A0_9 l0_9.length c0_9,.int .i64 a0_10,.int .i64 a0_11,.string a0_12,.slice A0_13 l0_13.length c0_13,.int .i64 a0_14,.int .i64 a0_15,.string a0_16,.slice A0_17 l0_17.length c0_17,.slice A0_18 l0_18.length c0_18]) (tb := 50) (by exact kX BK231.out) (.int .i64 a0_0) rfl (fun _ => by kernel_rfl) ?_)|(go_at_call 80;(with_reducible refine (spec_l1In.calls a0_0 1 4 t241 _ A32.out).mono ?_);rintro e w' ⟨rfl,⟨nd,rfl⟩⟩))
         go_meet
         case rel => exact ⟨_,(!t241),(by first|rfl|(simp;done)|(simp [*];done)),H',⟨by have := HJ7.out;first|omega|exact Nat.le_refl _⟩,⟨by refine kX ?_;exact BK231.out⟩,⟨by repeat (first|(with_reducible first|exact HB.out|apply bA|apply bN|apply bD|refine bS ?_ GE231.out)|exact HB.out)⟩⟩
        ·replace c31 := Bool.eq_false_iff.mpr c31
         subst c31
         rw [if_neg (show ¬ (false = true) by decide)] at H
         have H' := mk0 H
         clear H
         go_wp2
         go_meet
         case rel => exact ⟨_,(true),(by first|rfl|(simp;done)|(simp [*];done)),H',⟨by have := HJ7.out;first|omega|exact Nat.le_refl _⟩,⟨by refine kX ?_;exact BK231.out⟩,⟨by repeat (first|(with_reducible first|exact HB.out|apply bA|apply bN|apply bD|refine bS ?_ GE231.out)|exact HB.out)⟩⟩
       ·replace c30 := Bool.eq_false_iff.mpr c30
        subst c30
        rw [if_neg (show ¬ (false = true) by decide)] at H
        have H' := mk0 H
        clear H
        go_wp2
        go_meet
        case rel => exact ⟨_,(true),(by first|rfl|(simp;done)|(simp [*];done)),H',⟨by have := HJ7.out;first|omega|exact Nat.le_refl _⟩,⟨by refine kX ?_;exact BK231.out⟩,⟨by repeat (first|(with_reducible first|exact HB.out|apply bA|apply bN|apply bD|refine bS ?_ GE231.out)|exact HB.out)⟩⟩
      ·replace c29 := Bool.eq_false_iff.mpr c29
       subst c29
       rw [if_neg (show ¬ (false = true) by decide)] at H
       have H' := mk0 H
       clear H
       go_wp2
       go_meet
       case rel => exact ⟨_,(true),(by first|rfl|(simp;done)|(simp [*];done)),H',⟨by have := HJ7.out;first|omega|exact Nat.le_refl _⟩,⟨by refine kX ?_;exact BK231.out⟩,⟨by repeat (first|(with_reducible first|exact HB.out|apply bA|apply bN|apply bD|refine bS ?_ GE231.out)|exact HB.out)⟩⟩
     ·replace c28 := Bool.eq_false_iff.mpr c28
      subst c28
      rw [if_neg (show ¬ (false = true) by decide)] at H
      have H' := mk0 H
      clear H
      go_wp2
      go_meet
      case rel => exact ⟨_,(true),(by first|rfl|(simp;done)|(simp [*];done)),H',⟨by have := HJ7.out;first|omega|exact Nat.le_refl _⟩,⟨by refine kX ?_;exact BK231.out⟩,⟨by repeat (first|(with_reducible first|exact HB.out|apply bA|apply bN|apply bD|refine bS ?_ GE231.out)|exact HB.out)⟩⟩
    ·replace c27 := Bool.eq_false_iff.mpr c27
     subst c27
     rw [if_neg (show ¬ (false = true) by decide)] at H
     have H' := mk0 H
     clear H
     go_wp2
     go_meet
     case rel => exact ⟨_,(true),(by first|rfl|(simp;done)|(simp [*];done)),H',⟨by have := HJ7.out;first|omega|exact Nat.le_refl _⟩,⟨by refine kX ?_;exact BK231.out⟩,⟨by repeat (first|(with_reducible first|exact HB.out|apply bA|apply bN|apply bD|refine bS ?_ GE231.out)|exact HB.out)⟩⟩
   case rest =>
    clear HC26
    try clear c1
    try clear c2
    try clear p2
    try clear c3
    try clear c6
    try clear c7
    try clear c15
    try clear c15b0
    try clear c15b1
    try clear c18
    try clear c18b0
    try clear c18b1
    try clear c20
    try clear c25
    try clear c25b0
    try clear c25b1
    try clear c27
    try clear c28
    try clear c29
    try clear c30
    try clear c31
    try clear p2
    obtain ⟨kq,x73_25,rfl,HA,HJ25,BK231,HB⟩ := hcut
    cases kq with
       |zero => exact absurd HA.out (by simp [spec_l3Stmt.j1])
       |succ kj25 =>
     have H := HA.out
     clear HA
     simp only [spec_l3Stmt.j1] at H
     by_cases c33 : x73_25 = true
     ·subst c33
      rw [if_pos rfl] at H
      obtain rfl := Option.some.inj H
      go_wp2
      go_ret
      exact ⟨by first|rfl|(simp [errW_none,errW_some] <;> rfl)|(simp [*,errW_none,errW_some] <;> rfl),by repeat (first|(with_reducible first|exact HB.out|apply bA|apply bN|apply bD|refine bS ?_ GE231.out)|exact HB.out)⟩
     ·replace c33 := Bool.eq_false_iff.mpr c33
      subst c33
      rw [if_neg (show ¬ (false = true) by decide)] at H
      by_cases c34 : a0_0 = 3
      ·rw [if_pos c34] at H
       have c34b0 : (a0_0 == 3) = true := beq_iff_eq.mpr c34
       have c34b1 : (a0_0 != 3) = false := bne_eq_false_iff_eq.mpr c34
       clear c34
       have HC35 := mk0 H
       clear H
       go_upto_region 21 with (first|((with_reducible refine gate_dst (N := 75) rfl ?_);(try (refine gate_guard (by rfl) ?_;dsimp only));refine ldOne rfl 3 _ rfl gb231 0 rfl (l := [.int .i64 a0_0,.string a0_1,.int .i64 a0_2,.int .i64 a0_3,.string a0_4,.slice A0_5 l0_5.length c0_5,.int .i64 a0_6,.int .i64 a0_7,.string a0_8,.slice A0_9 l0_9.length c0_9,.int .i64 a0_10,.int .i64 a0_11,.string a0_12,.slice A0_13 l0_13.length c0_13,.int .i64 a0_14,.int .i64 a0_15,.string a0_16,.slice A0_17 l0_17.length c0_17,.slice A0_18 l0_18.length c0_18]) (tb := 50) (by exact kX BK231.out) (.int .i64 a0_0) rfl (fun _ => by kernel_rfl) ?_))
       (try simp only [Act.put,List.setIfInBounds_toArray,List.set_cons_zero,List.set_cons_succ])
       go_cut [89] (fun v89 wc => ∃ (kq : Nat) (x89_34 : Bool),v89 = .bool x89_34 ∧ Aside0 (spec_l3Stmt.j2 kq a1 x89_34 a0_0 a0_1 a0_2 a0_3 a0_4 l0_5 a0_6 a0_7 a0_8 l0_9 a0_10 a0_11 a0_12 l0_13 a0_14 a0_15 a0_16 l0_17 l0_18 = some r) ∧ Aside0 (kq ≤ kj25) ∧ Aside0 (wc.heap[gb231]? = some (.cells #[.int .i64 a0_0,.string a0_1,.int .i64 a0_2,.int .i64 a0_3,.string a0_4,(.slice A0_5 l0_5.length c0_5),.int .i64 a0_6,.int .i64 a0_7,.string a0_8,(.slice A0_9 l0_9.length c0_9),.int .i64 a0_10,.int .i64 a0_11,.string a0_12,(.slice A0_13 l0_13.length c0_13),.int .i64 a0_14,.int .i64 a0_15,.string a0_16,(.slice A0_17 l0_17.length c0_17),(.slice A0_18 l0_18.length c0_18)] 50 (0,0))) ∧ Aside0 (Below w.heap.size w wc))
       case first =>
        have H := HC35.out
        clear HC35
        by_cases c36 : a1 ≥ 3
        ·rw [if_pos c36] at H
         have c36b0 : decide (3 ≤ a1) = true := decide_eq_true c36
         clear c36
         (first|rw [c36b0]|(simp only [i64_w,i32_w];rw [c36b0])|skip)
         have H' := mk0 H
         clear H
         go_wp2
         go_meet
         case rel => exact ⟨_,(true),(by first|rfl|(simp;done)|(simp [*];done)),H',⟨by have := HJ7.out;have := HJ25.out;first|omega|exact Nat.le_refl _⟩,⟨by refine kX ?_;exact BK231.out⟩,⟨by repeat (first|(with_reducible first|exact HB.out|apply bA|apply bN|apply bD|refine bS ?_ GE231.out)|exact HB.out)⟩⟩
        ·rw [if_neg c36] at H
         have c36b0 : decide (3 ≤ a1) = false := decide_eq_false c36
         clear c36
         (first|rw [c36b0]|(simp only [i64_w,i32_w];rw [c36b0])|skip)
         obtain ⟨t242,A37,H⟩ := bindA H
         have H' := mk0 H
         clear H
         go_wp2_with (first|((with_reducible refine gate_dst (N := 85) rfl ?_);(try (refine gate_guard (by rfl) ?_;dsimp only));refine ldOne rfl 48 _ rfl gb231 18 rfl (l := [.int .i64 a0_0,.string a0_1,.int .i64 a0_2,.int .i64 a0_3,.string a0_4,.slice A0_5 l0_5.length c0_5,.int .i64 a0_6,.int .i64 a0_7,.string a0_8,.slice A0_9 l0_9.length c0_9,.int .i64 a0_10,.int .i64 a0_11,.string a0_12,.slice A0_13 l0_13.length c0_13,.int .i64 a0_14,.int .i64 a0_15,.string a0_16,.slice A0_17 l0_17.length c0_17,.slice A0_18 l0_18.length c0_18]) (tb := 50) (by exact kX BK231.out) (.slice A0_18 l0_18.length c0_18) rfl (fun _ => by kernel_rfl) ?_)|(go_at_call 80;(with_reducible refine (spec_l1In.calls (l0_18.length : Int) 1 6 t242 _ A37.out).mono ?_);rintro e w' ⟨rfl,⟨nd,rfl⟩⟩))
         go_meet
         case rel => exact ⟨_,(!t242),(by first|rfl|(simp;done)|(simp [*];done)),H',⟨by have := HJ7.out;have := HJ25.out;first|omega|exact Nat.le_refl _⟩,⟨by refine kX ?_;exact BK231.out⟩,⟨by repeat (first|(with_reducible first|exact HB.out|apply bA|apply bN|apply bD|refine bS ?_ GE231.out)|exact HB.out)⟩⟩
       case rest =>
        clear HC35
        try clear c1
        try clear c2
        try clear p2
        try clear c3
        try clear c6
        try clear c7
        try clear c15
        try clear c15b0
        try clear c15b1
        try clear c18
        try clear c18b0
        try clear c18b1
        try clear c20
        try clear c25
        try clear c25b0
        try clear c25b1
        try clear c27
        try clear c28
        try clear c29
        try clear c30
        try clear c31
        try clear c33
        try clear c34
        try clear c34b0
        try clear c34b1
        try clear c36
        try clear c36b0
        try clear p2
        obtain ⟨kq,x89_34,rfl,HA,HJ34,BK231,HB⟩ := hcut
        cases kq with
               |zero => exact absurd HA.out (by simp [spec_l3Stmt.j2])
               |succ kj34 =>
         have H := HA.out
         clear HA
         simp only [spec_l3Stmt.j2] at H
         by_cases c38 : x89_34 = true
         ·subst c38
          rw [if_pos rfl] at H
          obtain rfl := Option.some.inj H
          go_wp2
          go_ret
          exact ⟨by first|rfl|(simp [errW_none,errW_some] <;> rfl)|(simp [*,errW_none,errW_some] <;> rfl),by repeat (first|(with_reducible first|exact HB.out|apply bA|apply bN|apply bD|refine bS ?_ GE231.out)|exact HB.out)⟩
         ·replace c38 := Bool.eq_false_iff.mpr c38
          subst c38
          rw [if_neg (show ¬ (false = true) by decide)] at H
          have H' := mk0 H
          clear H
          go_wp2
          go_loopg [10,11] kj34 (fun kq v10 v11 w' => ∃ (x10_4 : Int) (x11_4 : Int),v10 = .int .i64 x10_4 ∧ v11 = .int .i64 x11_4 ∧ Aside0 (spec_l3Stmt.l0 kq a1 x10_4 x11_4 a0_0 a0_1 a0_2 a0_3 a0_4 l0_5 a0_6 a0_7 a0_8 l0_9 a0_10 a0_11 a0_12 l0_13 a0_14 a0_15 a0_16 l0_17 l0_18 = some r) ∧ Aside0 (kq ≤ kj34) ∧ Aside0 (w'.heap[gb231]? = some (.cells #[.int .i64 a0_0,.string a0_1,.int .i64 a0_2,.int .i64 a0_3,.string a0_4,(.slice A0_5 l0_5.length c0_5),.int .i64 a0_6,.int .i64 a0_7,.string a0_8,(.slice A0_9 l0_9.length c0_9),.int .i64 a0_10,.int .i64 a0_11,.string a0_12,(.slice A0_13 l0_13.length c0_13),.int .i64 a0_14,.int .i64 a0_15,.string a0_16,(.slice A0_17 l0_17.length c0_17),(.slice A0_18 l0_18.length c0_18)] 50 (0,0))) ∧ Aside0 (Below w.heap.size w w'))
          case atStart => exact ⟨(1),(0),(by first|rfl|(simp;done)|(simp [*];done)),(by first|rfl|(simp;done)|(simp [*];done)),H',⟨Nat.le_refl _⟩,⟨by refine kX ?_;exact BK231.out⟩,⟨by repeat (first|(with_reducible first|exact HB.out|apply bA|apply bN|apply bD|refine bS ?_ GE231.out)|exact HB.out)⟩⟩
          case round =>
           clear H'
           try clear c1
           try clear c2
           try clear p2
           try clear c3
           try clear c6
           try clear c7
           try clear c15
           try clear c15b0
           try clear c15b1
           try clear c18
           try clear c18b0
           try clear c18b1
           try clear c20
           try clear c25
           try clear c25b0
           try clear c25b1
           try clear c27
           try clear c28
           try clear c29
           try clear c30
           try clear c31
           try clear c33
           try clear c34
           try clear c34b0
           try clear c34b1
           try clear c36
           try clear c36b0
           try clear c38
           try clear p2
           obtain ⟨x10_4,x11_4,rfl,rfl,HA,HK4,BK231,HB⟩ := hrel
           cases gk with
                     |zero => exact absurd HA.out (by simp [spec_l3Stmt.l0])
                     |succ k4 =>
            have H := HA.out
            clear HA
            simp only [spec_l3Stmt.l0] at H
            by_cases c39 : x11_4 < (l0_18.length : Int)
            ·rw [if_pos c39] at H
             have c39b0 : decide (x11_4 < (l0_18.length : Int)) = true := decide_eq_true c39
             clear c39
             by_cases c40 : x10_4 ≤ 40
             ·rw [if_pos c40] at H
              have c40b0 : decide (x10_4 ≤ 40) = true := decide_eq_true c40
              clear c40
              by_cases c41 : 0 ≤ x11_4
              ·rw [if_pos c41] at H
               have c41b0 : decide (0 ≤ x11_4) = true := decide_eq_true c41
               clear c41
               obtain ⟨t244,A42,H⟩ := bindA H
               have H' := mk0 H
               clear H
               go_wp2_with (first|((with_reducible refine gate_dst (N := 106) rfl ?_);first|(refine ldRow rfl 50 _ rfl _ rfl _ (row19 hx243_0 hx243_1 hx243_2 hx243_3 hx243_4 hx243_5 hx243_6 hx243_7 hx243_8 hx243_9 hx243_10 hx243_11 hx243_12 hx243_13 hx243_14 hx243_15 hx243_16 hx243_17 hx243_18) _ Try.underlying50 (by kernel_rfl) ?_))|((with_reducible refine gate_dst (N := 92) rfl ?_);(try (refine gate_guard (by rfl) ?_;dsimp only));refine ldOne rfl 48 _ rfl gb231 18 rfl (l := [.int .i64 a0_0,.string a0_1,.int .i64 a0_2,.int .i64 a0_3,.string a0_4,.slice A0_5 l0_5.length c0_5,.int .i64 a0_6,.int .i64 a0_7,.string a0_8,.slice A0_9 l0_9.length c0_9,.int .i64 a0_10,.int .i64 a0_11,.string a0_12,.slice A0_13 l0_13.length c0_13,.int .i64 a0_14,.int .i64 a0_15,.string a0_16,.slice A0_17 l0_17.length c0_17,.slice A0_18 l0_18.length c0_18]) (tb := 50) (by exact kX BK231.out) (.slice A0_18 l0_18.length c0_18) rfl (fun _ => by kernel_rfl) ?_)|((with_reducible refine gate_dst (N := 103) rfl ?_);(try (refine gate_guard (by rfl) ?_;dsimp only));refine ldOne rfl 48 _ rfl gb231 18 rfl (l := [.int .i64 a0_0,.string a0_1,.int .i64 a0_2,.int .i64 a0_3,.string a0_4,.slice A0_5 l0_5.length c0_5,.int .i64 a0_6,.int .i64 a0_7,.string a0_8,.slice A0_9 l0_9.length c0_9,.int .i64 a0_10,.int .i64 a0_11,.string a0_12,.slice A0_13 l0_13.length c0_13,.int .i64 a0_14,.int .i64 a0_15,.string a0_16,.slice A0_17 l0_17.length c0_17,.slice A0_18 l0_18.length c0_18]) (tb := 50) (by exact kX BK231.out) (.slice A0_18 l0_18.length c0_18) rfl (fun _ => by kernel_rfl) ?_;have p243 : 0 ≤ (x11_4 : Int) := of_decide_eq_true (by first|(with_reducible assumption)|assumption);have q243 : x11_4 < (l0_18.length : Int) := of_decide_eq_true (by first|(with_reducible assumption)|assumption);obtain ⟨ad243,A243_5,c243_5,A243_9,c243_9,A243_13,c243_13,A243_17,c243_17,A243_18,c243_18,e243,hx243_0,hx243_1,hx243_2,hx243_3,hx243_4,hx243_5,hx243_6,hx243_7,hx243_8,hx243_9,hx243_10,hx243_11,hx243_12,hx243_13,hx243_14,hx243_15,hx243_16,hx243_17,hx243_18,hl243_5,hi243_5,hl243_9,hi243_9,hl243_13,hi243_13,hl243_17,hi243_17,hl243_18,hi243_18⟩ := at_T50 HR0_18.out x11_4 p243 q243;cases e243;replace hx243_0 := hbc HB.out hx243_0;replace hx243_1 := hbc HB.out hx243_1;replace hx243_2 := hbc HB.out hx243_2;replace hx243_3 := hbc HB.out hx243_3;replace hx243_4 := hbc HB.out hx243_4;replace hx243_5 := hbc HB.out hx243_5;replace hx243_6 := hbc HB.out hx243_6;replace hx243_7 := hbc HB.out hx243_7;replace hx243_8 := hbc HB.out hx243_8;replace hx243_9 := hbc HB.out hx243_9;replace hx243_10 := hbc HB.out hx243_10;replace hx243_11 := hbc HB.out hx243_11;replace hx243_12 := hbc HB.out hx243_12;replace hx243_13 := hbc HB.out hx243_13;replace hx243_14 := hbc HB.out hx243_14;replace hx243_15 := hbc HB.out hx243_15;replace hx243_16 := hbc HB.out hx243_16;replace hx243_17 := hbc HB.out hx243_17;replace hx243_18 := hbc HB.out hx243_18;have HR243_5 := mk0 hi243_5;have HC243_5 := mk0 hl243_5;clear hi243_5 hl243_5;have HR243_9 := mk0 hi243_9;have HC243_9 := mk0 hl243_9;clear hi243_9 hl243_9;have HR243_13 := mk0 hi243_13;have HC243_13 := mk0 hl243_13;clear hi243_13 hl243_13;have HR243_17 := mk0 hi243_17;have HC243_17 := mk0 hl243_17;clear hi243_17 hl243_17;have HR243_18 := mk0 hi243_18;have HC243_18 := mk0 hl243_18;clear hi243_18 hl243_18;replace p243 := eq_true p243;replace q243 := eq_true q243)|((with_reducible refine gate_callee (f := 62) rfl ?_);refine goesL_ (some 109) rfl rfl Try.func62 (by kernel_rfl) rfl #[.agg #[.int .i64 ((rd_T50 l0_18 x11_4).f0),.string ((rd_T50 l0_18 x11_4).f1),.int .i64 ((rd_T50 l0_18 x11_4).f2.f0),.int .i64 ((rd_T50 l0_18 x11_4).f2.f1),.string ((rd_T50 l0_18 x11_4).f2.f2),.slice A243_5 ((rd_T50 l0_18 x11_4).f2.f3).length c243_5,.int .i64 ((rd_T50 l0_18 x11_4).f3.f0),.int .i64 ((rd_T50 l0_18 x11_4).f3.f1),.string ((rd_T50 l0_18 x11_4).f3.f2),.slice A243_9 ((rd_T50 l0_18 x11_4).f3.f3).length c243_9,.int .i64 ((rd_T50 l0_18 x11_4).f4.f0),.int .i64 ((rd_T50 l0_18 x11_4).f4.f1),.string ((rd_T50 l0_18 x11_4).f4.f2),.slice A243_13 ((rd_T50 l0_18 x11_4).f4.f3).length c243_13,.int .i64 ((rd_T50 l0_18 x11_4).f5.f0),.int .i64 ((rd_T50 l0_18 x11_4).f5.f1),.string ((rd_T50 l0_18 x11_4).f5.f2),.slice A243_17 ((rd_T50 l0_18 x11_4).f5.f3).length c243_17,.slice A243_18 ((rd_T50 l0_18 x11_4).f6).length c243_18],.int .i64 (wrap64 (a1 + 1))] rfl (by (try simp only [List.map_toArray,List.map_cons,List.map_nil]);first|done|rfl) ?_;(with_reducible refine (ih k4 (by have := HJ7.out;have := HJ25.out;have := HJ34.out;have := HK4.out;omega) ((rd_T50 l0_18 x11_4).f0) ((rd_T50 l0_18 x11_4).f1) ((rd_T50 l0_18 x11_4).f2.f0) ((rd_T50 l0_18 x11_4).f2.f1) ((rd_T50 l0_18 x11_4).f2.f2) _ _ ((rd_T50 l0_18 x11_4).f2.f3) ((rd_T50 l0_18 x11_4).f3.f0) ((rd_T50 l0_18 x11_4).f3.f1) ((rd_T50 l0_18 x11_4).f3.f2) _ _ ((rd_T50 l0_18 x11_4).f3.f3) ((rd_T50 l0_18 x11_4).f4.f0) ((rd_T50 l0_18 x11_4).f4.f1) ((rd_T50 l0_18 x11_4).f4.f2) _ _ ((rd_T50 l0_18 x11_4).f4.f3) ((rd_T50 l0_18 x11_4).f5.f0) ((rd_T50 l0_18 x11_4).f5.f1) ((rd_T50 l0_18 x11_4).f5.f2) _ _ ((rd_T50 l0_18 x11_4).f5.f3) _ _ ((rd_T50 l0_18 x11_4).f6) (wrap64 (a1 + 1)) t244 _ ?side1 ?side2 ?side3 ?side4 ?side5 ?side6 ?side7 ?side8 ?side9 ?side10 A42.out).mono ?_);(case side1 => repeat (first|exact (Kd.C_below HR243_5.out HB.out)|(with_reducible refine cA ?_ _)|(with_reducible refine cN ?_ _)|(with_reducible refine cD ?_)));(case side2 => exact HC243_5.out);(case side3 => repeat (first|exact (Kd.C_below HR243_9.out HB.out)|(with_reducible refine cA ?_ _)|(with_reducible refine cN ?_ _)|(with_reducible refine cD ?_)));(case side4 => exact HC243_9.out);(case side5 => repeat (first|exact (Kd.C_below HR243_13.out HB.out)|(with_reducible refine cA ?_ _)|(with_reducible refine cN ?_ _)|(with_reducible refine cD ?_)));(case side6 => exact HC243_13.out);(case side7 => repeat (first|exact (Kd.C_below HR243_17.out HB.out)|(with_reducible refine cA ?_ _)|(with_reducible refine cN ?_ _)|(with_reducible refine cD ?_)));(case side8 => exact HC243_17.out);(case side9 => repeat (first|exact (Kd.C_below HR243_18.out HB.out)|(with_reducible refine cA ?_ _)|(with_reducible refine cN ?_ _)|(with_reducible refine cD ?_)));(case side10 => exact HC243_18.out);rintro e w43 ⟨rfl,hb⟩;refine ⟨_,rfl,?_⟩;have n0_ := mk0 (blk_below (by exact kX BK231.out) hb);have n1_ := mk0 (below_step (by repeat (first|(with_reducible first|exact HB.out|apply bA|apply bN|apply bD|refine bS ?_ GE231.out)|exact HB.out)) hb);clear BK231;clear HB;have BK231 := n0_;have HB := n1_;clear n0_ n1_;(try clear hb);(try clear hb2);(try clear hk);(try clear hi)))
               go_roundg k4
               case measure => have := HJ7.out;have := HJ25.out;have := HJ34.out;have := HK4.out;omega
               case rel => exact ⟨(wrap64 (x10_4 + t244)),(wrap64 (x11_4 + 1)),(by first|rfl|(simp;done)|(simp [*];done)),(by first|rfl|(simp;done)|(simp [*];done)),H',⟨by have := HJ7.out;have := HJ25.out;have := HJ34.out;have := HK4.out;omega⟩,⟨by refine kX ?_;exact BK231.out⟩,⟨by repeat (first|(with_reducible first|exact HB.out|apply bA|apply bN|apply bD|refine bS ?_ GE231.out)|exact HB.out)⟩⟩
              ·rw [if_neg c41] at H
               exact absurd H (by simp)
             ·rw [if_neg c40] at H
              have c40b0 : decide (x10_4 ≤ 40) = false := decide_eq_false c40
              clear c40
              obtain rfl := Option.some.inj H
              go_wp2_with (first|((with_reducible refine gate_dst (N := 92) rfl ?_);(try (refine gate_guard (by rfl) ?_;dsimp only));refine ldOne rfl 48 _ rfl gb231 18 rfl (l := [.int .i64 a0_0,.string a0_1,.int .i64 a0_2,.int .i64 a0_3,.string a0_4,.slice A0_5 l0_5.length c0_5,.int .i64 a0_6,.int .i64 a0_7,.string a0_8,.slice A0_9 l0_9.length c0_9,.int .i64 a0_10,.int .i64 a0_11,.string a0_12,.slice A0_13 l0_13.length c0_13,.int .i64 a0_14,.int .i64 a0_15,.string a0_16,.slice A0_17 l0_17.length c0_17,.slice A0_18 l0_18.length c0_18]) (tb := 50) (by exact kX BK231.out) (.slice A0_18 l0_18.length c0_18) rfl (fun _ => by kernel_rfl) ?_))
              go_ret
              exact ⟨by first|rfl|(simp [errW_none,errW_some] <;> rfl)|(simp [*,errW_none,errW_some] <;> rfl),by repeat (first|(with_reducible first|exact HB.out|apply bA|apply bN|apply bD|refine bS ?_ GE231.out)|exact HB.out)⟩
            ·rw [if_neg c39] at H
             have c39b0 : decide (x11_4 < (l0_18.length : Int)) = false := decide_eq_false c39
             clear c39
             obtain rfl := Option.some.inj H
             go_wp2_with (first|((with_reducible refine gate_dst (N := 92) rfl ?_);(try (refine gate_guard (by rfl) ?_;dsimp only));refine ldOne rfl 48 _ rfl gb231 18 rfl (l := [.int .i64 a0_0,.string a0_1,.int .i64 a0_2,.int .i64 a0_3,.string a0_4,.slice A0_5 l0_5.length c0_5,.int .i64 a0_6,.int .i64 a0_7,.string a0_8,.slice A0_9 l0_9.length c0_9,.int .i64 a0_10,.int .i64 a0_11,.string a0_12,.slice A0_13 l0_13.length c0_13,.int .i64 a0_14,.int .i64 a0_15,.string a0_16,.slice A0_17 l0_17.length c0_17,.slice A0_18 l0_18.length c0_18]) (tb := 50) (by exact kX BK231.out) (.slice A0_18 l0_18.length c0_18) rfl (fun _ => by kernel_rfl) ?_))
             go_ret
             exact ⟨by first|rfl|(simp [errW_none,errW_some] <;> rfl)|(simp [*,errW_none,errW_some] <;> rfl),by repeat (first|(with_reducible first|exact HB.out|apply bA|apply bN|apply bD|refine bS ?_ GE231.out)|exact HB.out)⟩
      ·rw [if_neg c34] at H
       have c34b0 : (a0_0 == 3) = false := beq_eq_false_iff_ne.mpr c34
       have c34b1 : (a0_0 != 3) = true := bne_iff_ne.mpr c34
       by_cases c44 : (l0_18.length : Int) > 0
       ·rw [if_pos c44] at H
        have c44b0 : decide (0 < (l0_18.length : Int)) = true := decide_eq_true c44
        have c44b1 : decide (0 < l0_18.length) = true := decide_eq_true (by omega)
        clear c44
        obtain rfl := Option.some.inj H
        go_wp2_with (first|((with_reducible refine gate_dst (N := 75) rfl ?_);(try (refine gate_guard (by rfl) ?_;dsimp only));refine ldOne rfl 3 _ rfl gb231 0 rfl (l := [.int .i64 a0_0,.string a0_1,.int .i64 a0_2,.int .i64 a0_3,.string a0_4,.slice A0_5 l0_5.length c0_5,.int .i64 a0_6,.int .i64 a0_7,.string a0_8,.slice A0_9 l0_9.length c0_9,.int .i64 a0_10,.int .i64 a0_11,.string a0_12,.slice A0_13 l0_13.length c0_13,.int .i64 a0_14,.int .i64 a0_15,.string a0_16,.slice A0_17 l0_17.length c0_17,.slice A0_18 l0_18.length c0_18]) (tb := 50) (by exact kX BK231.out) (.int .i64 a0_0) rfl (fun _ => by kernel_rfl) ?_)|((with_reducible refine gate_dst (N := 78) rfl ?_);(try (refine gate_guard (by rfl) ?_;dsimp only));refine ldOne rfl 48 _ rfl gb231 18 rfl (l := [.int .i64 a0_0,.string a0_1,.int .i64 a0_2,.int .i64 a0_3,.string a0_4,.slice A0_5 l0_5.length c0_5,.int .i64 a0_6,.int .i64 a0_7,.string a0_8,.slice A0_9 l0_9.length c0_9,.int .i64 a0_10,.int .i64 a0_11,.string a0_12,.slice A0_13 l0_13.length c0_13,.int .i64 a0_14,.int .i64 a0_15,.string a0_16,.slice A0_17 l0_17.length c0_17,.slice A0_18 l0_18.length c0_18]) (tb := 50) (by exact kX BK231.out) (.slice A0_18 l0_18.length c0_18) rfl (fun _ => by kernel_rfl) ?_))
        go_ret
        exact ⟨by first|rfl|(simp [errW_none,errW_some] <;> rfl)|(simp [*,errW_none,errW_some] <;> rfl),by repeat (first|(with_reducible first|exact HB.out|apply bA|apply bN|apply bD|refine bS ?_ GE231.out)|exact HB.out)⟩
       ·rw [if_neg c44] at H
        have c44b0 : decide (0 < (l0_18.length : Int)) = false := decide_eq_false c44
        have c44b1 : decide (0 < l0_18.length) = false := decide_eq_false (by omega)
        clear c44
        obtain rfl := Option.some.inj H
        go_wp2_with (first|((with_reducible refine gate_dst (N := 75) rfl ?_);(try (refine gate_guard (by rfl) ?_;dsimp only));refine ldOne rfl 3 _ rfl gb231 0 rfl (l := [.int .i64 a0_0,.string a0_1,.int .i64 a0_2,.int .i64 a0_3,.string a0_4,.slice A0_5 l0_5.length c0_5,.int .i64 a0_6,.int .i64 a0_7,.string a0_8,.slice A0_9 l0_9.length c0_9,.int .i64 a0_10,.int .i64 a0_11,.string a0_12,.slice A0_13 l0_13.length c0_13,.int .i64 a0_14,.int .i64 a0_15,.string a0_16,.slice A0_17 l0_17.length c0_17,.slice A0_18 l0_18.length c0_18]) (tb := 50) (by exact kX BK231.out) (.int .i64 a0_0) rfl (fun _ => by kernel_rfl) ?_)|((with_reducible refine gate_dst (N := 78) rfl ?_);(try (refine gate_guard (by rfl) ?_;dsimp only));refine ldOne rfl 48 _ rfl gb231 18 rfl (l := [.int .i64 a0_0,.string a0_1,.int .i64 a0_2,.int .i64 a0_3,.string a0_4,.slice A0_5 l0_5.length c0_5,.int .i64 a0_6,.int .i64 a0_7,.string a0_8,.slice A0_9 l0_9.length c0_9,.int .i64 a0_10,.int .i64 a0_11,.string a0_12,.slice A0_13 l0_13.length c0_13,.int .i64 a0_14,.int .i64 a0_15,.string a0_16,.slice A0_17 l0_17.length c0_17,.slice A0_18 l0_18.length c0_18]) (tb := 50) (by exact kX BK231.out) (.slice A0_18 l0_18.length c0_18) rfl (fun _ => by kernel_rfl) ?_))
        go_ret
        exact ⟨by first|rfl|(simp [errW_none,errW_some] <;> rfl)|(simp [*,errW_none,errW_some] <;> rfl),by repeat (first|(with_reducible first|exact HB.out|apply bA|apply bN|apply bD|refine bS ?_ GE231.out)|exact HB.out)⟩

/-! ### spec_StmtOk: function 27 -/
def spec_StmtOk.f (k : Nat) (a0_0 : Int) (a0_1 : ByteArray) (a0_2 : Int) (a0_3 : Int) (a0_4 : ByteArray) (l0_5 : List (S29)) (a0_6 : Int) (a0_7 : Int) (a0_8 : ByteArray) (l0_9 : List (S29)) (a0_10 : Int) (a0_11 : Int) (a0_12 : ByteArray) (l0_13 : List (S29)) (a0_14 : Int) (a0_15 : Int) (a0_16 : ByteArray) (l0_17 : List (S29)) (l0_18 : List (S50)) : Option (Bool) := (spec_l3Stmt.f k a0_0 a0_1 a0_2 a0_3 a0_4 l0_5 a0_6 a0_7 a0_8 l0_9 a0_10 a0_11 a0_12 l0_13 a0_14 a0_15 a0_16 l0_17 l0_18 0).bind fun t246 => (some (decide (t246 ≤ 40)))
theorem spec_StmtOk.mono : ∀ a0 a1 a2 a3 a4 a5 a6 a7 a8 a9 a10 a11 a12 a13 a14 a15 a16 a17 a18 k, LeO (spec_StmtOk.f k a0 a1 a2 a3 a4 a5 a6 a7 a8 a9 a10 a11 a12 a13 a14 a15 a16 a17 a18) (spec_StmtOk.f (k + 1) a0 a1 a2 a3 a4 a5 a6 a7 a8 a9 a10 a11 a12 a13 a14 a15 a16 a17 a18) := by
 intro a0 a1 a2 a3 a4 a5 a6 a7 a8 a9 a10 a11 a12 a13 a14 a15 a16 a17 a18 k
 unfold spec_StmtOk.f
 repeat' first
   | (with_reducible exact spec_l3Stmt.mono _ _ _ _ _ _ _ _ _ _ _ _ _ _ _ _ _ _ _ _ _)
   | (with_reducible exact LeO.refl _)
   | (with_reducible exact LeO.none _)
   | (with_reducible refine LeO.ite ?_ ?_)
   | (with_reducible refine LeO.bind ?_ (fun _ => ?_))
   | exact spec_l3Stmt.mono _ _ _ _ _ _ _ _ _ _ _ _ _ _ _ _ _ _ _ _ _
   | exact LeO.none _
   | refine LeO.ite ?_ ?_
   | refine LeO.bind ?_ (fun _ => ?_)
set_option maxHeartbeats 8000000 in
set_option maxRecDepth 100000 in
theorem spec_StmtOk.calls (k : Nat) (a0_0 : Int) (a0_1 : ByteArray) (a0_2 : Int) (a0_3 : Int) (a0_4 : ByteArray) (A0_5 : Option Addr) (c0_5 : Nat) (l0_5 : List (S29)) (a0_6 : Int) (a0_7 : Int) (a0_8 : ByteArray) (A0_9 : Option Addr) (c0_9 : Nat) (l0_9 : List (S29)) (a0_10 : Int) (a0_11 : Int) (a0_12 : ByteArray) (A0_13 : Option Addr) (c0_13 : Nat) (l0_13 : List (S29)) (a0_14 : Int) (a0_15 : Int) (a0_16 : ByteArray) (A0_17 : Option Addr) (c0_17 : Nat) (l0_17 : List (S29)) (A0_18 : Option Addr) (c0_18 : Nat) (l0_18 : List (S50)) (r : Bool) (w : World) (hr0_5 : Kd.C k29 w A0_5 l0_5.length l0_5) (hc0_5 : l0_5.length ≤ c0_5) (hr0_9 : Kd.C k29 w A0_9 l0_9.length l0_9) (hc0_9 : l0_9.length ≤ c0_9) (hr0_13 : Kd.C k29 w A0_13 l0_13.length l0_13) (hc0_13 : l0_13.length ≤ c0_13) (hr0_17 : Kd.C k29 w A0_17 l0_17.length l0_17) (hc0_17 : l0_17.length ≤ c0_17) (hr0_18 : Kd.C k50 w A0_18 l0_18.length l0_18) (hc0_18 : l0_18.length ≤ c0_18) (h : spec_StmtOk.f k a0_0 a0_1 a0_2 a0_3 a0_4 l0_5 a0_6 a0_7 a0_8 l0_9 a0_10 a0_11 a0_12 l0_13 a0_14 a0_15 a0_16 l0_17 l0_18 = some r) :
  Calls Try.prog 27 #[.agg #[.int .i64 a0_0, .string a0_1, .int .i64 a0_2, .int .i64 a0_3, .string a0_4, .slice A0_5 l0_5.length c0_5, .int .i64 a0_6, .int .i64 a0_7, .string a0_8, .slice A0_9 l0_9.length c0_9, .int .i64 a0_10, .int .i64 a0_11, .string a0_12, .slice A0_13 l0_13.length c0_13, .int .i64 a0_14, .int .i64 a0_15, .string a0_16, .slice A0_17 l0_17.length c0_17, .slice A0_18 l0_18.length c0_18]] w fun e w' => e = .returned (.bool r) ∧ Below w.heap.size w w' := by
 have hu50 := Try.underlying50
 have HR0_5 := mk0 hr0_5
 have HC0_5 := mk0 hc0_5
 clear hr0_5 hc0_5
 have HR0_9 := mk0 hr0_9
 have HC0_9 := mk0 hc0_9
 clear hr0_9 hc0_9
 have HR0_13 := mk0 hr0_13
 have HC0_13 := mk0 hc0_13
 clear hr0_13 hc0_13
 have HR0_17 := mk0 hr0_17
 have HC0_17 := mk0 hc0_17
 clear hr0_17 hc0_17
 have HR0_18 := mk0 hr0_18
 have HC0_18 := mk0 hc0_18
 clear hr0_18 hc0_18
 have HB := mk0 (Below.refl w.heap.size w)
 have H : ((spec_l3Stmt.f k a0_0 a0_1 a0_2 a0_3 a0_4 l0_5 a0_6 a0_7 a0_8 l0_9 a0_10 a0_11 a0_12 l0_13 a0_14 a0_15 a0_16 l0_17 l0_18 0).bind fun t246 => (some (decide (t246 ≤ 40)))) = some r := h
 clear h
 obtain ⟨t246,A2,H⟩ := bindA H
 obtain rfl := Option.some.inj H
 go_enter Try.func27,Try.ntmps27
 go_wp2_with (first|((with_reducible refine gate_dst (N := 1) rfl ?_);refine box_event ?hg (N := 1) ?hd (cs := #[.int .i64 a0_0,.string a0_1,.int .i64 a0_2,.int .i64 a0_3,.string a0_4,.slice A0_5 l0_5.length c0_5,.int .i64 a0_6,.int .i64 a0_7,.string a0_8,.slice A0_9 l0_9.length c0_9,.int .i64 a0_10,.int .i64 a0_11,.string a0_12,.slice A0_13 l0_13.length c0_13,.int .i64 a0_14,.int .i64 a0_15,.string a0_16,.slice A0_17 l0_17.length c0_17,.slice A0_18 l0_18.length c0_18]) (t := 50) ?hr ?_;(case hd => rfl);(case hg => rfl);(case hr => first|(go_simp;done)|(go_simp;rfl));intro gb245 hg w3 hbox hb;have q_ := qB (by repeat (first|(with_reducible first|exact HB.out|apply bA|apply bN|apply bD)|exact HB.out)) hb;have n0_ := mk0 (below_step q_ hb);have n1_ := mk0 (hbox);have n2_ := mk0 (below_size2 q_ hg);have n3_ := n2_;clear HB;have HB := n0_;have BK245 := n1_;have GW245 := n2_;have GE245 := n3_;clear q_ n0_ n1_ n2_ n3_;clear hb hbox hg)|((with_reducible refine gate_dst (N := 3) rfl ?_);refine ldBox rfl 50 _ rfl gb245 0 rfl (l := [.int .i64 a0_0,.string a0_1,.int .i64 a0_2,.int .i64 a0_3,.string a0_4,.slice A0_5 l0_5.length c0_5,.int .i64 a0_6,.int .i64 a0_7,.string a0_8,.slice A0_9 l0_9.length c0_9,.int .i64 a0_10,.int .i64 a0_11,.string a0_12,.slice A0_13 l0_13.length c0_13,.int .i64 a0_14,.int .i64 a0_15,.string a0_16,.slice A0_17 l0_17.length c0_17,.slice A0_18 l0_18.length c0_18]) (tb := 50) (by exact kX BK245.out) [.int .i64 a0_0,.string a0_1,.int .i64 a0_2,.int .i64 a0_3,.string a0_4,.slice A0_5 l0_5.length c0_5,.int .i64 a0_6,.int .i64 a0_7,.string a0_8,.slice A0_9 l0_9.length c0_9,.int .i64 a0_10,.int .i64 a0_11,.string a0_12,.slice A0_13 l0_13.length c0_13,.int .i64 a0_14,.int .i64 a0_15,.string a0_16,.slice A0_17 l0_17.length c0_17,.slice A0_18 l0_18.length c0_18] rfl _ hu50 (by kernel_rfl) ?_)|((with_reducible refine gate_callee (f := 62) rfl ?_);refine goesL_ (some 4) rfl rfl Try.func62 (by kernel_rfl) rfl #[.agg #[.int .i64 a0_0,.string a0_1,.int .i64 a0_2,.int .i64 a0_3,.string a0_4,.slice A0_5 l0_5.length c0_5,.int .i64 a0_6,.int .i64 a0_7,.string a0_8,.slice A0_9 l0_9.length c0_9,.int .i64 a0_10,.int .i64 a0_11,.string a0_12,.slice A0_13 l0_13.length c0_13,.int .i64 a0_14,.int .i64 a0_15,.string a0_16,.slice A0_17 l0_17.length c0_17,.slice A0_18 l0_18.length c0_18],.int .i64 0] rfl (by (try simp only [List.map_toArray,List.map_cons,List.map_nil]);first|done|rfl) ?_;(with_reducible refine (spec_l3Stmt.calls k a0_0 a0_1 a0_2 a0_3 a0_4 _ _ l0_5 a0_6 a0_7 a0_8 _ _ l0_9 a0_10 a0_11 a0_12 _ _ l0_13 a0_14 a0_15 a0_16 _ _ l0_17 _ _ l0_18 0 t246 _ ?side1 ?side2 ?side3 ?side4 ?side5 ?side6 ?side7 ?side8 ?side9 ?side10 A2.out).mono ?_);(case side1 => repeat (first|exact (Kd.C_below HR0_5.out HB.out)|(with_reducible refine cA ?_ _)|(with_reducible refine cN ?_ _)|(with_reducible refine cD ?_)));(case side2 => exact HC0_5.out);(case side3 => repeat (first|exact (Kd.C_below HR0_9.out HB.out)|(with_reducible refine cA ?_ _)|(with_reducible refine cN ?_ _)|(with_reducible refine cD ?_)));(case side4 => exact HC0_9.out);(case side5 => repeat (first|exact (Kd.C_below HR0_13.out HB.out)|(with_reducible refine cA ?_ _)|(with_reducible refine cN ?_ _)|(with_reducible refine cD ?_)));(case side6 => exact HC0_13.out);(case side7 => repeat (first|exact (Kd.C_below HR0_17.out HB.out)|(with_reducible refine cA ?_ _)|(with_reducible refine cN ?_ _)|(with_reducible refine cD ?_)));(case side8 => exact HC0_17.out);(case side9 => repeat (first|exact (Kd.C_below HR0_18.out HB.out)|(with_reducible refine cA ?_ _)|(with_reducible refine cN ?_ _)|(with_reducible refine cD ?_)));(case side10 => exact HC0_18.out);rintro e w4 ⟨rfl,hb⟩;refine ⟨_,rfl,?_⟩;have n0_ := mk0 (blk_below (by exact kX BK245.out) hb);have n1_ := mk0 (below_step (by repeat (first|(with_reducible first|exact HB.out|apply bA|apply bN|apply bD|refine bS ?_ GE245.out)|exact HB.out)) hb);clear BK245;clear HB;have BK245 := n0_;have HB := n1_;clear n0_ n1_;(try clear hb);(try clear hb2);(try clear hk);(try clear hi)))
 go_ret
 exact ⟨by first|rfl|(simp [errW_none,errW_some] <;> rfl)|(simp [*,errW_none,errW_some] <;> rfl),by repeat (first|(with_reducible first|exact HB.out|apply bA|apply bN|apply bD|refine bS ?_ GE245.out)|exact HB.out)⟩

/-! ### impl_Size: function 40 -/
mutual
def impl_Size.l0 : Nat → Int → List (S50) → Int → Int → Option (Int)
 |0,_,_,_,_ => none
 |k + 1,x3,x8,x9,x10 => if x10 < x9 then (if 0 ≤ x10 then (if x10 < (x8.length : Int) then ((impl_Size.f k ((rd_T50 x8 x10).f6)).bind fun t249 => (impl_Size.l0 k (wrap64 (x3 + t249)) x8 x9 (wrap64 (x10 + 1)))) else (none)) else (none)) else (some x3)
def impl_Size.f : Nat → List (S50) → Option (Int)
 |0,_ => none
 |k + 1,l0 => impl_Size.l0 k (l0.length : Int) l0 (l0.length : Int) 0
end
theorem impl_Size.mono_l : ∀ k, (∀ y0, LeO (impl_Size.f k y0) (impl_Size.f (k + 1) y0)) ∧ (∀ y0 y1 y2 y3, LeO (impl_Size.l0 k y0 y1 y2 y3) (impl_Size.l0 (k + 1) y0 y1 y2 y3))
 | 0 => ⟨fun _ r h => by simp [impl_Size.f] at h, fun _ _ _ _ r h => by simp [impl_Size.l0] at h⟩
 | k + 1 => by
  obtain ⟨ih0, ih1⟩ := impl_Size.mono_l k
  refine ⟨?_, ?_⟩
  ·intro y0
   unfold impl_Size.f
   repeat' first
   | (with_reducible exact ih0 _)
   | (with_reducible exact ih1 _ _ _ _)
   | (with_reducible exact LeO.refl _)
   | (with_reducible exact LeO.none _)
   | (with_reducible refine LeO.ite ?_ ?_)
   | (with_reducible refine LeO.bind ?_ (fun _ => ?_))
   | exact ih0 _
   | exact ih1 _ _ _ _
   | exact LeO.none _
   | refine LeO.ite ?_ ?_
   | refine LeO.bind ?_ (fun _ => ?_)
  ·intro y0 y1 y2 y3
   unfold impl_Size.l0
   repeat' first
   | (with_reducible exact ih0 _)
   | (with_reducible exact ih1 _ _ _ _)
   | (with_reducible exact LeO.refl _)
   | (with_reducible exact LeO.none _)
   | (with_reducible refine LeO.ite ?_ ?_)
   | (with_reducible refine LeO.bind ?_ (fun _ => ?_))
   | exact ih0 _
   | exact ih1 _ _ _ _
   | exact LeO.none _
   | refine LeO.ite ?_ ?_
   | refine LeO.bind ?_ (fun _ => ?_)
theorem impl_Size.mono : ∀ a0 k, LeO (impl_Size.f k a0) (impl_Size.f (k + 1) a0) := by
 intro a0 k
 obtain ⟨ih0, ih1⟩ := impl_Size.mono_l k
 exact ih0 a0
set_option maxHeartbeats 8000000 in
set_option maxRecDepth 100000 in
theorem impl_Size.calls (k : Nat) : ∀ (A0 : Option Addr) (c0 : Nat) (l0 : List (S50)) (r : Int) (w : World) (hr0 : Kd.C k50 w A0 l0.length l0) (hc0 : l0.length ≤ c0) (h : impl_Size.f k l0 = some r),
  Calls Try.prog 40 #[.slice A0 l0.length c0] w fun e w' => e = .returned (.int .i64 r) ∧ Below w.heap.size w w' := by
 induction k using Nat.strongRecOn with
 |_ k ih =>
 intro A0 c0 l0 r w hr0 hc0 h
 cases k with
 |zero => exact absurd h (by simp [impl_Size.f])
 |succ k =>
 simp only [impl_Size.f] at h
 have hu50 := Try.underlying50
 have HR0 := mk0 hr0
 have HC0 := mk0 hc0
 clear hr0 hc0
 have HB := mk0 (Below.refl w.heap.size w)
 have H : (impl_Size.l0 k (l0.length : Int) l0 (l0.length : Int) 0) = some r := h
 clear h
 have H' := mk0 H
 clear H
 go_enter Try.func40,Try.ntmps40
 go_wp2
 go_loopg [3,10] k (fun kq v3 v10 w' => ∃ (x3_1 : Int) (x10_1 : Int),v3 = .int .i64 x3_1 ∧ v10 = .int .i64 x10_1 ∧ Aside0 (impl_Size.l0 kq x3_1 l0 (l0.length : Int) x10_1 = some r) ∧ Aside0 (kq ≤ k) ∧ Aside0 (Below w.heap.size w w'))
 case atStart => exact ⟨((l0.length : Int)),(0),(by first|rfl|(simp;done)|(simp [*];done)),(by first|rfl|(simp;done)|(simp [*];done)),H',⟨Nat.le_refl _⟩,⟨by repeat (first|(with_reducible first|exact HB.out|apply bA|apply bN|apply bD)|exact HB.out)⟩⟩
 case round =>
  clear H'
  obtain ⟨x3_1,x10_1,rfl,rfl,HA,HK1,HB⟩ := hrel
  cases gk with
   |zero => exact absurd HA.out (by simp [impl_Size.l0])
   |succ k1 =>
   have H := HA.out
   clear HA
   simp only [impl_Size.l0] at H
   by_cases c2 : x10_1 < (l0.length : Int)
   ·rw [if_pos c2] at H
    have c2b0 : decide (x10_1 < (l0.length : Int)) = true := decide_eq_true c2
    clear c2
    by_cases c3 : 0 ≤ x10_1
    ·rw [if_pos c3] at H
     have c3b0 : decide (0 ≤ x10_1) = true := decide_eq_true c3
     clear c3
     by_cases c4 : x10_1 < (l0.length : Int)
     ·rw [if_pos c4] at H
      have c4b0 : decide (x10_1 < (l0.length : Int)) = true := decide_eq_true c4
      clear c4
      obtain ⟨t249,A5,H⟩ := bindA H
      have H' := mk0 H
      clear H
      have p247 : 0 ≤ (x10_1 : Int) := of_decide_eq_true (by first|(with_reducible assumption)|assumption)
      have q247 : x10_1 < (l0.length : Int) := of_decide_eq_true (by first|(with_reducible assumption)|assumption)
      obtain ⟨ad247,A247_5,c247_5,A247_9,c247_9,A247_13,c247_13,A247_17,c247_17,A247_18,c247_18,e247,hx247_0,hx247_1,hx247_2,hx247_3,hx247_4,hx247_5,hx247_6,hx247_7,hx247_8,hx247_9,hx247_10,hx247_11,hx247_12,hx247_13,hx247_14,hx247_15,hx247_16,hx247_17,hx247_18,hl247_5,hi247_5,hl247_9,hi247_9,hl247_13,hi247_13,hl247_17,hi247_17,hl247_18,hi247_18⟩ := at_T50 HR0.out x10_1 p247 q247
      cases e247
      replace hx247_0 := hbc HB.out hx247_0
      replace hx247_1 := hbc HB.out hx247_1
      replace hx247_2 := hbc HB.out hx247_2
      replace hx247_3 := hbc HB.out hx247_3
      replace hx247_4 := hbc HB.out hx247_4
      replace hx247_5 := hbc HB.out hx247_5
      replace hx247_6 := hbc HB.out hx247_6
      replace hx247_7 := hbc HB.out hx247_7
      replace hx247_8 := hbc HB.out hx247_8
      replace hx247_9 := hbc HB.out hx247_9
      replace hx247_10 := hbc HB.out hx247_10
      replace hx247_11 := hbc HB.out hx247_11
      replace hx247_12 := hbc HB.out hx247_12
      replace hx247_13 := hbc HB.out hx247_13
      replace hx247_14 := hbc HB.out hx247_14
      replace hx247_15 := hbc HB.out hx247_15
      replace hx247_16 := hbc HB.out hx247_16
      replace hx247_17 := hbc HB.out hx247_17
      replace hx247_18 := hbc HB.out hx247_18
      have HR247_5 := mk0 hi247_5
      have HC247_5 := mk0 hl247_5
      clear hi247_5 hl247_5
      have HR247_9 := mk0 hi247_9
      have HC247_9 := mk0 hl247_9
      clear hi247_9 hl247_9
      have HR247_13 := mk0 hi247_13
      have HC247_13 := mk0 hl247_13
      clear hi247_13 hl247_13
      have HR247_17 := mk0 hi247_17
      have HC247_17 := mk0 hl247_17
      clear hi247_17 hl247_17
      have HR247_18 := mk0 hi247_18
      have HC247_18 := mk0 hl247_18
      clear hi247_18 hl247_18
      replace p247 := eq_true p247
      replace q247 := eq_true q247
      go_wp2_with (first|((with_reducible refine gate_dst (N := 13) rfl ?_);first|(refine ldRow rfl 50 _ rfl _ rfl _ (row19 hx247_0 hx247_1 hx247_2 hx247_3 hx247_4 hx247_5 hx247_6 hx247_7 hx247_8 hx247_9 hx247_10 hx247_11 hx247_12 hx247_13 hx247_14 hx247_15 hx247_16 hx247_17 hx247_18) _ Try.underlying50 (by kernel_rfl) ?_))|((with_reducible refine gate_dst (N := 5) rfl ?_);refine box_event ?hg (N := 5) ?hd (cs := #[.int .i64 0,.string (⟨#[]⟩ : ByteArray),.int .i64 0,.int .i64 0,.string (⟨#[]⟩ : ByteArray),.slice none 0 0,.int .i64 0,.int .i64 0,.string (⟨#[]⟩ : ByteArray),.slice none 0 0,.int .i64 0,.int .i64 0,.string (⟨#[]⟩ : ByteArray),.slice none 0 0,.int .i64 0,.int .i64 0,.string (⟨#[]⟩ : ByteArray),.slice none 0 0,.slice none 0 0]) (t := 50) ?hr ?_;(case hd => rfl);(case hg => rfl);(case hr => first|(go_simp;done)|(go_simp;rfl));intro gb248 hg w6 hbox hb;have q_ := qB (by repeat (first|(with_reducible first|exact HB.out|apply bA|apply bN|apply bD)|exact HB.out)) hb;have n0_ := mk0 (below_step q_ hb);have n1_ := mk0 (hbox);have n2_ := mk0 (below_size2 q_ hg);have n3_ := n2_;clear HB;have HB := n0_;have BK248 := n1_;have GW248 := n2_;have GE248 := n3_;clear q_ n0_ n1_ n2_ n3_;clear hb hbox hg)|((with_reducible refine gate_store (t := 50) (p := 5) rfl ?_);refine store_event (t := 50) (p := 5) (v := ?vo_w7) (w1 := (((((((((((((((((((w6.setCell ⟨gb248,0,none⟩ (.int .i64 ((rd_T50 l0 x10_1).f0))).setCell ⟨gb248,1,none⟩ (.string ((rd_T50 l0 x10_1).f1))).setCell ⟨gb248,2,none⟩ (.int .i64 ((rd_T50 l0 x10_1).f2.f0))).setCell ⟨gb248,3,none⟩ (.int .i64 ((rd_T50 l0 x10_1).f2.f1))).setCell ⟨gb248,4,none⟩ (.string ((rd_T50 l0 x10_1).f2.f2))).setCell ⟨gb248,5,none⟩ (.slice A247_5 ((rd_T50 l0 x10_1).f2.f3).length c247_5)).setCell ⟨gb248,6,none⟩ (.int .i64 ((rd_T50 l0 x10_1).f3.f0))).setCell ⟨gb248,7,none⟩ (.int .i64 ((rd_T50 l0 x10_1).f3.f1))).setCell ⟨gb248,8,none⟩ (.string ((rd_T50 l0 x10_1).f3.f2))).setCell ⟨gb248,9,none⟩ (.slice A247_9 ((rd_T50 l0 x10_1).f3.f3).length c247_9)).setCell ⟨gb248,10,none⟩ (.int .i64 ((rd_T50 l0 x10_1).f4.f0))).setCell ⟨gb248,11,none⟩ (.int .i64 ((rd_T50 l0 x10_1).f4.f1))).setCell ⟨gb248,12,none⟩ (.string ((rd_T50 l0 x10_1).f4.f2))).setCell ⟨gb248,13,none⟩ (.slice A247_13 ((rd_T50 l0 x10_1).f4.f3).length c247_13)).setCell ⟨gb248,14,none⟩ (.int .i64 ((rd_T50 l0 x10_1).f5.f0))).setCell ⟨gb248,15,none⟩ (.int .i64 ((rd_T50 l0 x10_1).f5.f1))).setCell ⟨gb248,16,none⟩ (.string ((rd_T50 l0 x10_1).f5.f2))).setCell ⟨gb248,17,none⟩ (.slice A247_17 ((rd_T50 l0 x10_1).f5.f3).length c247_17)).setCell ⟨gb248,18,none⟩ (.slice A247_18 ((rd_T50 l0 x10_1).f6).length c247_18))) ?hg ?ho ?hn ?hr ?_;(case ho => rfl);(case hg => rfl);(case hn => rfl);(case hr => exact hrBox 50 (.tmp 5) _ rfl gb248 0 rfl [.int .i64 ((rd_T50 l0 x10_1).f0),.string ((rd_T50 l0 x10_1).f1),.int .i64 ((rd_T50 l0 x10_1).f2.f0),.int .i64 ((rd_T50 l0 x10_1).f2.f1),.string ((rd_T50 l0 x10_1).f2.f2),.slice A247_5 ((rd_T50 l0 x10_1).f2.f3).length c247_5,.int .i64 ((rd_T50 l0 x10_1).f3.f0),.int .i64 ((rd_T50 l0 x10_1).f3.f1),.string ((rd_T50 l0 x10_1).f3.f2),.slice A247_9 ((rd_T50 l0 x10_1).f3.f3).length c247_9,.int .i64 ((rd_T50 l0 x10_1).f4.f0),.int .i64 ((rd_T50 l0 x10_1).f4.f1),.string ((rd_T50 l0 x10_1).f4.f2),.slice A247_13 ((rd_T50 l0 x10_1).f4.f3).length c247_13,.int .i64 ((rd_T50 l0 x10_1).f5.f0),.int .i64 ((rd_T50 l0 x10_1).f5.f1),.string ((rd_T50 l0 x10_1).f5.f2),.slice A247_17 ((rd_T50 l0 x10_1).f5.f3).length c247_17,.slice A247_18 ((rd_T50 l0 x10_1).f6).length c247_18] rfl (by kernel_rfl) rfl (l := [.int .i64 0,.string (⟨#[]⟩ : ByteArray),.int .i64 0,.int .i64 0,.string (⟨#[]⟩ : ByteArray),.slice none 0 0,.int .i64 0,.int .i64 0,.string (⟨#[]⟩ : ByteArray),.slice none 0 0,.int .i64 0,.int .i64 0,.string (⟨#[]⟩ : ByteArray),.slice none 0 0,.int .i64 0,.int .i64 0,.string (⟨#[]⟩ : ByteArray),.slice none 0 0,.slice none 0 0]) BK248.out (show 0 + 19 ≤ 19 from by decide) rfl);intro w7 hw;have n0_ : Aside0 (w7.heap[gb248]? = some (.cells #[.int .i64 ((rd_T50 l0 x10_1).f0),.string ((rd_T50 l0 x10_1).f1),.int .i64 ((rd_T50 l0 x10_1).f2.f0),.int .i64 ((rd_T50 l0 x10_1).f2.f1),.string ((rd_T50 l0 x10_1).f2.f2),.slice A247_5 ((rd_T50 l0 x10_1).f2.f3).length c247_5,.int .i64 ((rd_T50 l0 x10_1).f3.f0),.int .i64 ((rd_T50 l0 x10_1).f3.f1),.string ((rd_T50 l0 x10_1).f3.f2),.slice A247_9 ((rd_T50 l0 x10_1).f3.f3).length c247_9,.int .i64 ((rd_T50 l0 x10_1).f4.f0),.int .i64 ((rd_T50 l0 x10_1).f4.f1),.string ((rd_T50 l0 x10_1).f4.f2),.slice A247_13 ((rd_T50 l0 x10_1).f4.f3).length c247_13,.int .i64 ((rd_T50 l0 x10_1).f5.f0),.int .i64 ((rd_T50 l0 x10_1).f5.f1),.string ((rd_T50 l0 x10_1).f5.f2),.slice A247_17 ((rd_T50 l0 x10_1).f5.f3).length c247_17,.slice A247_18 ((rd_T50 l0 x10_1).f6).length c247_18] 50 (0,0))) := ⟨(by rw [hw];exact (by refine kX ?_;refine blk_put (cs := #[.int .i64 ((rd_T50 l0 x10_1).f0),.string ((rd_T50 l0 x10_1).f1),.int .i64 ((rd_T50 l0 x10_1).f2.f0),.int .i64 ((rd_T50 l0 x10_1).f2.f1),.string ((rd_T50 l0 x10_1).f2.f2),.slice A247_5 ((rd_T50 l0 x10_1).f2.f3).length c247_5,.int .i64 ((rd_T50 l0 x10_1).f3.f0),.int .i64 ((rd_T50 l0 x10_1).f3.f1),.string ((rd_T50 l0 x10_1).f3.f2),.slice A247_9 ((rd_T50 l0 x10_1).f3.f3).length c247_9,.int .i64 ((rd_T50 l0 x10_1).f4.f0),.int .i64 ((rd_T50 l0 x10_1).f4.f1),.string ((rd_T50 l0 x10_1).f4.f2),.slice A247_13 ((rd_T50 l0 x10_1).f4.f3).length c247_13,.int .i64 ((rd_T50 l0 x10_1).f5.f0),.int .i64 ((rd_T50 l0 x10_1).f5.f1),.string ((rd_T50 l0 x10_1).f5.f2),.slice A247_17 ((rd_T50 l0 x10_1).f5.f3).length c247_17,.slice none 0 0]) ?_ 18 _ rfl;refine kX ?_;refine blk_put (cs := #[.int .i64 ((rd_T50 l0 x10_1).f0),.string ((rd_T50 l0 x10_1).f1),.int .i64 ((rd_T50 l0 x10_1).f2.f0),.int .i64 ((rd_T50 l0 x10_1).f2.f1),.string ((rd_T50 l0 x10_1).f2.f2),.slice A247_5 ((rd_T50 l0 x10_1).f2.f3).length c247_5,.int .i64 ((rd_T50 l0 x10_1).f3.f0),.int .i64 ((rd_T50 l0 x10_1).f3.f1),.string ((rd_T50 l0 x10_1).f3.f2),.slice A247_9 ((rd_T50 l0 x10_1).f3.f3).length c247_9,.int .i64 ((rd_T50 l0 x10_1).f4.f0),.int .i64 ((rd_T50 l0 x10_1).f4.f1),.string ((rd_T50 l0 x10_1).f4.f2),.slice A247_13 ((rd_T50 l0 x10_1).f4.f3).length c247_13,.int .i64 ((rd_T50 l0 x10_1).f5.f0),.int .i64 ((rd_T50 l0 x10_1).f5.f1),.string ((rd_T50 l0 x10_1).f5.f2),.slice none 0 0,.slice none 0 0]) ?_ 17 _ rfl;refine kX ?_;refine blk_put (cs := #[.int .i64 ((rd_T50 l0 x10_1).f0),.string ((rd_T50 l0 x10_1).f1),.int .i64 ((rd_T50 l0 x10_1).f2.f0),.int .i64 ((rd_T50 l0 x10_1).f2.f1),.string ((rd_T50 l0 x10_1).f2.f2),.slice A247_5 ((rd_T50 l0 x10_1).f2.f3).length c247_5,.int .i64 ((rd_T50 l0 x10_1).f3.f0),.int .i64 ((rd_T50 l0 x10_1).f3.f1),.string ((rd_T50 l0 x10_1).f3.f2),.slice A247_9 ((rd_T50 l0 x10_1).f3.f3).length c247_9,.int .i64 ((rd_T50 l0 x10_1).f4.f0),.int .i64 ((rd_T50 l0 x10_1).f4.f1),.string ((rd_T50 l0 x10_1).f4.f2),.slice A247_13 ((rd_T50 l0 x10_1).f4.f3).length c247_13,.int .i64 ((rd_T50 l0 x10_1).f5.f0),.int .i64 ((rd_T50 l0 x10_1).f5.f1),.string (⟨#[]⟩ : ByteArray),.slice none 0 0,.slice none 0 0]) ?_ 16 _ rfl;refine kX ?_;refine blk_put (cs := #[.int .i64 ((rd_T50 l0 x10_1).f0),.string ((rd_T50 l0 x10_1).f1),.int .i64 ((rd_T50 l0 x10_1).f2.f0),.int .i64 ((rd_T50 l0 x10_1).f2.f1),.string ((rd_T50 l0 x10_1).f2.f2),.slice A247_5 ((rd_T50 l0 x10_1).f2.f3).length c247_5,.int .i64 ((rd_T50 l0 x10_1).f3.f0),.int .i64 ((rd_T50 l0 x10_1).f3.f1),.string ((rd_T50 l0 x10_1).f3.f2),.slice A247_9 ((rd_T50 l0 x10_1).f3.f3).length c247_9,.int .i64 ((rd_T50 l0 x10_1).f4.f0),.int .i64 ((rd_T50 l0 x10_1).f4.f1),.string ((rd_T50 l0 x10_1).f4.f2),.slice A247_13 ((rd_T50 l0 x10_1).f4.f3).length c247_13,.int .i64 ((rd_T50 l0 x10_1).f5.f0),.int .i64 0,.string (⟨#[]⟩ : ByteArray),.slice none 0 0,.slice none 0 0]) ?_ 15 _ rfl;refine kX ?_;refine blk_put (cs := #[.int .i64 ((rd_T50 l0 x10_1).f0),.string ((rd_T50 l0 x10_1).f1),.int .i64 ((rd_T50 l0 x10_1).f2.f0),.int .i64 ((rd_T50 l0 x10_1).f2.f1),.string ((rd_T50 l0 x10_1).f2.f2),.slice A247_5 ((rd_T50 l0 x10_1).f2.f3).length c247_5,.int .i64 ((rd_T50 l0 x10_1).f3.f0),.int .i64 ((rd_T50 l0 x10_1).f3.f1),.string ((rd_T50 l0 x10_1).f3.f2),.slice A247_9 ((rd_T50 l0 x10_1).f3.f3).length c247_9,.int .i64 ((rd_T50 l0 x10_1).f4.f0),.int .i64 ((rd_T50 l0 x10_1).f4.f1),.string ((rd_T50 l0 x10_1).f4.f2),.slice A247_13 ((rd_T50 l0 x10_1).f4.f3).length c247_13,.int .i64 0,.int .i64 0,.string (⟨#[]⟩ : ByteArray),.slice none 0 0,.slice none 0 0]) ?_ 14 _ rfl;refine kX ?_;refine blk_put (cs := #[.int .i64 ((rd_T50 l0 x10_1).f0),.string ((rd_T50 l0 x10_1).f1),.int .i64 ((rd_T50 l0 x10_1).f2.f0),.int .i64 ((rd_T50 l0 x10_1).f2.f1),.string ((rd_T50 l0 x10_1).f2.f2),.slice A247_5 ((rd_T50 l0 x10_1).f2.f3).length c247_5,.int .i64 ((rd_T50 l0 x10_1).f3.f0),.int .i64 ((rd_T50 l0 x10_1).f3.f1),.string ((rd_T50 l0 x10_1).f3.f2),.slice A247_9 ((rd_T50 l0 x10_1).f3.f3).length c247_9,.int .i64 ((rd_T50 l0 x10_1).f4.f0),.int .i64 ((rd_T50 l0 x10_1).f4.f1),.string ((rd_T50 l0 x10_1).f4.f2),.slice none 0 0,.int .i64 0,.int .i64 0,.string (⟨#[]⟩ : ByteArray),.slice none 0 0,.slice none 0 0]) ?_ 13 _ rfl;refine kX ?_;refine blk_put (cs := #[.int .i64 ((rd_T50 l0 x10_1).f0),.string ((rd_T50 l0 x10_1).f1),.int .i64 ((rd_T50 l0 x10_1).f2.f0),.int .i64 ((rd_T50 l0 x10_1).f2.f1),.string ((rd_T50 l0 x10_1).f2.f2),.slice A247_5 ((rd_T50 l0 x10_1).f2.f3).length c247_5,.int .i64 ((rd_T50 l0 x10_1).f3.f0),.int .i64 ((rd_T50 l0 x10_1).f3.f1),.string ((rd_T50 l0 x10_1).f3.f2),.slice A247_9 ((rd_T50 l0 x10_1).f3.f3).length c247_9,.int .i64 ((rd_T50 l0 x10_1).f4.f0),.int .i64 ((rd_T50 l0 x10_1).f4.f1),.string (⟨#[]⟩ : ByteArray),.slice none 0 0,.int .i64 0,.int .i64 0,.string (⟨#[]⟩ : ByteArray),.slice none 0 0,.slice none 0 0]) ?_ 12 _ rfl;refine kX ?_;refine blk_put (cs := #[.int .i64 ((rd_T50 l0 x10_1).f0),.string ((rd_T50 l0 x10_1).f1),.int .i64 ((rd_T50 l0 x10_1).f2.f0),.int .i64 ((rd_T50 l0 x10_1).f2.f1),.string ((rd_T50 l0 x10_1).f2.f2),.slice A247_5 ((rd_T50 l0 x10_1).f2.f3).length c247_5,.int .i64 ((rd_T50 l0 x10_1).f3.f0),.int .i64 ((rd_T50 l0 x10_1).f3.f1),.string ((rd_T50 l0 x10_1).f3.f2),.slice A247_9 ((rd_T50 l0 x10_1).f3.f3).length c247_9,.int .i64 ((rd_T50 l0 x10_1).f4.f0),.int .i64 0,.string (⟨#[]⟩ : ByteArray),.slice none 0 0,.int .i64 0,.int .i64 0,.string (⟨#[]⟩ : ByteArray),.slice none 0 0,.slice none 0 0]) ?_ 11 _ rfl;refine kX ?_;refine blk_put (cs := #[.int .i64 ((rd_T50 l0 x10_1).f0),.string ((rd_T50 l0 x10_1).f1),.int .i64 ((rd_T50 l0 x10_1).f2.f0),.int .i64 ((rd_T50 l0 x10_1).f2.f1),.string ((rd_T50 l0 x10_1).f2.f2),.slice A247_5 ((rd_T50 l0 x10_1).f2.f3).length c247_5,.int .i64 ((rd_T50 l0 x10_1).f3.f0),.int .i64 ((rd_T50 l0 x10_1).f3.f1),.string ((rd_T50 l0 x10_1).f3.f2),.slice A247_9 ((rd_T50 l0 x10_1).f3.f3).length c247_9,.int .i64 0,.int .i64 0,.string (⟨#[]⟩ : ByteArray),.slice none 0 0,.int .i64 0,.int .i64 0,.string (⟨#[]⟩ : ByteArray),.slice none 0 0,.slice none 0 0]) ?_ 10 _ rfl;refine kX ?_;refine blk_put (cs := #[.int .i64 ((rd_T50 l0 x10_1).f0),.string ((rd_T50 l0 x10_1).f1),.int .i64 ((rd_T50 l0 x10_1).f2.f0),.int .i64 ((rd_T50 l0 x10_1).f2.f1),.string ((rd_T50 l0 x10_1).f2.f2),.slice A247_5 ((rd_T50 l0 x10_1).f2.f3).length c247_5,.int .i64 ((rd_T50 l0 x10_1).f3.f0),.int .i64 ((rd_T50 l0 x10_1).f3.f1),.string ((rd_T50 l0 x10_1).f3.f2),.slice none 0 0,.int .i64 0,.int .i64 0,.string (⟨#[]⟩ : ByteArray),.slice none 0 0,.int .i64 0,.int .i64 0,.string (⟨#[]⟩ : ByteArray),.slice none 0 0,.slice none 0 0]) ?_ 9 _ rfl;refine kX ?_;refine blk_put (cs := #[.int .i64 ((rd_T50 l0 x10_1).f0),.string ((rd_T50 l0 x10_1).f1),.int .i64 ((rd_T50 l0 x10_1).f2.f0),.int .i64 ((rd_T50 l0 x10_1).f2.f1),.string ((rd_T50 l0 x10_1).f2.f2),.slice A247_5 ((rd_T50 l0 x10_1).f2.f3).length c247_5,.int .i64 ((rd_T50 l0 x10_1).f3.f0),.int .i64 ((rd_T50 l0 x10_1).f3.f1),.string (⟨#[]⟩ : ByteArray),.slice none 0 0,.int .i64 0,.int .i64 0,.string (⟨#[]⟩ : ByteArray),.slice none 0 0,.int .i64 0,.int .i64 0,.string (⟨#[]⟩ : ByteArray),.slice none 0 0,.slice none 0 0]) ?_ 8 _ rfl;refine kX ?_;refine blk_put (cs := #[.int .i64 ((rd_T50 l0 x10_1).f0),.string ((rd_T50 l0 x10_1).f1),.int .i64 ((rd_T50 l0 x10_1).f2.f0),.int .i64 ((rd_T50 l0 x10_1).f2.f1),.string ((rd_T50 l0 x10_1).f2.f2),.slice A247_5 ((rd_T50 l0 x10_1).f2.f3).length c247_5,.int .i64 ((rd_T50 l0 x10_1).f3.f0),.int .i64 0,.string (⟨#[]⟩ : ByteArray),.slice none 0 0,.int .i64 0,.int .i64 0,.string (⟨#[]⟩ : ByteArray),.slice none 0 0,.int .i64 0,.int .i64 0,.string (⟨#[]⟩ : ByteArray),.slice none 0 0,.slice none 0 0]) ?_ 7 _ rfl;refine kX ?_;refine blk_put (cs := #[.int .i64 ((rd_T50 l0 x10_1).f0),.string ((rd_T50 l0 x10_1).f1),.int .i64 ((rd_T50 l0 x10_1).f2.f0),.int .i64 ((rd_T50 l0 x10_1).f2.f1),.string ((rd_T50 l0 x10_1).f2.f2),.slice A247_5 ((rd_T50 l0 x10_1).f2.f3).length c247_5,.int .i64 0,.int .i64 0,.string (⟨#[]⟩ : ByteArray),.slice none 0 0,.int .i64 0,.int .i64 0,.string (⟨#[]⟩ : ByteArray),.slice none 0 0,.int .i64 0,.int .i64 0,.string (⟨#[]⟩ : ByteArray),.slice none 0 0,.slice none 0 0]) ?_ 6 _ rfl;refine kX ?_;refine blk_put (cs := #[.int .i64 ((rd_T50 l0 x10_1).f0),.string ((rd_T50 l0 x10_1).f1),.int .i64 ((rd_T50 l0 x10_1).f2.f0),.int .i64 ((rd_T50 l0 x10_1).f2.f1),.string ((rd_T50 l0 x10_1).f2.f2),.slice none 0 0,.int .i64 0,.int .i64 0,.string (⟨#[]⟩ : ByteArray),.slice none 0 0,.int .i64 0,.int .i64 0,.string (⟨#[]⟩ : ByteArray),.slice none 0 0,.int .i64 0,.int .i64 0,.string (⟨#[]⟩ : ByteArray),.slice none 0 0,.slice none 0 0]) ?_ 5 _ rfl;refine kX ?_;refine blk_put (cs := #[.int .i64 ((rd_T50 l0 x10_1).f0),.string ((rd_T50 l0 x10_1).f1),.int .i64 ((rd_T50 l0 x10_1).f2.f0),.int .i64 ((rd_T50 l0 x10_1).f2.f1),.string (⟨#[]⟩ : ByteArray),.slice none 0 0,.int .i64 0,.int .i64 0,.string (⟨#[]⟩ : ByteArray),.slice none 0 0,.int .i64 0,.int .i64 0,.string (⟨#[]⟩ : ByteArray),.slice none 0 0,.int .i64 0,.int .i64 0,.string (⟨#[]⟩ : ByteArray),.slice none 0 0,.slice none 0 0]) ?_ 4 _ rfl;refine kX ?_;refine blk_put (cs := #[.int .i64 ((rd_T50 l0 x10_1).f0),.string ((rd_T50 l0 x10_1).f1),.int .i64 ((rd_T50 l0 x10_1).f2.f0),.int .i64 0,.string (⟨#[]⟩ : ByteArray),.slice none 0 0,.int .i64 0,.int .i64 0,.string (⟨#[]⟩ : ByteArray),.slice none 0 0,.int .i64 0,.int .i64 0,.string (⟨#[]⟩ : ByteArray),.slice none 0 0,.int .i64 0,.int .i64 0,.string (⟨#[]⟩ : ByteArray),.slice none 0 0,.slice none 0 0]) ?_ 3 _ rfl;refine kX ?_;refine blk_put (cs := #[.int .i64 ((rd_T50 l0 x10_1).f0),.string ((rd_T50 l0 x10_1).f1),.int .i64 0,.int .i64 0,.string (⟨#[]⟩ : ByteArray),.slice none 0 0,.int .i64 0,.int .i64 0,.string (⟨#[]⟩ : ByteArray),.slice none 0 0,.int .i64 0,.int .i64 0,.string (⟨#[]⟩ : ByteArray),.slice none 0 0,.int .i64 0,.int .i64 0,.string (⟨#[]⟩ : ByteArray),.slice none 0 0,.slice none 0 0]) ?_ 2 _ rfl;refine kX ?_;refine blk_put (cs := #[.int .i64 ((rd_T50 l0 x10_1).f0),.string (⟨#[]⟩ : ByteArray),.int .i64 0,.int .i64 0,.string (⟨#[]⟩ : ByteArray),.slice none 0 0,.int .i64 0,.int .i64 0,.string (⟨#[]⟩ : ByteArray),.slice none 0 0,.int .i64 0,.int .i64 0,.string (⟨#[]⟩ : ByteArray),.slice none 0 0,.int .i64 0,.int .i64 0,.string (⟨#[]⟩ : ByteArray),.slice none 0 0,.slice none 0 0]) ?_ 1 _ rfl;refine kX ?_;refine blk_put (cs := #[.int .i64 0,.string (⟨#[]⟩ : ByteArray),.int .i64 0,.int .i64 0,.string (⟨#[]⟩ : ByteArray),.slice none 0 0,.int .i64 0,.int .i64 0,.string (⟨#[]⟩ : ByteArray),.slice none 0 0,.int .i64 0,.int .i64 0,.string (⟨#[]⟩ : ByteArray),.slice none 0 0,.int .i64 0,.int .i64 0,.string (⟨#[]⟩ : ByteArray),.slice none 0 0,.slice none 0 0]) ?_ 0 _ rfl;exact kX BK248.out))⟩;have n1_ : Aside0 (Below w.heap.size w w7) := ⟨(by rw [hw];exact (by repeat (first|(with_reducible first|exact HB.out|apply bA|apply bN|apply bD|refine bS ?_ GE248.out)|exact HB.out)))⟩;clear hw;clear BK248;clear HB;have BK248 := n0_;have HB := n1_;clear n0_ n1_)|((with_reducible refine gate_dst (N := 16) rfl ?_);refine ldOne rfl 48 _ rfl gb248 18 rfl (l := [.int .i64 ((rd_T50 l0 x10_1).f0),.string ((rd_T50 l0 x10_1).f1),.int .i64 ((rd_T50 l0 x10_1).f2.f0),.int .i64 ((rd_T50 l0 x10_1).f2.f1),.string ((rd_T50 l0 x10_1).f2.f2),.slice A247_5 ((rd_T50 l0 x10_1).f2.f3).length c247_5,.int .i64 ((rd_T50 l0 x10_1).f3.f0),.int .i64 ((rd_T50 l0 x10_1).f3.f1),.string ((rd_T50 l0 x10_1).f3.f2),.slice A247_9 ((rd_T50 l0 x10_1).f3.f3).length c247_9,.int .i64 ((rd_T50 l0 x10_1).f4.f0),.int .i64 ((rd_T50 l0 x10_1).f4.f1),.string ((rd_T50 l0 x10_1).f4.f2),.slice A247_13 ((rd_T50 l0 x10_1).f4.f3).length c247_13,.int .i64 ((rd_T50 l0 x10_1).f5.f0),.int .i64 ((rd_T50 l0 x10_1).f5.f1),.string ((rd_T50 l0 x10_1).f5.f2),.slice A247_17 ((rd_T50 l0 x10_1).f5.f3).length c247_17,.slice A247_18 ((rd_T50 l0 x10_1).f6).length c247_18]) (tb := 50) (by exact kX BK248.out) (.slice A247_18 ((rd_T50 l0 x10_1).f6).length c247_18) rfl (fun _ => by kernel_rfl) ?_)|((with_reducible refine gate_callee (f := 40) rfl ?_);refine goesL_ (some 17) rfl rfl Try.func40 (by kernel_rfl) rfl #[.slice A247_18 ((rd_T50 l0 x10_1).f6).length c247_18] rfl (by (try simp only [List.map_toArray,List.map_cons,List.map_nil]);first|done|rfl) ?_;(with_reducible refine (ih k1 (by have := HK1.out;omega) _ _ ((rd_T50 l0 x10_1).f6) t249 _ ?side1 ?side2 A5.out).mono ?_);(case side1 => repeat (first|exact (Kd.C_below HR247_18.out HB.out)|(with_reducible refine cA ?_ _)|(with_reducible refine cN ?_ _)|(with_reducible refine cD ?_)));(case side2 => exact HC247_18.out);rintro e w8 ⟨rfl,hb⟩;refine ⟨_,rfl,?_⟩;have n0_ := mk0 (blk_below (by exact kX BK248.out) hb);have n1_ := mk0 (below_step (by repeat (first|(with_reducible first|exact HB.out|apply bA|apply bN|apply bD|refine bS ?_ GE248.out)|exact HB.out)) hb);clear BK248;clear HB;have BK248 := n0_;have HB := n1_;clear n0_ n1_;(try clear hb);(try clear hb2);(try clear hk);(try clear hi)))
      go_roundg k1
      case measure => have := HK1.out;omega
      case rel => exact ⟨(wrap64 (x3_1 + t249)),(wrap64 (x10_1 + 1)),(by first|rfl|(simp;done)|(simp [*];done)),(by first|rfl|(simp;done)|(simp [*];done)),H',⟨by have := HK1.out;omega⟩,⟨by repeat (first|(with_reducible first|exact HB.out|apply bA|apply bN|apply bD|refine bS ?_ GE248.out)|exact HB.out)⟩⟩
     ·rw [if_neg c4] at H
      exact absurd H (by simp)
    ·rw [if_neg c3] at H
     exact absurd H (by simp)
   ·rw [if_neg c2] at H
    have c2b0 : decide (x10_1 < (l0.length : Int)) = false := decide_eq_false c2
    clear c2
    obtain rfl := Option.some.inj H
    go_wp2
    go_ret
    exact ⟨by first|rfl|(simp [errW_none,errW_some] <;> rfl)|(simp [*,errW_none,errW_some] <;> rfl),by repeat (first|(with_reducible first|exact HB.out|apply bA|apply bN|apply bD)|exact HB.out)⟩

/-! ### impl_inRange: function 56 -/
def impl_inRange.f (a0 : Int) (a1 : Int) (a2 : Int) : Option (Bool) := if a0 ≥ a1 then (some (decide (a0 ≤ a2))) else (some false)
set_option maxHeartbeats 8000000 in
set_option maxRecDepth 100000 in
theorem impl_inRange.calls (a0 : Int) (a1 : Int) (a2 : Int) (r : Bool) (w : World) (h : impl_inRange.f a0 a1 a2 = some r) :
  Calls Try.prog 56 #[.int .i64 a0, .int .i64 a1, .int .i64 a2] w fun e w' => e = .returned (.bool r) ∧ Drawn0 w w' := by
 have H : (if a0 ≥ a1 then (some (decide (a0 ≤ a2))) else (some false)) = some r := h
 clear h
 by_cases c4 : a0 ≥ a1
 ·rw [if_pos c4] at H
  have c4b0 : decide (a1 ≤ a0) = true := decide_eq_true c4
  clear c4
  obtain rfl := Option.some.inj H
  go_enter Try.func56,Try.ntmps56
  go_wp2
  go_ret
  exact ⟨by first|rfl|(simp;done)|(simp [*];done),by repeat (first|exact Drawn0.refl _|apply Drawn0.step)⟩
 ·rw [if_neg c4] at H
  have c4b0 : decide (a1 ≤ a0) = false := decide_eq_false c4
  clear c4
  obtain rfl := Option.some.inj H
  go_enter Try.func56,Try.ntmps56
  go_wp2
  go_ret
  exact ⟨by first|rfl|(simp;done)|(simp [*];done),by repeat (first|exact Drawn0.refl _|apply Drawn0.step)⟩
end Go.Proofs.Ytmmdgciefehbcaa.PFnExactStmtOk
