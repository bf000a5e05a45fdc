/- The row of the law FnExactSameStmt: whatever is handed to it, it answers true and what it is handed reads behind the call as before. Conditions: none beside the row's own. -/
import Derived.Test.YtmmdgciefehbcaaRows
import Derived.Test.YtmmdgciefehbcaaVFnExactSameStmt
import Derived.Test.YtmmdgciefehbcaaWSized
import Derived.Test.YtmmdgciefehbcaaPFnExactSameStmtx8
import Derived.Test.YtmmdgciefehbcaaPureFnExactSameStmt
import Derived.WalkKit
import Derived.ProofKit
import Derived.OpenShut
import Derived.ShutString
import Derived.ChangeOld
import Derived.Below
import Derived.SizedLaws
namespace Go.Proofs.Ytmmdgciefehbcaa.fnExactSameStmt
open Go.ChangeShapes Go.WideShapes Go.ChangeAt Go.RowKit Go.Proofs.Ytmmdgciefehbcaa.PFnExactSameStmt Go.Proofs.YtmmdgciefehbcaaW.PrintWords Go.Proofs.Ytmmdgciefehbcaa.Opn
open Go.ChangeMaps (open_string shut_string)
set_option linter.unusedVariables false
theorem own : ownKnob Try.prog.godebug = none := by kernel_rfl
theorem laidOut : laidOutB Try.prog = true := by kernel_rfl
instance : Inhabited S24 := ⟨z24⟩
theorem opnB24 {H : Type} {enc : TypeId × Value → H} {w : World} {spare : Nat → Bool} {held : Bool} : ∀ m, OpnB m enc Try.prog w spare held 24 k24 Pure.GoodE
  | 0 => opnB_zero
  | m + 1 => by
    have ih := opnB24 (enc := enc) (w := w) (spare := spare) (held := held) m
    intro fuel hf cs x hx
    obtain ⟨⟨y0, y1, y2, y3⟩, hk, q0, q1, q2, q3⟩ := opnB_struct0 Try.underlying24 (by kernel_rfl) (opnFB_cons rfl (by kernel_rfl) ((opn_int Try.underlying3).b m) (opnFB_cons rfl (by kernel_rfl) ((opn_int Try.underlying3).b m) (opnFB_cons rfl (by kernel_rfl) ((opn_string Try.underlying9).b m) (opnFB_one rfl (by kernel_rfl) (opnB_slice Try.underlying22 (by kernel_rfl) ih))))) fuel hf cs x hx
    obtain ⟨_, _, e0, rfl, ⟨_, _, rfl, rfl, ⟨_, _, rfl, rfl, ⟨A3, c3, rfl, hc3, hr3⟩⟩⟩⟩ := hk
    obtain rfl := e0
    exact ⟨⟨y0, y1, y2, y3⟩, k24_mk w ⟨y0, y1, y2, y3⟩ hc3 hr3, .mk _ q2 q3.1 q3.2⟩
instance : Inhabited S45 := ⟨z45⟩
theorem opnB45 {H : Type} {enc : TypeId × Value → H} {w : World} {spare : Nat → Bool} {held : Bool} : ∀ m, OpnB m enc Try.prog w spare held 45 k45 Pure.GoodS
  | 0 => opnB_zero
  | m + 1 => by
    have ih := opnB45 (enc := enc) (w := w) (spare := spare) (held := held) m
    intro fuel hf cs x hx
    obtain ⟨⟨y0, y1, y2, y3, y4, y5, y6⟩, hk, q0, q1, q2, q3, q4, q5, q6⟩ := opnB_struct0 Try.underlying45 (by kernel_rfl) (opnFB_cons rfl (by kernel_rfl) ((opn_int Try.underlying3).b m) (opnFB_cons rfl (by kernel_rfl) ((opn_string Try.underlying9).b m) (opnFB_cons rfl (by kernel_rfl) ((Opn.of_b opnB24).b m) (opnFB_cons rfl (by kernel_rfl) ((Opn.of_b opnB24).b m) (opnFB_cons rfl (by kernel_rfl) ((Opn.of_b opnB24).b m) (opnFB_cons rfl (by kernel_rfl) ((Opn.of_b opnB24).b m) (opnFB_one rfl (by kernel_rfl) (opnB_slice Try.underlying43 (by kernel_rfl) ih)))))))) fuel hf cs x hx
    obtain ⟨_, _, e0, rfl, ⟨_, _, rfl, rfl, ⟨_, _, rfl, s2, ⟨_, _, rfl, s3, ⟨_, _, rfl, s4, ⟨_, _, rfl, s5, ⟨A18, c18, rfl, hc18, hr18⟩⟩⟩⟩⟩⟩⟩ := hk
    obtain ⟨A17, c17, rfl, hc17, hr17⟩ := k24_open s5
    obtain ⟨A13, c13, rfl, hc13, hr13⟩ := k24_open s4
    obtain ⟨A9, c9, rfl, hc9, hr9⟩ := k24_open s3
    obtain ⟨A5, c5, rfl, hc5, hr5⟩ := k24_open s2
    obtain rfl := e0
    exact ⟨⟨y0, y1, y2, y3, y4, y5, y6⟩, k45_mk w ⟨y0, y1, y2, y3, y4, y5, y6⟩ hc5 hr5 hc9 hr9 hc13 hr13 hc17 hr17 hc18 hr18, .mk _ q1 q2 q3 q4 q5 q6.1 q6.2⟩
set_option maxRecDepth 100000 in
theorem lifted (os : Os) (started : os.Started) (H : Type) (enc : TypeId × Value → H) :
    ReturnsInHanded {} Try.checked os 6 .any (Rows.fnExactSameStmtSpec.pre6 enc Try.prog Try.f6 Rows.fnExactSameStmtRow.domain false) (Rows.fnExactSameStmtSpec.post enc Try.prog Try.f6 false true false false) := by
  refine returnsInHanded_of_change_sized (C := Try.checked) own started (by kernel_rfl) Try.func6
    (ChangeSpec.witness6 (enc := enc) (C := Try.checked) false ⟨#[], #[.agg #[.int .i64 0, .string ByteArray.empty, .int .i64 0, .int .i64 0, .string ByteArray.empty, .slice none 0 0, .int .i64 0, .int .i64 0, .string ByteArray.empty, .slice none 0 0, .int .i64 0, .int .i64 0, .string ByteArray.empty, .slice none 0 0, .int .i64 0, .int .i64 0, .string ByteArray.empty, .slice none 0 0, .slice none 0 0], .agg #[.int .i64 0, .string ByteArray.empty, .int .i64 0, .int .i64 0, .string ByteArray.empty, .slice none 0 0, .int .i64 0, .int .i64 0, .string ByteArray.empty, .slice none 0 0, .int .i64 0, .int .i64 0, .string ByteArray.empty, .slice none 0 0, .int .i64 0, .int .i64 0, .string ByteArray.empty, .slice none 0 0, .slice none 0 0]], []⟩ 8 (by kernel_rfl) (by kernel_rfl) (by kernel_rfl) (by kernel_rfl)) ?_
  intro W base args ds gs before hval0 hW hcnd hsz0 _
  have hval : ∀ (j : Nat) t v, Try.f6.params[j]? = some t → args[j]? = some v → Value.okWide Try.prog W .any base t v := hval0
  have hW' := hW
  obtain ⟨p, q, hA0, hV, rfl, hfz, hnd⟩ := hW
  have hA : DataW.TrodAll enc Try.prog W 0 (fun _ => true) true Try.f6.params.toList args.toList ds p := hA0
  rw [Try.params6] at hA hval
  obtain ⟨v0, vs0, d0, ds0, p0, q0, hargs, rfl, rfl, h0, r0⟩ := trodAll_cons hA
  obtain ⟨v1, vs1, d1, ds1, p1, q1, rfl, rfl, rfl, h1, r1⟩ := trodAll_cons r0
  obtain ⟨rfl, rfl, rfl⟩ := trodAll_nil r1
  obtain rfl : args = #[v0, v1] := by cases args; simp_all
  obtain ⟨rfl, rfl⟩ := trodVars_none hV
  obtain ⟨cs0, rfl, _⟩ := okWide_struct Try.underlying45 (hval 0 45 v0 rfl rfl)
  have k0 := h0
  have lt0 : ∀ x ∈ p0, x.block < W.heap.size := by obtain ⟨m, hm⟩ := k0; exact DataW.trod_lt m _ _ _ hm
  obtain ⟨fuel0, hf0⟩ := h0
  obtain ⟨x0, hx0, hq0⟩ := ((opn_struct0 Try.underlying45 (by kernel_rfl) (opnF_cons rfl (by kernel_rfl) (opn_int Try.underlying3) (opnF_cons rfl (by kernel_rfl) (opn_string Try.underlying9) (opnF_cons rfl (by kernel_rfl) (Opn.of_b opnB24) (opnF_cons rfl (by kernel_rfl) (Opn.of_b opnB24) (opnF_cons rfl (by kernel_rfl) (Opn.of_b opnB24) (opnF_cons rfl (by kernel_rfl) (Opn.of_b opnB24) (opnF_one rfl (by kernel_rfl) (opn_slice Try.underlying43 (by kernel_rfl) (Opn.of_b opnB45)))))))))) : Opn enc Try.prog W (fun _ => true) true 45 (Kd.pair (Kd.int .i64) (Kd.pair Kd.string (Kd.pair k24 (Kd.pair k24 (Kd.pair k24 (Kd.pair k24 (Kd.slice 45 k45))))))) _) _ _ _ hf0
  obtain ⟨x0_0, x0_1, x0_2, x0_3, x0_4, x0_5, x0_6⟩ := x0
  obtain ⟨_, _, e0, rfl, ⟨_, _, rfl, rfl, ⟨_, _, rfl, s0_2, ⟨_, _, rfl, s0_3, ⟨_, _, rfl, s0_4, ⟨_, _, rfl, s0_5, ⟨A0_18, c0_18, rfl, hc0_18, hr0_18⟩⟩⟩⟩⟩⟩⟩ := hx0
  obtain ⟨A0_17, c0_17, rfl, hc0_17, hr0_17⟩ := k24_open s0_5
  obtain ⟨A0_13, c0_13, rfl, hc0_13, hr0_13⟩ := k24_open s0_4
  obtain ⟨A0_9, c0_9, rfl, hc0_9, hr0_9⟩ := k24_open s0_3
  obtain ⟨A0_5, c0_5, rfl, hc0_5, hr0_5⟩ := k24_open s0_2
  obtain rfl : cs0 = #[.int .i64 x0_0, .string x0_1, .int .i64 x0_2.f0, .int .i64 x0_2.f1, .string x0_2.f2, .slice A0_5 x0_2.f3.length c0_5, .int .i64 x0_3.f0, .int .i64 x0_3.f1, .string x0_3.f2, .slice A0_9 x0_3.f3.length c0_9, .int .i64 x0_4.f0, .int .i64 x0_4.f1, .string x0_4.f2, .slice A0_13 x0_4.f3.length c0_13, .int .i64 x0_5.f0, .int .i64 x0_5.f1, .string x0_5.f2, .slice A0_17 x0_5.f3.length c0_17, .slice A0_18 x0_6.length c0_18] := Array.toList_inj.1 (by simpa [Value.cells] using e0)
  obtain ⟨cs1, rfl, _⟩ := okWide_struct Try.underlying45 (hval 1 45 v1 rfl rfl)
  have k1 := h1
  have lt1 : ∀ x ∈ p1, x.block < W.heap.size := by obtain ⟨m, hm⟩ := k1; exact DataW.trod_lt m _ _ _ hm
  obtain ⟨fuel1, hf1⟩ := h1
  obtain ⟨x1, hx1, hq1⟩ := ((opn_struct0 Try.underlying45 (by kernel_rfl) (opnF_cons rfl (by kernel_rfl) (opn_int Try.underlying3) (opnF_cons rfl (by kernel_rfl) (opn_string Try.underlying9) (opnF_cons rfl (by kernel_rfl) (Opn.of_b opnB24) (opnF_cons rfl (by kernel_rfl) (Opn.of_b opnB24) (opnF_cons rfl (by kernel_rfl) (Opn.of_b opnB24) (opnF_cons rfl (by kernel_rfl) (Opn.of_b opnB24) (opnF_one rfl (by kernel_rfl) (opn_slice Try.underlying43 (by kernel_rfl) (Opn.of_b opnB45)))))))))) : Opn enc Try.prog W (fun _ => true) true 45 (Kd.pair (Kd.int .i64) (Kd.pair Kd.string (Kd.pair k24 (Kd.pair k24 (Kd.pair k24 (Kd.pair k24 (Kd.slice 45 k45))))))) _) _ _ _ hf1
  obtain ⟨x1_0, x1_1, x1_2, x1_3, x1_4, x1_5, x1_6⟩ := x1
  obtain ⟨_, _, e1, rfl, ⟨_, _, rfl, rfl, ⟨_, _, rfl, s1_2, ⟨_, _, rfl, s1_3, ⟨_, _, rfl, s1_4, ⟨_, _, rfl, s1_5, ⟨A1_18, c1_18, rfl, hc1_18, hr1_18⟩⟩⟩⟩⟩⟩⟩ := hx1
  obtain ⟨A1_17, c1_17, rfl, hc1_17, hr1_17⟩ := k24_open s1_5
  obtain ⟨A1_13, c1_13, rfl, hc1_13, hr1_13⟩ := k24_open s1_4
  obtain ⟨A1_9, c1_9, rfl, hc1_9, hr1_9⟩ := k24_open s1_3
  obtain ⟨A1_5, c1_5, rfl, hc1_5, hr1_5⟩ := k24_open s1_2
  obtain rfl : cs1 = #[.int .i64 x1_0, .string x1_1, .int .i64 x1_2.f0, .int .i64 x1_2.f1, .string x1_2.f2, .slice A1_5 x1_2.f3.length c1_5, .int .i64 x1_3.f0, .int .i64 x1_3.f1, .string x1_3.f2, .slice A1_9 x1_3.f3.length c1_9, .int .i64 x1_4.f0, .int .i64 x1_4.f1, .string x1_4.f2, .slice A1_13 x1_4.f3.length c1_13, .int .i64 x1_5.f0, .int .i64 x1_5.f1, .string x1_5.f2, .slice A1_17 x1_5.f3.length c1_17, .slice A1_18 x1_6.length c1_18] := Array.toList_inj.1 (by simpa [Value.cells] using e1)
  clear hA0 hval0 hsz0
  obtain ⟨k, hk⟩ := Pure.FnExactSameStmt ⟨x0_0, x0_1, x0_2, x0_3, x0_4, x0_5, x0_6⟩ ⟨x1_0, x1_1, x1_2, x1_3, x1_4, x1_5, x1_6⟩ (.mk _ hq0.2.1 hq0.2.2.1 hq0.2.2.2.1 hq0.2.2.2.2.1 hq0.2.2.2.2.2.1 hq0.2.2.2.2.2.2.1 hq0.2.2.2.2.2.2.2) (.mk _ hq1.2.1 hq1.2.2.1 hq1.2.2.2.1 hq1.2.2.2.2.1 hq1.2.2.2.2.2.1 hq1.2.2.2.2.2.2.1 hq1.2.2.2.2.2.2.2)
  refine (laws_FnExactSameStmt.calls (r := true) (w := W) (hr0_5 := hr0_5) (hc0_5 := hc0_5) (hr0_9 := hr0_9) (hc0_9 := hc0_9) (hr0_13 := hr0_13) (hc0_13 := hc0_13) (hr0_17 := hr0_17) (hc0_17 := hc0_17) (hr0_18 := hr0_18) (hc0_18 := hc0_18) (hr1_5 := hr1_5) (hc1_5 := hc1_5) (hr1_9 := hr1_9) (hc1_9 := hc1_9) (hr1_13 := hr1_13) (hc1_13 := hc1_13) (hr1_17 := hr1_17) (hc1_17 := hc1_17) (hr1_18 := hr1_18) (hc1_18 := hc1_18) (h := hk)).mono fun e W' ⟨he, bel0⟩ => ?_
  have bel : Below W.heap.size W W' := by first | exact bel0 | exact bel0.below
  subst he
  exact ⟨_, rfl, _, _, _, [], _, [], hW', trodAll_mk1 (shut_bool Try.underlying4 _), (trodAll_cons_mk (Below.trod laidOut (by kernel_rfl) (of_decide_eq_true (by kernel_rfl)) k0 bel lt0) (trodAll_cons_mk (Below.trod laidOut (by kernel_rfl) (of_decide_eq_true (by kernel_rfl)) k1 bel lt1) trodAll_mk0)), rfl, bel.frame _, fun h => by cases h⟩
theorem over : Rows.fnExactSameStmtRow.holds Try.pinned (OpenSpec.ofChange Rows.fnExactSameStmtSpec) :=
  OpenClaim.holds_of_wide 6 Try.f6 rfl rfl rfl rfl rfl rfl rfl ⟨rfl, rfl, rfl, rfl, rfl⟩ rfl rfl rfl rfl rfl (by kernel_rfl) Try.func6 (by kernel_rfl)
    (of_decide_eq_true (by kernel_rfl)) (by unfold Func.isWrapper; first | (rw [if_pos (by decide +kernel)]; kernel_rfl) | (rw [if_neg (by decide +kernel)]; exact ⟨rfl, rfl⟩))
    (fun os started H enc _ => lifted os started H enc)
theorem proved : Rows.FnExactSameStmtSaid := over
#print axioms proved
end Go.Proofs.Ytmmdgciefehbcaa.fnExactSameStmt
namespace Go.Proofs.Ytmmdgciefehbcaa
/-- The row, under a short name, for the claim. -/
theorem fnExactSameStmt_holds : Rows.FnExactSameStmtSaid := fnExactSameStmt.proved
end Go.Proofs.Ytmmdgciefehbcaa
