/- The row of the law FnExactSameSto: whatever is handed to it, it answers true and what it is handed reads behind the call as before. Conditions: none beside the row's own. -/
import Derived.Test.YtmmdgciefehbcaaRows
import Derived.Test.YtmmdgciefehbcaaOpn
import Derived.Test.YtmmdgciefehbcaaWSized
import Derived.Test.YtmmdgciefehbcaaPFnExactSameStox5
import Derived.Test.YtmmdgciefehbcaaPureFnExactSameSto
import Derived.WalkKit
import Derived.ProofKit
import Derived.OpenShut
import Derived.ShutString
import Derived.ChangeOld
import Derived.Below
import Derived.SizedLaws
namespace Go.Proofs.Ytmmdgciefehbcaa.fnExactSameSto
open Go.ChangeShapes Go.WideShapes Go.ChangeAt Go.RowKit Go.Proofs.Ytmmdgciefehbcaa.PFnExactSameSto Go.Proofs.YtmmdgciefehbcaaW.PrintWords Go.Proofs.Ytmmdgciefehbcaa.Opn
open Go.ChangeMaps (open_string shut_string)
set_option linter.unusedVariables false
theorem own : ownKnob Try.prog.godebug = none := by kernel_rfl
theorem laidOut : laidOutB Try.prog = true := by kernel_rfl
set_option maxRecDepth 100000 in
theorem lifted (os : Os) (started : os.Started) (H : Type) (enc : TypeId × Value → H) :
    ReturnsInHanded {} Try.checked os 4 .any (Rows.fnExactSameStoSpec.pre6 enc Try.prog Try.f4 Rows.fnExactSameStoRow.domain false) (Rows.fnExactSameStoSpec.post enc Try.prog Try.f4 false true false false) := by
  refine returnsInHanded_of_change_sized (C := Try.checked) own started (by kernel_rfl) Try.func4
    (ChangeSpec.witness6 (enc := enc) (C := Try.checked) false ⟨#[], #[.agg #[.slice none 0 0, .slice none 0 0, .slice none 0 0, .int .i64 0], .agg #[.slice none 0 0, .slice none 0 0, .slice none 0 0, .int .i64 0]], []⟩ 8 (by kernel_rfl) (by kernel_rfl) (by kernel_rfl) (by kernel_rfl)) ?_
  intro W base args ds gs before hval0 hW hcnd hsz0 _
  have hval : ∀ (j : Nat) t v, Try.f4.params[j]? = some t → args[j]? = some v → Value.okWide Try.prog W .any base t v := hval0
  have hW' := hW
  obtain ⟨p, q, hA0, hV, rfl, hfz, hnd⟩ := hW
  have hA : DataW.TrodAll enc Try.prog W 0 (fun _ => true) true Try.f4.params.toList args.toList ds p := hA0
  rw [Try.params4] at hA hval
  obtain ⟨v0, vs0, d0, ds0, p0, q0, hargs, rfl, rfl, h0, r0⟩ := trodAll_cons hA
  obtain ⟨v1, vs1, d1, ds1, p1, q1, rfl, rfl, rfl, h1, r1⟩ := trodAll_cons r0
  obtain ⟨rfl, rfl, rfl⟩ := trodAll_nil r1
  obtain rfl : args = #[v0, v1] := by cases args; simp_all
  obtain ⟨rfl, rfl⟩ := trodVars_none hV
  obtain ⟨cs0, rfl, _⟩ := okWide_struct Try.underlying35 (hval 0 35 v0 rfl rfl)
  have k0 := h0
  have lt0 : ∀ x ∈ p0, x.block < W.heap.size := by obtain ⟨m, hm⟩ := k0; exact DataW.trod_lt m _ _ _ hm
  obtain ⟨fuel0, hf0⟩ := h0
  obtain ⟨x0, hx0, hq0⟩ := ((opn_struct0 Try.underlying35 (by kernel_rfl) (opnF_cons rfl (by kernel_rfl) (opn_slice Try.underlying32 (by kernel_rfl) (opn_slice Try.underlying33 (by kernel_rfl) (opn_int Try.underlying3))) (opnF_cons rfl (by kernel_rfl) (opn_slice Try.underlying33 (by kernel_rfl) (opn_int Try.underlying3)) (opnF_cons rfl (by kernel_rfl) (opn_slice Try.underlying33 (by kernel_rfl) (opn_int Try.underlying3)) (opnF_one rfl (by kernel_rfl) (opn_int Try.underlying3)))))) : Opn enc Try.prog W (fun _ => true) true 35 (Kd.pair (Kd.slice 33 (Kd.slice 3 (Kd.int .i64))) (Kd.pair (Kd.slice 3 (Kd.int .i64)) (Kd.pair (Kd.slice 3 (Kd.int .i64)) (Kd.int .i64)))) _) _ _ _ hf0
  obtain ⟨x0_0, x0_1, x0_2, x0_3⟩ := x0
  obtain ⟨_, _, e0, ⟨A0_0, c0_0, rfl, hc0_0, hr0_0⟩, ⟨_, _, rfl, ⟨A0_1, c0_1, rfl, hc0_1, hr0_1⟩, ⟨_, _, rfl, ⟨A0_2, c0_2, rfl, hc0_2, hr0_2⟩, rfl⟩⟩⟩ := hx0
  obtain rfl : cs0 = #[.slice A0_0 x0_0.length c0_0, .slice A0_1 x0_1.length c0_1, .slice A0_2 x0_2.length c0_2, .int .i64 x0_3] := Array.toList_inj.1 (by simpa [Value.cells] using e0)
  obtain ⟨cs1, rfl, _⟩ := okWide_struct Try.underlying35 (hval 1 35 v1 rfl rfl)
  have k1 := h1
  have lt1 : ∀ x ∈ p1, x.block < W.heap.size := by obtain ⟨m, hm⟩ := k1; exact DataW.trod_lt m _ _ _ hm
  obtain ⟨fuel1, hf1⟩ := h1
  obtain ⟨x1, hx1, hq1⟩ := ((opn_struct0 Try.underlying35 (by kernel_rfl) (opnF_cons rfl (by kernel_rfl) (opn_slice Try.underlying32 (by kernel_rfl) (opn_slice Try.underlying33 (by kernel_rfl) (opn_int Try.underlying3))) (opnF_cons rfl (by kernel_rfl) (opn_slice Try.underlying33 (by kernel_rfl) (opn_int Try.underlying3)) (opnF_cons rfl (by kernel_rfl) (opn_slice Try.underlying33 (by kernel_rfl) (opn_int Try.underlying3)) (opnF_one rfl (by kernel_rfl) (opn_int Try.underlying3)))))) : Opn enc Try.prog W (fun _ => true) true 35 (Kd.pair (Kd.slice 33 (Kd.slice 3 (Kd.int .i64))) (Kd.pair (Kd.slice 3 (Kd.int .i64)) (Kd.pair (Kd.slice 3 (Kd.int .i64)) (Kd.int .i64)))) _) _ _ _ hf1
  obtain ⟨x1_0, x1_1, x1_2, x1_3⟩ := x1
  obtain ⟨_, _, e1, ⟨A1_0, c1_0, rfl, hc1_0, hr1_0⟩, ⟨_, _, rfl, ⟨A1_1, c1_1, rfl, hc1_1, hr1_1⟩, ⟨_, _, rfl, ⟨A1_2, c1_2, rfl, hc1_2, hr1_2⟩, rfl⟩⟩⟩ := hx1
  obtain rfl : cs1 = #[.slice A1_0 x1_0.length c1_0, .slice A1_1 x1_1.length c1_1, .slice A1_2 x1_2.length c1_2, .int .i64 x1_3] := Array.toList_inj.1 (by simpa [Value.cells] using e1)
  clear hA0 hval0 hsz0
  obtain ⟨k, hk⟩ := Pure.FnExactSameSto x0_0 x0_1 x0_2 x0_3 x1_0 x1_1 x1_2 x1_3 hq0.1.1 hq0.1.2 hq0.2.1.1 hq0.2.1.2 hq0.2.2.1.1 hq0.2.2.1.2 hq0.2.2.2 hq1.1.1 hq1.1.2 hq1.2.1.1 hq1.2.1.2 hq1.2.2.1.1 hq1.2.2.1.2 hq1.2.2.2
  refine (laws_FnExactSameSto.calls (r := true) (w := W) (hr0_0 := hr0_0) (hc0_0 := hc0_0) (hr0_1 := hr0_1) (hc0_1 := hc0_1) (hr0_2 := hr0_2) (hc0_2 := hc0_2) (hr1_0 := hr1_0) (hc1_0 := hc1_0) (hr1_1 := hr1_1) (hc1_1 := hc1_1) (hr1_2 := hr1_2) (hc1_2 := hc1_2) (h := hk)).mono fun e W' ⟨he, bel0⟩ => ?_
  have bel : Below W.heap.size W W' := by first | exact bel0 | exact bel0.below
  subst he
  exact ⟨_, rfl, _, _, _, [], _, [], hW', trodAll_mk1 (shut_bool Try.underlying4 _), (trodAll_cons_mk (Below.trod laidOut (by kernel_rfl) (of_decide_eq_true (by kernel_rfl)) k0 bel lt0) (trodAll_cons_mk (Below.trod laidOut (by kernel_rfl) (of_decide_eq_true (by kernel_rfl)) k1 bel lt1) trodAll_mk0)), rfl, bel.frame _, fun h => by cases h⟩
theorem over : Rows.fnExactSameStoRow.holds Try.pinned (OpenSpec.ofChange Rows.fnExactSameStoSpec) :=
  OpenClaim.holds_of_wide 4 Try.f4 rfl rfl rfl rfl rfl rfl rfl ⟨rfl, rfl, rfl, rfl, rfl⟩ rfl rfl rfl rfl rfl (by kernel_rfl) Try.func4 (by kernel_rfl)
    (of_decide_eq_true (by kernel_rfl)) (by unfold Func.isWrapper; first | (rw [if_pos (by decide +kernel)]; kernel_rfl) | (rw [if_neg (by decide +kernel)]; exact ⟨rfl, rfl⟩))
    (fun os started H enc _ => lifted os started H enc)
theorem proved : Rows.FnExactSameStoSaid := over
#print axioms proved
end Go.Proofs.Ytmmdgciefehbcaa.fnExactSameSto
namespace Go.Proofs.Ytmmdgciefehbcaa
/-- The row, under a short name, for the claim. -/
theorem fnExactSameSto_holds : Rows.FnExactSameStoSaid := fnExactSameSto.proved
end Go.Proofs.Ytmmdgciefehbcaa
