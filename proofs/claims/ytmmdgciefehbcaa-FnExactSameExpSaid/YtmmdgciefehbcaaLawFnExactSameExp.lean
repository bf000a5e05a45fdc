/- The row of the law FnExactSameExp: whatever is handed to it, it answers true and what it is handed reads behind the call as before. Conditions: none beside the row's own. -/
import Derived.Test.YtmmdgciefehbcaaRows
import Derived.Test.YtmmdgciefehbcaaOpn
import Derived.Test.YtmmdgciefehbcaaWSized
import Derived.Test.YtmmdgciefehbcaaPFnExactSameExpx5
import Derived.Test.YtmmdgciefehbcaaPureFnExactSameExp
import Derived.WalkKit
import Derived.ProofKit
import Derived.OpenShut
import Derived.ShutString
import Derived.ChangeOld
import Derived.Below
import Derived.SizedLaws
namespace Go.Proofs.Ytmmdgciefehbcaa.fnExactSameExp
open Go.ChangeShapes Go.WideShapes Go.ChangeAt Go.RowKit Go.Proofs.Ytmmdgciefehbcaa.PFnExactSameExp Go.Proofs.YtmmdgciefehbcaaW.PrintWords Go.Proofs.Ytmmdgciefehbcaa.Opn
open Go.ChangeMaps (open_string shut_string)
set_option linter.unusedVariables false
theorem own : ownKnob Try.prog.godebug = none := by kernel_rfl
theorem laidOut : laidOutB Try.prog = true := by kernel_rfl
instance : Inhabited S24 := ⟨z24⟩
theorem opnB24 {H : Type} {enc : TypeId × Value → H} {w : World} {spare : Nat → Bool} {held : Bool} : ∀ m, OpnB m enc Try.prog w spare held 24 k24 Pure.GoodE
  | 0 => opnB_zero
  | m + 1 => by
    have ih := opnB24 (enc := enc) (w := w) (spare := spare) (held := held) m
    intro fuel hf cs x hx
    obtain ⟨⟨y0, y1, y2, y3⟩, hk, q0, q1, q2, q3⟩ := opnB_struct0 Try.underlying24 (by kernel_rfl) (opnFB_cons rfl (by kernel_rfl) ((opn_int Try.underlying3).b m) (opnFB_cons rfl (by kernel_rfl) ((opn_int Try.underlying3).b m) (opnFB_cons rfl (by kernel_rfl) ((opn_string Try.underlying9).b m) (opnFB_one rfl (by kernel_rfl) (opnB_slice Try.underlying22 (by kernel_rfl) ih))))) fuel hf cs x hx
    obtain ⟨_, _, e0, rfl, ⟨_, _, rfl, rfl, ⟨_, _, rfl, rfl, ⟨A3, c3, rfl, hc3, hr3⟩⟩⟩⟩ := hk
    obtain rfl := e0
    exact ⟨⟨y0, y1, y2, y3⟩, k24_mk w ⟨y0, y1, y2, y3⟩ hc3 hr3, .mk _ q2 q3.1 q3.2⟩
set_option maxRecDepth 100000 in
theorem lifted (os : Os) (started : os.Started) (H : Type) (enc : TypeId × Value → H) :
    ReturnsInHanded {} Try.checked os 3 .any (Rows.fnExactSameExpSpec.pre6 enc Try.prog Try.f3 Rows.fnExactSameExpRow.domain false) (Rows.fnExactSameExpSpec.post enc Try.prog Try.f3 false true false false) := by
  refine returnsInHanded_of_change_sized (C := Try.checked) own started (by kernel_rfl) Try.func3
    (ChangeSpec.witness6 (enc := enc) (C := Try.checked) false ⟨#[], #[.agg #[.int .i64 0, .int .i64 0, .string ByteArray.empty, .slice none 0 0], .agg #[.int .i64 0, .int .i64 0, .string ByteArray.empty, .slice none 0 0]], []⟩ 8 (by kernel_rfl) (by kernel_rfl) (by kernel_rfl) (by kernel_rfl)) ?_
  intro W base args ds gs before hval0 hW hcnd hsz0 _
  have hval : ∀ (j : Nat) t v, Try.f3.params[j]? = some t → args[j]? = some v → Value.okWide Try.prog W .any base t v := hval0
  have hW' := hW
  obtain ⟨p, q, hA0, hV, rfl, hfz, hnd⟩ := hW
  have hA : DataW.TrodAll enc Try.prog W 0 (fun _ => true) true Try.f3.params.toList args.toList ds p := hA0
  rw [Try.params3] at hA hval
  obtain ⟨v0, vs0, d0, ds0, p0, q0, hargs, rfl, rfl, h0, r0⟩ := trodAll_cons hA
  obtain ⟨v1, vs1, d1, ds1, p1, q1, rfl, rfl, rfl, h1, r1⟩ := trodAll_cons r0
  obtain ⟨rfl, rfl, rfl⟩ := trodAll_nil r1
  obtain rfl : args = #[v0, v1] := by cases args; simp_all
  obtain ⟨rfl, rfl⟩ := trodVars_none hV
  obtain ⟨cs0, rfl, _⟩ := okWide_struct Try.underlying24 (hval 0 24 v0 rfl rfl)
  have k0 := h0
  have lt0 : ∀ x ∈ p0, x.block < W.heap.size := by obtain ⟨m, hm⟩ := k0; exact DataW.trod_lt m _ _ _ hm
  obtain ⟨fuel0, hf0⟩ := h0
  obtain ⟨x0, hx0, hq0⟩ := ((opn_struct0 Try.underlying24 (by kernel_rfl) (opnF_cons rfl (by kernel_rfl) (opn_int Try.underlying3) (opnF_cons rfl (by kernel_rfl) (opn_int Try.underlying3) (opnF_cons rfl (by kernel_rfl) (opn_string Try.underlying9) (opnF_one rfl (by kernel_rfl) (opn_slice Try.underlying22 (by kernel_rfl) (Opn.of_b opnB24))))))) : Opn enc Try.prog W (fun _ => true) true 24 (Kd.pair (Kd.int .i64) (Kd.pair (Kd.int .i64) (Kd.pair Kd.string (Kd.slice 24 k24)))) _) _ _ _ hf0
  obtain ⟨x0_0, x0_1, x0_2, x0_3⟩ := x0
  obtain ⟨_, _, e0, rfl, ⟨_, _, rfl, rfl, ⟨_, _, rfl, rfl, ⟨A0_3, c0_3, rfl, hc0_3, hr0_3⟩⟩⟩⟩ := hx0
  obtain rfl : cs0 = #[.int .i64 x0_0, .int .i64 x0_1, .string x0_2, .slice A0_3 x0_3.length c0_3] := Array.toList_inj.1 (by simpa [Value.cells] using e0)
  obtain ⟨cs1, rfl, _⟩ := okWide_struct Try.underlying24 (hval 1 24 v1 rfl rfl)
  have k1 := h1
  have lt1 : ∀ x ∈ p1, x.block < W.heap.size := by obtain ⟨m, hm⟩ := k1; exact DataW.trod_lt m _ _ _ hm
  obtain ⟨fuel1, hf1⟩ := h1
  obtain ⟨x1, hx1, hq1⟩ := ((opn_struct0 Try.underlying24 (by kernel_rfl) (opnF_cons rfl (by kernel_rfl) (opn_int Try.underlying3) (opnF_cons rfl (by kernel_rfl) (opn_int Try.underlying3) (opnF_cons rfl (by kernel_rfl) (opn_string Try.underlying9) (opnF_one rfl (by kernel_rfl) (opn_slice Try.underlying22 (by kernel_rfl) (Opn.of_b opnB24))))))) : Opn enc Try.prog W (fun _ => true) true 24 (Kd.pair (Kd.int .i64) (Kd.pair (Kd.int .i64) (Kd.pair Kd.string (Kd.slice 24 k24)))) _) _ _ _ hf1
  obtain ⟨x1_0, x1_1, x1_2, x1_3⟩ := x1
  obtain ⟨_, _, e1, rfl, ⟨_, _, rfl, rfl, ⟨_, _, rfl, rfl, ⟨A1_3, c1_3, rfl, hc1_3, hr1_3⟩⟩⟩⟩ := hx1
  obtain rfl : cs1 = #[.int .i64 x1_0, .int .i64 x1_1, .string x1_2, .slice A1_3 x1_3.length c1_3] := Array.toList_inj.1 (by simpa [Value.cells] using e1)
  clear hA0 hval0 hsz0
  obtain ⟨k, hk⟩ := Pure.FnExactSameExp ⟨x0_0, x0_1, x0_2, x0_3⟩ ⟨x1_0, x1_1, x1_2, x1_3⟩ (.mk _ hq0.2.2.1 hq0.2.2.2.1 hq0.2.2.2.2) (.mk _ hq1.2.2.1 hq1.2.2.2.1 hq1.2.2.2.2)
  refine (laws_FnExactSameExp.calls (r := true) (w := W) (hr0_3 := hr0_3) (hc0_3 := hc0_3) (hr1_3 := hr1_3) (hc1_3 := hc1_3) (h := hk)).mono fun e W' ⟨he, bel0⟩ => ?_
  have bel : Below W.heap.size W W' := by first | exact bel0 | exact bel0.below
  subst he
  exact ⟨_, rfl, _, _, _, [], _, [], hW', trodAll_mk1 (shut_bool Try.underlying4 _), (trodAll_cons_mk (Below.trod laidOut (by kernel_rfl) (of_decide_eq_true (by kernel_rfl)) k0 bel lt0) (trodAll_cons_mk (Below.trod laidOut (by kernel_rfl) (of_decide_eq_true (by kernel_rfl)) k1 bel lt1) trodAll_mk0)), rfl, bel.frame _, fun h => by cases h⟩
theorem over : Rows.fnExactSameExpRow.holds Try.pinned (OpenSpec.ofChange Rows.fnExactSameExpSpec) :=
  OpenClaim.holds_of_wide 3 Try.f3 rfl rfl rfl rfl rfl rfl rfl ⟨rfl, rfl, rfl, rfl, rfl⟩ rfl rfl rfl rfl rfl (by kernel_rfl) Try.func3 (by kernel_rfl)
    (of_decide_eq_true (by kernel_rfl)) (by unfold Func.isWrapper; first | (rw [if_pos (by decide +kernel)]; kernel_rfl) | (rw [if_neg (by decide +kernel)]; exact ⟨rfl, rfl⟩))
    (fun os started H enc _ => lifted os started H enc)
theorem proved : Rows.FnExactSameExpSaid := over
#print axioms proved
end Go.Proofs.Ytmmdgciefehbcaa.fnExactSameExp
namespace Go.Proofs.Ytmmdgciefehbcaa
/-- The row, under a short name, for the claim. -/
theorem fnExactSameExp_holds : Rows.FnExactSameExpSaid := fnExactSameExp.proved
end Go.Proofs.Ytmmdgciefehbcaa
