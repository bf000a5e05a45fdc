/- The row of the law FnExactSubA: whatever is handed to it, it answers true and what it is handed reads behind the call as before. Conditions: none beside the row's own. -/
import Derived.Test.YtmomablfmhkppaaRows
import Derived.Test.YtmomablfmhkppaaVFnExactSubA
import Derived.Test.YtmomablfmhkppaaWSized
import Derived.Test.YtmomablfmhkppaaPFnExactSubAx8
import Derived.Test.YtmomablfmhkppaaPureFnExactSubA
import Derived.WalkKit
import Derived.ProofKit
import Derived.OpenShut
import Derived.ShutString
import Derived.ChangeOld
import Derived.Below
import Derived.SizedLaws
namespace Go.Proofs.Ytmomablfmhkppaa.fnExactSubA
open Go.ChangeShapes Go.WideShapes Go.ChangeAt Go.RowKit Go.Proofs.Ytmomablfmhkppaa.PFnExactSubA Go.Proofs.YtmomablfmhkppaaW.PrintWords Go.Proofs.Ytmomablfmhkppaa.Opn
open Go.ChangeMaps (open_string shut_string)
set_option linter.unusedVariables false
theorem own : ownKnob Try.prog.godebug = none := by kernel_rfl
theorem laidOut : laidOutB Try.prog = true := by kernel_rfl
instance : Inhabited S92 := ⟨z92⟩
theorem opn92 {H : Type} {enc : TypeId × Value → H} {w : World} {spare : Nat → Bool} {held : Bool} : Opn enc Try.prog w spare held 92 k92 (fun x => x.f0.size ≤ maxLen ∧ (Lit.int .i64 x.f1).wf = true) :=
  opn_struct (fun x : S92 => (x.f0, x.f1)) (fun p => ⟨p.1, p.2⟩) (fun _ => rfl) Try.underlying92 (by kernel_rfl) (opnF_cons rfl (by kernel_rfl) (opn_string Try.underlying9) (opnF_one rfl (by kernel_rfl) (opn_int Try.underlying3)))
set_option maxRecDepth 100000 in
theorem lifted (os : Os) (started : os.Started) (H : Type) (enc : TypeId × Value → H) :
    ReturnsInHanded {} Try.checked os 4 .any (Rows.fnExactSubASpec.pre6 enc Try.prog Try.f4 Rows.fnExactSubARow.domain false) (Rows.fnExactSubASpec.post enc Try.prog Try.f4 false true false false) := by
  refine returnsInHanded_of_change_sized (C := Try.checked) own started (by kernel_rfl) Try.func4
    (ChangeSpec.witness6 (enc := enc) (C := Try.checked) false ⟨#[], #[.agg #[.int .i64 0, .slice none 0 0], .agg #[.int .i64 0, .slice none 0 0]], []⟩ 8 (by kernel_rfl) (by kernel_rfl) (by kernel_rfl) (by kernel_rfl)) ?_
  intro W base args ds gs before hval0 hW hcnd hsz0 _
  have hval : ∀ (j : Nat) t v, Try.f4.params[j]? = some t → args[j]? = some v → Value.okWide Try.prog W .any base t v := hval0
  have hW' := hW
  obtain ⟨p, q, hA0, hV, rfl, hfz, hnd⟩ := hW
  have hA : DataW.TrodAll enc Try.prog W 0 (fun _ => true) true Try.f4.params.toList args.toList ds p := hA0
  rw [Try.params4] at hA hval
  obtain ⟨v0, vs0, d0, ds0, p0, q0, hargs, rfl, rfl, h0, r0⟩ := trodAll_cons hA
  obtain ⟨v1, vs1, d1, ds1, p1, q1, rfl, rfl, rfl, h1, r1⟩ := trodAll_cons r0
  obtain ⟨rfl, rfl, rfl⟩ := trodAll_nil r1
  obtain rfl : args = #[v0, v1] := by cases args; simp_all
  obtain ⟨rfl, rfl⟩ := trodVars_none hV
  obtain ⟨cs0, rfl, _⟩ := okWide_struct Try.underlying24 (hval 0 24 v0 rfl rfl)
  have k0 := h0
  have lt0 : ∀ x ∈ p0, x.block < W.heap.size := by obtain ⟨m, hm⟩ := k0; exact DataW.trod_lt m _ _ _ hm
  obtain ⟨fuel0, hf0⟩ := h0
  obtain ⟨x0, hx0, hq0⟩ := ((opn_struct0 Try.underlying24 (by kernel_rfl) (opnF_cons rfl (by kernel_rfl) (opn_int Try.underlying3) (opnF_one rfl (by kernel_rfl) (opn_slice Try.underlying22 (by kernel_rfl) opn92)))) : Opn enc Try.prog W (fun _ => true) true 24 (Kd.pair (Kd.int .i64) (Kd.slice 92 k92)) _) _ _ _ hf0
  obtain ⟨x0_0, x0_1⟩ := x0
  obtain ⟨_, _, e0, rfl, ⟨A0_1, c0_1, rfl, hc0_1, hr0_1⟩⟩ := hx0
  obtain rfl : cs0 = #[.int .i64 x0_0, .slice A0_1 x0_1.length c0_1] := Array.toList_inj.1 (by simpa [Value.cells] using e0)
  obtain ⟨cs1, rfl, _⟩ := okWide_struct Try.underlying24 (hval 1 24 v1 rfl rfl)
  have k1 := h1
  have lt1 : ∀ x ∈ p1, x.block < W.heap.size := by obtain ⟨m, hm⟩ := k1; exact DataW.trod_lt m _ _ _ hm
  obtain ⟨fuel1, hf1⟩ := h1
  obtain ⟨x1, hx1, hq1⟩ := ((opn_struct0 Try.underlying24 (by kernel_rfl) (opnF_cons rfl (by kernel_rfl) (opn_int Try.underlying3) (opnF_one rfl (by kernel_rfl) (opn_slice Try.underlying22 (by kernel_rfl) opn92)))) : Opn enc Try.prog W (fun _ => true) true 24 (Kd.pair (Kd.int .i64) (Kd.slice 92 k92)) _) _ _ _ hf1
  obtain ⟨x1_0, x1_1⟩ := x1
  obtain ⟨_, _, e1, rfl, ⟨A1_1, c1_1, rfl, hc1_1, hr1_1⟩⟩ := hx1
  obtain rfl : cs1 = #[.int .i64 x1_0, .slice A1_1 x1_1.length c1_1] := Array.toList_inj.1 (by simpa [Value.cells] using e1)
  clear hA0 hval0 hsz0
  obtain ⟨k, hk⟩ := Pure.FnExactSubA x0_0 x0_1 x1_0 x1_1 hq0.1 hq0.2.1 hq0.2.2 hq1.1 hq1.2.1 hq1.2.2
  refine (laws_FnExactSubA.calls (r := true) (w := W) (hr0_1 := hr0_1) (hc0_1 := hc0_1) (hr1_1 := hr1_1) (hc1_1 := hc1_1) (h := hk)).mono fun e W' ⟨he, bel0⟩ => ?_
  have bel : Below W.heap.size W W' := by first | exact bel0 | exact bel0.below
  subst he
  exact ⟨_, rfl, _, _, _, [], _, [], hW', trodAll_mk1 (shut_bool Try.underlying4 _), (trodAll_cons_mk (Below.trod laidOut (by kernel_rfl) (of_decide_eq_true (by kernel_rfl)) k0 bel lt0) (trodAll_cons_mk (Below.trod laidOut (by kernel_rfl) (of_decide_eq_true (by kernel_rfl)) k1 bel lt1) trodAll_mk0)), rfl, bel.frame _, fun h => by cases h⟩
theorem over : Rows.fnExactSubARow.holds Try.pinned (OpenSpec.ofChange Rows.fnExactSubASpec) :=
  OpenClaim.holds_of_wide 4 Try.f4 rfl rfl rfl rfl rfl rfl rfl ⟨rfl, rfl, rfl, rfl, rfl⟩ rfl rfl rfl rfl rfl (by kernel_rfl) Try.func4 (by kernel_rfl)
    (of_decide_eq_true (by kernel_rfl)) (by unfold Func.isWrapper; first | (rw [if_pos (by decide +kernel)]; kernel_rfl) | (rw [if_neg (by decide +kernel)]; exact ⟨rfl, rfl⟩))
    (fun os started H enc _ => lifted os started H enc)
theorem proved : Rows.FnExactSubASaid := over
#print axioms proved
end Go.Proofs.Ytmomablfmhkppaa.fnExactSubA
namespace Go.Proofs.Ytmomablfmhkppaa
/-- The row, under a short name, for the claim. -/
theorem fnExactSubA_holds : Rows.FnExactSubASaid := fnExactSubA.proved
end Go.Proofs.Ytmomablfmhkppaa
