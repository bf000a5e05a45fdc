/- The row of the law FnExactArrAt: whatever is handed to it, it answers true and what it is handed reads behind the call as before. Conditions: none beside the row's own. -/
import Derived.Test.YtmmdgciefehbcaaRows
import Derived.Test.YtmmdgciefehbcaaOpn
import Derived.Test.YtmmdgciefehbcaaWSized
import Derived.Test.YtmmdgciefehbcaaPFnExactArrAtx5
import Derived.Test.YtmmdgciefehbcaaPureFnExactArrAt
import Derived.WalkKit
import Derived.ProofKit
import Derived.OpenShut
import Derived.ShutString
import Derived.ChangeOld
import Derived.Below
import Derived.SizedLaws
namespace Go.Proofs.Ytmmdgciefehbcaa.fnExactArrAt
open Go.ChangeShapes Go.WideShapes Go.ChangeAt Go.RowKit Go.Proofs.Ytmmdgciefehbcaa.PFnExactArrAt Go.Proofs.YtmmdgciefehbcaaW.PrintWords Go.Proofs.Ytmmdgciefehbcaa.Opn
open Go.ChangeMaps (open_string shut_string)
set_option linter.unusedVariables false
theorem own : ownKnob Try.prog.godebug = none := by kernel_rfl
theorem laidOut : laidOutB Try.prog = true := by kernel_rfl
instance : Inhabited S24 := ⟨z24⟩
theorem opnB24 {H : Type} {enc : TypeId × Value → H} {w : World} {spare : Nat → Bool} {held : Bool} : ∀ m, OpnB m enc Try.prog w spare held 24 k24 Pure.GoodE
  | 0 => opnB_zero
  | m + 1 => by
    have ih := opnB24 (enc := enc) (w := w) (spare := spare) (held := held) m
    intro fuel hf cs x hx
    obtain ⟨⟨y0, y1, y2, y3⟩, hk, q0, q1, q2, q3⟩ := opnB_struct0 Try.underlying24 (by kernel_rfl) (opnFB_cons rfl (by kernel_rfl) ((opn_int Try.underlying3).b m) (opnFB_cons rfl (by kernel_rfl) ((opn_int Try.underlying3).b m) (opnFB_cons rfl (by kernel_rfl) ((opn_string Try.underlying9).b m) (opnFB_one rfl (by kernel_rfl) (opnB_slice Try.underlying22 (by kernel_rfl) ih))))) fuel hf cs x hx
    obtain ⟨_, _, e0, rfl, ⟨_, _, rfl, rfl, ⟨_, _, rfl, rfl, ⟨A3, c3, rfl, hc3, hr3⟩⟩⟩⟩ := hk
    obtain rfl := e0
    exact ⟨⟨y0, y1, y2, y3⟩, k24_mk w ⟨y0, y1, y2, y3⟩ hc3 hr3, .mk _ q2 q3.1 q3.2⟩
instance : Inhabited S45 := ⟨z45⟩
theorem opnB45 {H : Type} {enc : TypeId × Value → H} {w : World} {spare : Nat → Bool} {held : Bool} : ∀ m, OpnB m enc Try.prog w spare held 45 k45 Pure.GoodS
  | 0 => opnB_zero
  | m + 1 => by
    have ih := opnB45 (enc := enc) (w := w) (spare := spare) (held := held) m
    intro fuel hf cs x hx
    obtain ⟨⟨y0, y1, y2, y3, y4, y5, y6⟩, hk, q0, q1, q2, q3, q4, q5, q6⟩ := opnB_struct0 Try.underlying45 (by kernel_rfl) (opnFB_cons rfl (by kernel_rfl) ((opn_int Try.underlying3).b m) (opnFB_cons rfl (by kernel_rfl) ((opn_string Try.underlying9).b m) (opnFB_cons rfl (by kernel_rfl) ((Opn.of_b opnB24).b m) (opnFB_cons rfl (by kernel_rfl) ((Opn.of_b opnB24).b m) (opnFB_cons rfl (by kernel_rfl) ((Opn.of_b opnB24).b m) (opnFB_cons rfl (by kernel_rfl) ((Opn.of_b opnB24).b m) (opnFB_one rfl (by kernel_rfl) (opnB_slice Try.underlying43 (by kernel_rfl) ih)))))))) fuel hf cs x hx
    obtain ⟨_, _, e0, rfl, ⟨_, _, rfl, rfl, ⟨_, _, rfl, s2, ⟨_, _, rfl, s3, ⟨_, _, rfl, s4, ⟨_, _, rfl, s5, ⟨A18, c18, rfl, hc18, hr18⟩⟩⟩⟩⟩⟩⟩ := hk
    obtain ⟨A17, c17, rfl, hc17, hr17⟩ := k24_open s5
    obtain ⟨A13, c13, rfl, hc13, hr13⟩ := k24_open s4
    obtain ⟨A9, c9, rfl, hc9, hr9⟩ := k24_open s3
    obtain ⟨A5, c5, rfl, hc5, hr5⟩ := k24_open s2
    obtain rfl := e0
    exact ⟨⟨y0, y1, y2, y3, y4, y5, y6⟩, k45_mk w ⟨y0, y1, y2, y3, y4, y5, y6⟩ hc5 hr5 hc9 hr9 hc13 hr13 hc17 hr17 hc18 hr18, .mk _ q1 q2 q3 q4 q5 q6.1 q6.2⟩
instance : Inhabited S117 := ⟨z117⟩
theorem opn117 {H : Type} {enc : TypeId × Value → H} {w : World} {spare : Nat → Bool} {held : Bool} : Opn enc Try.prog w spare held 117 k117 (fun x => x.f0.size ≤ maxLen ∧ (Lit.int .i64 x.f1).wf = true) :=
  opn_struct (fun x : S117 => (x.f0, x.f1)) (fun p => ⟨p.1, p.2⟩) (fun _ => rfl) Try.underlying117 (by kernel_rfl) (opnF_cons rfl (by kernel_rfl) (opn_string Try.underlying9) (opnF_one rfl (by kernel_rfl) (opn_int Try.underlying3)))
set_option maxRecDepth 100000 in
theorem lifted (os : Os) (started : os.Started) (H : Type) (enc : TypeId × Value → H) :
    ReturnsInHanded {} Try.checked os 8 .any (Rows.fnExactArrAtSpec.pre6 enc Try.prog Try.f8 Rows.fnExactArrAtRow.domain false) (Rows.fnExactArrAtSpec.post enc Try.prog Try.f8 false true false false) := by
  refine returnsInHanded_of_change_sized (C := Try.checked) own started (by kernel_rfl) Try.func8
    (ChangeSpec.witness6 (enc := enc) (C := Try.checked) false ⟨#[], #[.agg #[.slice none 0 0, .slice none 0 0], .string ByteArray.empty], []⟩ 8 (by kernel_rfl) (by kernel_rfl) (by kernel_rfl) (by kernel_rfl)) ?_
  intro W base args ds gs before hval0 hW hcnd hsz0 _
  have hval : ∀ (j : Nat) t v, Try.f8.params[j]? = some t → args[j]? = some v → Value.okWide Try.prog W .any base t v := hval0
  have hW' := hW
  obtain ⟨p, q, hA0, hV, rfl, hfz, hnd⟩ := hW
  have hA : DataW.TrodAll enc Try.prog W 0 (fun _ => true) true Try.f8.params.toList args.toList ds p := hA0
  rw [Try.params8] at hA hval
  obtain ⟨v0, vs0, d0, ds0, p0, q0, hargs, rfl, rfl, h0, r0⟩ := trodAll_cons hA
  obtain ⟨v1, vs1, d1, ds1, p1, q1, rfl, rfl, rfl, h1, r1⟩ := trodAll_cons r0
  obtain ⟨rfl, rfl, rfl⟩ := trodAll_nil r1
  obtain rfl : args = #[v0, v1] := by cases args; simp_all
  obtain ⟨rfl, rfl⟩ := trodVars_none hV
  obtain ⟨cs0, rfl, _⟩ := okWide_struct Try.underlying57 (hval 0 57 v0 rfl rfl)
  have k0 := h0
  have lt0 : ∀ x ∈ p0, x.block < W.heap.size := by obtain ⟨m, hm⟩ := k0; exact DataW.trod_lt m _ _ _ hm
  obtain ⟨fuel0, hf0⟩ := h0
  obtain ⟨x0, hx0, hq0⟩ := ((opn_struct0 Try.underlying57 (by kernel_rfl) (opnF_cons rfl (by kernel_rfl) (opn_slice Try.underlying55 (by kernel_rfl) opn117) (opnF_one rfl (by kernel_rfl) (opn_slice Try.underlying43 (by kernel_rfl) (Opn.of_b opnB45))))) : Opn enc Try.prog W (fun _ => true) true 57 (Kd.pair (Kd.slice 117 k117) (Kd.slice 45 k45)) _) _ _ _ hf0
  obtain ⟨x0_0, x0_1⟩ := x0
  obtain ⟨_, _, e0, ⟨A0_0, c0_0, rfl, hc0_0, hr0_0⟩, ⟨A0_1, c0_1, rfl, hc0_1, hr0_1⟩⟩ := hx0
  obtain rfl : cs0 = #[.slice A0_0 x0_0.length c0_0, .slice A0_1 x0_1.length c0_1] := Array.toList_inj.1 (by simpa [Value.cells] using e0)
  obtain ⟨a1, rfl, rfl, rfl, y1⟩ := open_string Try.underlying9 (hval 1 9 v1 rfl rfl) h1
  clear hA0 hval0 hsz0
  obtain ⟨k, hk⟩ := Pure.FnExactArrAt x0_0 x0_1 a1 hq0.1.1 hq0.1.2 hq0.2.1 hq0.2.2 y1
  refine (laws_FnExactArrAt.calls (r := true) (w := W) (hr0_0 := hr0_0) (hc0_0 := hc0_0) (hr0_1 := hr0_1) (hc0_1 := hc0_1) (h := hk)).mono fun e W' ⟨he, bel0⟩ => ?_
  have bel : Below W.heap.size W W' := by first | exact bel0 | exact bel0.below
  subst he
  exact ⟨_, rfl, _, _, _, [], _, [], hW', trodAll_mk1 (shut_bool Try.underlying4 _), (trodAll_cons_mk (Below.trod laidOut (by kernel_rfl) (of_decide_eq_true (by kernel_rfl)) k0 bel lt0) (trodAll_cons_mk (shut_string Try.underlying9 y1) trodAll_mk0)), rfl, bel.frame _, fun h => by cases h⟩
theorem over : Rows.fnExactArrAtRow.holds Try.pinned (OpenSpec.ofChange Rows.fnExactArrAtSpec) :=
  OpenClaim.holds_of_wide 8 Try.f8 rfl rfl rfl rfl rfl rfl rfl ⟨rfl, rfl, rfl, rfl, rfl⟩ rfl rfl rfl rfl rfl (by kernel_rfl) Try.func8 (by kernel_rfl)
    (of_decide_eq_true (by kernel_rfl)) (by unfold Func.isWrapper; first | (rw [if_pos (by decide +kernel)]; kernel_rfl) | (rw [if_neg (by decide +kernel)]; exact ⟨rfl, rfl⟩))
    (fun os started H enc _ => lifted os started H enc)
theorem proved : Rows.FnExactArrAtSaid := over
#print axioms proved
end Go.Proofs.Ytmmdgciefehbcaa.fnExactArrAt
namespace Go.Proofs.Ytmmdgciefehbcaa
/-- The row, under a short name, for the claim. -/
theorem fnExactArrAt_holds : Rows.FnExactArrAtSaid := fnExactArrAt.proved
end Go.Proofs.Ytmmdgciefehbcaa
