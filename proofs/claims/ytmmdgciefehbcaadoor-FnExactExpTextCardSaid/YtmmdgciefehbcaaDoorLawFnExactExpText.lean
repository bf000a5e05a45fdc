/- The row of the law FnExactExpText: whatever is handed to it, it answers true and what it is handed reads behind the call as before. Conditions: none beside the row's own. -/
import Derived.Test.YtmmdgciefehbcaaDoorRows
import Derived.Test.YtmmdgciefehbcaaDoorOpn
import Derived.Test.YtmmdgciefehbcaaDoorWSized
import Derived.Test.YtmmdgciefehbcaaDoorPFnExactExpTextx7
import Derived.Test.YtmmdgciefehbcaaDoorPureFnExactExpText
import Derived.Test.YtmmdgciefehbcaaDoorCards
import Derived.Test.YtmmdgciefehbcaaDoorTie
import Derived.Test.YtmmdgciefehbcaaDoorIto
import Derived.SevenTiedAt
import Derived.LaidMore
import Derived.Lib.LaidTab
import Derived.Stop.Joined
import Derived.Stop.LaidErr
import Derived.WalkKit
import Derived.ProofKit
import Derived.OpenShut
import Derived.ShutString
import Derived.ChangeOld
import Derived.Below
import Derived.SizedLaws
namespace Go.Proofs.YtmmdgciefehbcaaDoor.fnExactExpText
open Go.ChangeShapes Go.WideShapes Go.ChangeAt Go.RowKit Go.Proofs.YtmmdgciefehbcaaDoor.PFnExactExpText Go.Proofs.YtmmdgciefehbcaaDoorW.PrintWords Go.Proofs.YtmmdgciefehbcaaDoor.Opn
open Go.ChangeMaps (open_string shut_string)
set_option linter.unusedVariables false
theorem own : ownKnob Tryd.prog.godebug = none := by kernel_rfl
theorem laidOut : laidOutB Tryd.prog = true := by kernel_rfl
instance : Inhabited S24 := ⟨z24⟩
theorem opnB24 {H : Type} {enc : TypeId × Value → H} {w : World} {spare : Nat → Bool} {held : Bool} : ∀ m, OpnB m enc Tryd.prog w spare held 24 k24 Pure.GoodE
  | 0 => opnB_zero
  | m + 1 => by
    have ih := opnB24 (enc := enc) (w := w) (spare := spare) (held := held) m
    intro fuel hf cs x hx
    obtain ⟨⟨y0, y1, y2, y3⟩, hk, q0, q1, q2, q3⟩ := opnB_struct0 Tryd.underlying24 (by kernel_rfl) (opnFB_cons rfl (by kernel_rfl) ((opn_int Tryd.underlying3).b m) (opnFB_cons rfl (by kernel_rfl) ((opn_int Tryd.underlying3).b m) (opnFB_cons rfl (by kernel_rfl) ((opn_string Tryd.underlying9).b m) (opnFB_one rfl (by kernel_rfl) (opnB_slice Tryd.underlying22 (by kernel_rfl) ih))))) fuel hf cs x hx
    obtain ⟨_, _, e0, rfl, ⟨_, _, rfl, rfl, ⟨_, _, rfl, rfl, ⟨A3, c3, rfl, hc3, hr3⟩⟩⟩⟩ := hk
    obtain rfl := e0
    exact ⟨⟨y0, y1, y2, y3⟩, k24_mk w ⟨y0, y1, y2, y3⟩ hc3 hr3, .mk _ q2 q3.1 q3.2⟩
theorem door_met (os : Os) (args : Array Value) : laidMetH Tryd.prog Rows.fnExactExpTextRow.laid ((World.doorLaid Tryd.prog 400 os).forCall (fun _ _ => 0) ⟨#[], args, []⟩).memory :=
  laidMetH_of_parts3 (fuel := 8) (laidMet_of_run' 8 (by kernel_rfl) (by kernel_rfl)) (by kernel_rfl) (by kernel_rfl)
theorem tabT : (Tryd.prog.globals[0]?).map (·.type) = some 59 := by kernel_rfl
/-- What the condition gives the walk: the table of powers of ten. -/
theorem tab_of {W : World} (h : laidMetH Tryd.prog Rows.fnExactExpTextRow.laid W) : Go.Proofs.YtmmdgciefehbcaaDoorW.PrintWords.TabW W := by
  rw [MakeChecks.laidMetH_plain _ _ _ (by kernel_rfl)] at h
  exact Go.Lib.tabIs_of_head (k := .u64) (zs := Go.Lib.pow10Tab) Go.Proofs.YtmmdgciefehbcaaDoorW.PrintWords.tabG tabT Tryd.underlying59 Tryd.underlying53 (by kernel_rfl) (by kernel_rfl) h.tail.tail
set_option maxRecDepth 100000 in
theorem lifted (os : Os) (started : os.Started) (H : Type) (enc : TypeId × Value → H) :
    ReturnsInHanded {} Tryd.checked os 3 .any (fun w args => (Rows.fnExactExpTextSpec.pre enc Tryd.prog Tryd.f3 [] false w args ∧ laidMetH Tryd.prog Rows.fnExactExpTextRow.laid w) ∧ sizedMet enc Tryd.prog Tryd.f3 (OpenSpec.ofChange Rows.fnExactExpTextSpec) false w args) (Rows.fnExactExpTextSpec.post enc Tryd.prog Tryd.f3 false true false false) := by
  refine returnsInHanded_of_change_and (C := Tryd.checked) (X := fun w _ => laidMetH Tryd.prog Rows.fnExactExpTextRow.laid w) (fun _ _ _ hh h => h.of_heap hh) own started (by kernel_rfl) Tryd.func3
    (ChangeSpec.witness_shaped (enc := enc) (C := Tryd.checked) (os := os) (X := fun w _ => laidMetH Tryd.prog Rows.fnExactExpTextRow.laid w) false (World.doorLaid Tryd.prog 400 os) #[.agg #[.int .i64 0, .int .i64 0, .string ByteArray.empty, .slice none 0 0]] 8 rfl (World.shaped_of_RefB (by kernel_rfl) (by kernel_rfl)) (by kernel_rfl) (by kernel_rfl) (by kernel_rfl) (door_met os _)) ?_
  intro W base args ds gs before hval0 hW hcnd hsz0 hL _
  have hT := tab_of hL
  have hval : ∀ (j : Nat) t v, Tryd.f3.params[j]? = some t → args[j]? = some v → Value.okWide Tryd.prog W .any base t v := hval0
  have hW' := hW
  obtain ⟨p, q, hA0, hV, rfl, hfz, hnd⟩ := hW
  have hA : DataW.TrodAll enc Tryd.prog W 0 (fun _ => true) true Tryd.f3.params.toList args.toList ds p := hA0
  rw [Tryd.params3] at hA hval
  obtain ⟨v0, vs0, d0, ds0, p0, q0, hargs, rfl, rfl, h0, r0⟩ := trodAll_cons hA
  obtain ⟨rfl, rfl, rfl⟩ := trodAll_nil r0
  obtain rfl : args = #[v0] := by cases args; simp_all
  obtain ⟨rfl, rfl⟩ := trodVars_none hV
  obtain ⟨cs0, rfl, _⟩ := okWide_struct Tryd.underlying24 (hval 0 24 v0 rfl rfl)
  have k0 := h0
  have lt0 : ∀ x ∈ p0, x.block < W.heap.size := by obtain ⟨m, hm⟩ := k0; exact DataW.trod_lt m _ _ _ hm
  obtain ⟨fuel0, hf0⟩ := h0
  obtain ⟨x0, hx0, hq0⟩ := ((opn_struct0 Tryd.underlying24 (by kernel_rfl) (opnF_cons rfl (by kernel_rfl) (opn_int Tryd.underlying3) (opnF_cons rfl (by kernel_rfl) (opn_int Tryd.underlying3) (opnF_cons rfl (by kernel_rfl) (opn_string Tryd.underlying9) (opnF_one rfl (by kernel_rfl) (opn_slice Tryd.underlying22 (by kernel_rfl) (Opn.of_b opnB24))))))) : Opn enc Tryd.prog W (fun _ => true) true 24 (Kd.pair (Kd.int .i64) (Kd.pair (Kd.int .i64) (Kd.pair Kd.string (Kd.slice 24 k24)))) _) _ _ _ hf0
  obtain ⟨x0_0, x0_1, x0_2, x0_3⟩ := x0
  obtain ⟨_, _, e0, rfl, ⟨_, _, rfl, rfl, ⟨_, _, rfl, rfl, ⟨A0_3, c0_3, rfl, hc0_3, hr0_3⟩⟩⟩⟩ := hx0
  obtain rfl : cs0 = #[.int .i64 x0_0, .int .i64 x0_1, .string x0_2, .slice A0_3 x0_3.length c0_3] := Array.toList_inj.1 (by simpa [Value.cells] using e0)
  clear hA0 hval0 hsz0
  obtain ⟨k, hk⟩ := Pure.FnExactExpText ⟨x0_0, x0_1, x0_2, x0_3⟩ (.mk _ hq0.2.2.1 hq0.2.2.2.1 hq0.2.2.2.2)
  refine (laws_FnExactExpText.calls (r := true) (w := W) (hT := hT) (hr0_3 := hr0_3) (hc0_3 := hc0_3) (h := hk)).mono fun e W' ⟨he, bel0⟩ => ?_
  have bel : Below W.heap.size W W' := by first | exact bel0 | exact bel0.below
  subst he
  exact ⟨_, rfl, _, _, _, [], _, [], hW', trodAll_mk1 (shut_bool Tryd.underlying4 _), (trodAll_cons_mk (Below.trod laidOut (by kernel_rfl) (of_decide_eq_true (by kernel_rfl)) k0 bel lt0) trodAll_mk0), rfl, bel.frame _, fun h => by cases h⟩
theorem over : Rows.fnExactExpTextRow.holds Tryd.pinned (OpenSpec.ofChange Rows.fnExactExpTextSpec) :=
  OpenClaim.holds_of_wide 3 Tryd.f3 rfl rfl rfl rfl rfl rfl rfl ⟨rfl, rfl, rfl, rfl, rfl⟩ rfl rfl rfl rfl rfl (by kernel_rfl) Tryd.func3 (by kernel_rfl)
    (of_decide_eq_true (by kernel_rfl)) (by unfold Func.isWrapper; first | (rw [if_pos (by decide +kernel)]; kernel_rfl) | (rw [if_neg (by decide +kernel)]; exact ⟨rfl, rfl⟩))
    (fun os started H enc _ => lifted os started H enc)
theorem proved : Rows.FnExactExpTextSaid := over
#print axioms proved
end Go.Proofs.YtmmdgciefehbcaaDoor.fnExactExpText
namespace Go.Proofs.YtmmdgciefehbcaaDoor
open Go
/-- THE TIED CARD: the law's row, its listed variables tied to the program's text (the tie is given). -/
theorem fnExactExpText_holds : Rows.FnExactExpTextCardSaid :=
  Claim7.holds_tied_plain_at .later [] [.data, .data, .data] true (true, "d6ea6d8a9f69d4f369b9936e7a60169219de133934f43d4a5ad6db8bea9e7e15") false
    fnExactExpText.proved (fun _ h => by cases h) (by kernel_rfl) (fun _ h => by cases h) fnExactExpText_row_tie rfl ⟨rfl, rfl⟩ (by kernel_rfl) rfl
    (fun f fn hf hfn => by
      obtain rfl : f = 3 := Option.some.inj ((show Tryd.prog.funcNamed "loop.example/g00476/laws.FnExactExpText" = some 3 by kernel_rfl).symm.trans hf) |>.symm
      obtain rfl : fn = Tryd.f3 := (Option.some.inj (Tryd.func3.symm.trans hfn)).symm
      refine ⟨by kernel_rfl, fun j t ht => ?_⟩
      have hw : ∀ x ∈ Tryd.f3.params.toList, Tryd.prog.wantsStandIn x = false := by
        rw [Tryd.params3]
        intro x hx
        simp only [List.mem_cons, List.not_mem_nil, or_false] at hx
        subst hx
        kernel_rfl
      exact hw t (by
        have := Array.mem_of_getElem? ht
        simpa using this))
    (by kernel_rfl)
end Go.Proofs.YtmmdgciefehbcaaDoor
