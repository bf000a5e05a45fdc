/- The row of the law FnExactTokText: whatever is handed to it, it answers true and what it is handed reads behind the call as before. Conditions: none beside the row's own. -/
import Derived.Test.YtpencchkfbekdaaDoorRows
import Derived.Test.YtpencchkfbekdaaDoorOpn
import Derived.Test.YtpencchkfbekdaaDoorWSized
import Derived.Test.YtpencchkfbekdaaDoorPFnExactTokTextx2
import Derived.Test.YtpencchkfbekdaaDoorPureFnExactTokText
import Derived.Test.YtpencchkfbekdaaDoorCards
import Derived.Test.YtpencchkfbekdaaDoorTie
import Derived.Test.YtpencchkfbekdaaDoorIto
import Derived.SevenTiedAt
import Derived.LaidMore
import Derived.Lib.LaidTab
import Derived.Stop.Joined
import Derived.Stop.LaidErr
import Derived.WalkKit
import Derived.ProofKit
import Derived.OpenShut
import Derived.ShutString
import Derived.ChangeOld
import Derived.Below
import Derived.SizedLaws
namespace Go.Proofs.YtpencchkfbekdaaDoor.fnExactTokText
open Go.ChangeShapes Go.WideShapes Go.ChangeAt Go.RowKit Go.Proofs.YtpencchkfbekdaaDoor.PFnExactTokText Go.Proofs.YtpencchkfbekdaaDoorW.PrintWords Go.Proofs.YtpencchkfbekdaaDoor.Opn
open Go.ChangeMaps (open_string shut_string)
set_option linter.unusedVariables false
theorem own : ownKnob Tryd.prog.godebug = none := by kernel_rfl
theorem laidOut : laidOutB Tryd.prog = true := by kernel_rfl
instance : Inhabited S46 := ⟨z46⟩
theorem opn46 {H : Type} {enc : TypeId × Value → H} {w : World} {spare : Nat → Bool} {held : Bool} : Opn enc Tryd.prog w spare held 46 k46 (fun x => (Lit.int .i64 x.f0).wf = true ∧ x.f1.size ≤ maxLen ∧ (Lit.int .i64 x.f2).wf = true) :=
  opn_struct (fun x : S46 => (x.f0, x.f1, x.f2)) (fun p => ⟨p.1, p.2.1, p.2.2⟩) (fun _ => rfl) Tryd.underlying46 (by kernel_rfl) (opnF_cons rfl (by kernel_rfl) (opn_int Tryd.underlying3) (opnF_cons rfl (by kernel_rfl) (opn_string Tryd.underlying9) (opnF_one rfl (by kernel_rfl) (opn_int Tryd.underlying3))))
theorem door_met (os : Os) (args : Array Value) : laidMetH Tryd.prog Rows.fnExactTokTextRow.laid ((World.doorLaid Tryd.prog 400 os).forCall (fun _ _ => 0) ⟨#[], args, []⟩).memory :=
  laidMetH_of_parts3 (fuel := 8) (laidMet_of_run' 8 (by kernel_rfl) (by kernel_rfl)) (by kernel_rfl) (by kernel_rfl)
theorem tabT : (Tryd.prog.globals[0]?).map (·.type) = some 95 := by kernel_rfl
/-- What the condition gives the walk: the table of powers of ten. -/
theorem tab_of {W : World} (h : laidMetH Tryd.prog Rows.fnExactTokTextRow.laid W) : Go.Proofs.YtpencchkfbekdaaDoorW.PrintWords.TabW W := by
  rw [MakeChecks.laidMetH_plain _ _ _ (by kernel_rfl)] at h
  exact Go.Lib.tabIs_of_head (k := .u64) (zs := Go.Lib.pow10Tab) Go.Proofs.YtpencchkfbekdaaDoorW.PrintWords.tabG tabT Tryd.underlying95 Tryd.underlying85 (by kernel_rfl) (by kernel_rfl) h.tail.tail
set_option maxRecDepth 100000 in
theorem lifted (os : Os) (started : os.Started) (H : Type) (enc : TypeId × Value → H) :
    ReturnsInHanded {} Tryd.checked os 5 .any (fun w args => (Rows.fnExactTokTextSpec.pre enc Tryd.prog Tryd.f5 [] false w args ∧ laidMetH Tryd.prog Rows.fnExactTokTextRow.laid w) ∧ sizedMet enc Tryd.prog Tryd.f5 (OpenSpec.ofChange Rows.fnExactTokTextSpec) false w args) (Rows.fnExactTokTextSpec.post enc Tryd.prog Tryd.f5 false true false false) := by
  refine returnsInHanded_of_change_and (C := Tryd.checked) (X := fun w _ => laidMetH Tryd.prog Rows.fnExactTokTextRow.laid w) (fun _ _ _ hh h => h.of_heap hh) own started (by kernel_rfl) Tryd.func5
    (ChangeSpec.witness_shaped (enc := enc) (C := Tryd.checked) (os := os) (X := fun w _ => laidMetH Tryd.prog Rows.fnExactTokTextRow.laid w) false (World.doorLaid Tryd.prog 400 os) #[.slice none 0 0] 8 rfl (World.shaped_of_RefB (by kernel_rfl) (by kernel_rfl)) (by kernel_rfl) (by kernel_rfl) (by kernel_rfl) (door_met os _)) ?_
  intro W base args ds gs before hval0 hW hcnd hsz0 hL _
  have hT := tab_of hL
  have hval : ∀ (j : Nat) t v, Tryd.f5.params[j]? = some t → args[j]? = some v → Value.okWide Tryd.prog W .any base t v := hval0
  have hW' := hW
  obtain ⟨p, q, hA0, hV, rfl, hfz, hnd⟩ := hW
  have hA : DataW.TrodAll enc Tryd.prog W 0 (fun _ => true) true Tryd.f5.params.toList args.toList ds p := hA0
  rw [Tryd.params5] at hA hval
  obtain ⟨v0, vs0, d0, ds0, p0, q0, hargs, rfl, rfl, h0, r0⟩ := trodAll_cons hA
  obtain ⟨rfl, rfl, rfl⟩ := trodAll_nil r0
  obtain rfl : args = #[v0] := by cases args; simp_all
  obtain ⟨rfl, rfl⟩ := trodVars_none hV
  obtain ⟨b0, len0, cap0, rfl⟩ := okWide_slice Tryd.underlying27 (hval 0 27 v0 rfl rfl)
  have k0 := h0
  have lt0 : ∀ x ∈ p0, x.block < W.heap.size := by obtain ⟨m, hm⟩ := k0; exact DataW.trod_lt m _ _ _ hm
  obtain ⟨fuel0, hf0⟩ := h0
  obtain ⟨x0, hx0, hq0⟩ := ((opn_slice Tryd.underlying27 (by kernel_rfl) opn46) : Opn enc Tryd.prog W (fun _ => true) true 27 (Kd.slice 46 k46) _) _ _ _ hf0
  obtain ⟨A0, c0, e0, hc0, hr0⟩ := hx0
  simp [Value.cells] at e0
  obtain ⟨rfl, rfl, rfl⟩ := e0
  clear hA0 hval0 hsz0
  obtain ⟨k, hk⟩ := Pure.FnExactTokText x0 hq0.1 hq0.2
  refine (laws_FnExactTokText.calls (r := true) (w := W) (hT := hT) (hr0 := hr0) (hc0 := hc0) (h := hk)).mono fun e W' ⟨he, bel0⟩ => ?_
  have bel : Below W.heap.size W W' := by first | exact bel0 | exact bel0.below
  subst he
  exact ⟨_, rfl, _, _, _, [], _, [], hW', trodAll_mk1 (shut_bool Tryd.underlying4 _), (trodAll_cons_mk (Below.trod laidOut (by kernel_rfl) (of_decide_eq_true (by kernel_rfl)) k0 bel lt0) trodAll_mk0), rfl, bel.frame _, fun h => by cases h⟩
theorem over : Rows.fnExactTokTextRow.holds Tryd.pinned (OpenSpec.ofChange Rows.fnExactTokTextSpec) :=
  OpenClaim.holds_of_wide 5 Tryd.f5 rfl rfl rfl rfl rfl rfl rfl ⟨rfl, rfl, rfl, rfl, rfl⟩ rfl rfl rfl rfl rfl (by kernel_rfl) Tryd.func5 (by kernel_rfl)
    (of_decide_eq_true (by kernel_rfl)) (by unfold Func.isWrapper; first | (rw [if_pos (by decide +kernel)]; kernel_rfl) | (rw [if_neg (by decide +kernel)]; exact ⟨rfl, rfl⟩))
    (fun os started H enc _ => lifted os started H enc)
theorem proved : Rows.FnExactTokTextSaid := over
#print axioms proved
end Go.Proofs.YtpencchkfbekdaaDoor.fnExactTokText
namespace Go.Proofs.YtpencchkfbekdaaDoor
open Go
/-- THE TIED CARD: the law's row, its listed variables tied to the program's text (the tie is given). -/
theorem fnExactTokText_holds : Rows.FnExactTokTextCardSaid :=
  Claim7.holds_tied_plain_at .later [] [.data, .data, .data] true (true, "bfa6fe19e930be4e8ea1dfdcf71b0b447943abdbd8d198b0c9c843cfeff0878d") false
    fnExactTokText.proved (fun _ h => by cases h) (by kernel_rfl) (fun _ h => by cases h) fnExactTokText_row_tie rfl ⟨rfl, rfl⟩ (by kernel_rfl) rfl
    (fun f fn hf hfn => by
      obtain rfl : f = 5 := Option.some.inj ((show Tryd.prog.funcNamed "loop.example/g00476/laws.FnExactTokText" = some 5 by kernel_rfl).symm.trans hf) |>.symm
      obtain rfl : fn = Tryd.f5 := (Option.some.inj (Tryd.func5.symm.trans hfn)).symm
      refine ⟨by kernel_rfl, fun j t ht => ?_⟩
      have hw : ∀ x ∈ Tryd.f5.params.toList, Tryd.prog.wantsStandIn x = false := by
        rw [Tryd.params5]
        intro x hx
        simp only [List.mem_cons, List.not_mem_nil, or_false] at hx
        subst hx
        kernel_rfl
      exact hw t (by
        have := Array.mem_of_getElem? ht
        simpa using this))
    (by kernel_rfl)
end Go.Proofs.YtpencchkfbekdaaDoor
