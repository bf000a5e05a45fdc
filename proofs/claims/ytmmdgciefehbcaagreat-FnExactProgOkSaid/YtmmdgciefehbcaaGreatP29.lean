/- The row of the law FnExactProgOk: whatever is handed to it, it answers true and what it is handed reads behind the call as before. Conditions: none beside the row's own. -/
import Derived.Test.YtmmdgciefehbcaaGreatRows
import Derived.Test.YtmmdgciefehbcaaGreatP28
import Derived.ChangeOld
import Derived.Below
import Derived.SizedLaws
set_option linter.unusedVariables false
set_option linter.unusedSimpArgs false
namespace Go.Proofs.YtmmdgciefehbcaaGreat.Ax
open Go.RowKit Go.ChangeShapes Go.WideShapes Go.ChangeAt
section
variable {H : Type} {enc : TypeId × Value → H} {w : World} {spare : Nat → Bool} {held : Bool}
theorem listE : ∀ {xs : List D}, (∀ d ∈ xs, ∃ x : Ex, d = encE x ∧ goodE x) → ∃ l, xs = encEs l ∧ goodEs l
  | [], _ => ⟨[], rfl, trivial⟩
  | d :: r, h => by
    obtain ⟨x, rfl, hx⟩ := h d (by simp)
    obtain ⟨l, rfl, hl⟩ := listE (xs := r) fun d hd => h d (by simp [hd])
    exact ⟨x :: l, rfl, hx, hl⟩
theorem listS : ∀ {xs : List D}, (∀ d ∈ xs, ∃ x : Sm, d = encS x ∧ goodS x) → ∃ l, xs = encSs l ∧ goodSs l
  | [], _ => ⟨[], rfl, trivial⟩
  | d :: r, h => by
    obtain ⟨x, rfl, hx⟩ := h d (by simp)
    obtain ⟨l, rfl, hl⟩ := listS (xs := r) fun d hd => h d (by simp [hd])
    exact ⟨x :: l, rfl, hx, hl⟩
theorem listA : ∀ {xs : List D}, (∀ d ∈ xs, ∃ x : Ar, d = encA x ∧ goodA x) → ∃ l, xs = encAs l ∧ goodAs l
  | [], _ => ⟨[], rfl, trivial⟩
  | d :: r, h => by
    obtain ⟨x, rfl, hx⟩ := h d (by simp)
    obtain ⟨l, rfl, hl⟩ := listA (xs := r) fun d hd => h d (by simp [hd])
    exact ⟨x :: l, rfl, hx, hl⟩
theorem encEs_len' (l : List Ex) : (encEs l).length ≤ maxLen → l.length ≤ 9223372036854775807 := by rw [encEs_len]; exact fun h => h
theorem opnE : ∀ m, OpD m enc Tryz.prog w spare held 62 4 (fun d => ∃ x : Ex, d = encE x ∧ goodE x)
  | 0 => opD_zero
  | m + 1 => by
    refine OpD.imp (opD_struct Tryz.underlying62 (by kernel_rfl) (opDF_cons (sz := 1) (sz' := 3) rfl (by kernel_rfl) (opD_int Tryz.underlying3) (opDF_cons (sz := 1) (sz' := 2) rfl (by kernel_rfl) (opD_int Tryz.underlying3) (opDF_cons (sz := 1) (sz' := 1) rfl (by kernel_rfl) (opD_string Tryz.underlying9) (opDF_one rfl (by kernel_rfl) (opD_slice Tryz.underlying60 (by kernel_rfl) (by decide) (opnE m))))))) ?_
    rintro d ⟨ds, rfl, h⟩
    rcases ds with _ | ⟨d1, _ | ⟨d2, _ | ⟨d3, _ | ⟨d4, _ | _⟩⟩⟩⟩ <;> simp only [All2, and_false, false_and] at h
    obtain ⟨⟨k, rfl⟩, ⟨n, rfl⟩, ⟨s, rfl, hs⟩, ⟨xs, rfl, hl, hx⟩, _⟩ := h
    obtain ⟨l, rfl, hg⟩ := listE hx
    exact ⟨.mk k n s l, rfl, hs, encEs_len' l hl, hg⟩
theorem opnS : ∀ m, OpD m enc Tryz.prog w spare held 64 19 (fun d => ∃ x : Sm, d = encS x ∧ goodS x)
  | 0 => opD_zero
  | m + 1 => by
    refine OpD.imp (opD_struct Tryz.underlying64 (by kernel_rfl) (opDF_cons (sz := 1) (sz' := 18) rfl (by kernel_rfl) (opD_int Tryz.underlying3) (opDF_cons (sz := 1) (sz' := 17) rfl (by kernel_rfl) (opD_string Tryz.underlying9) (opDF_cons (sz := 4) (sz' := 13) rfl (by kernel_rfl) (opnE m) (opDF_cons (sz := 4) (sz' := 9) rfl (by kernel_rfl) (opnE m) (opDF_cons (sz := 4) (sz' := 5) rfl (by kernel_rfl) (opnE m) (opDF_cons (sz := 4) (sz' := 1) rfl (by kernel_rfl) (opnE m) (opDF_one rfl (by kernel_rfl) (opD_slice Tryz.underlying23 (by kernel_rfl) (by decide) (opnS m)))))))))) ?_
    rintro d ⟨ds, rfl, h⟩
    rcases ds with _ | ⟨d1, _ | ⟨d2, _ | ⟨d3, _ | ⟨d4, _ | ⟨d5, _ | ⟨d6, _ | ⟨d7, _ | _⟩⟩⟩⟩⟩⟩⟩ <;> simp only [All2, and_false, false_and] at h
    obtain ⟨⟨k, rfl⟩, ⟨s, rfl, hs⟩, ⟨a, rfl, ga⟩, ⟨e, rfl, ge⟩, ⟨lo, rfl, glo⟩, ⟨hi, rfl, ghi⟩, ⟨xs, rfl, hl, hx⟩, _⟩ := h
    obtain ⟨l, rfl, hg⟩ := listS hx
    exact ⟨.mk k s a e lo hi l, rfl, hs, by rw [encSs_len] at hl; exact hl, ga, ge, glo, ghi, hg⟩
theorem opnA (m : Nat) : OpD (m + 1) enc Tryz.prog w spare held 58 2 (fun d => ∃ x : Ar, d = encA x ∧ goodA x) := by
  refine OpD.imp (opD_struct Tryz.underlying58 (by kernel_rfl) (opDF_cons (sz := 1) (sz' := 1) rfl (by kernel_rfl) (opD_string Tryz.underlying9) (opDF_one rfl (by kernel_rfl) (opD_int Tryz.underlying3)))) ?_
  rintro d ⟨ds, rfl, h⟩
  rcases ds with _ | ⟨d1, _ | ⟨d2, _ | _⟩⟩ <;> simp only [All2, and_false, false_and] at h
  obtain ⟨⟨s, rfl, hs⟩, ⟨n, rfl⟩, _⟩ := h
  exact ⟨⟨s, n⟩, rfl, hs⟩
theorem opnP (m : Nat) : OpD (m + 2) enc Tryz.prog w spare held 25 2 (fun d => ∃ x : Pg, d = encP x ∧ goodP x) := by
  refine OpD.imp (opD_struct Tryz.underlying25 (by kernel_rfl) (opDF_cons (sz := 1) (sz' := 1) rfl (by kernel_rfl) (opD_slice Tryz.underlying22 (by kernel_rfl) (by decide) (opnA m)) (opDF_one rfl (by kernel_rfl) (opD_slice Tryz.underlying23 (by kernel_rfl) (by decide) (opnS (m + 1)))))) ?_
  rintro d ⟨ds, rfl, h⟩
  rcases ds with _ | ⟨d1, _ | ⟨d2, _ | _⟩⟩ <;> simp only [All2, and_false, false_and] at h
  obtain ⟨⟨xs, rfl, hl, hx⟩, ⟨ys, rfl, hl2, hy⟩, _⟩ := h
  obtain ⟨a, rfl, ga⟩ := listA hx
  obtain ⟨b, rfl, gb⟩ := listS hy
  exact ⟨⟨a, b⟩, rfl, by rw [encAs_len] at hl; exact hl, by rw [encSs_len] at hl2; exact hl2, ga, gb⟩
end
/-- A contract over data alone, at the world of an entry. -/
theorem calls_of {P : Program} {f : FuncId} {d : D} {b : Bool} (hc : AC P f [.d d] [] (isR (.d (.b b)))) (W : World) (v : Value) (h : RepC W (capI W) d v.cells.toList) (hv : (d.isAg = true ∧ ∃ cs, v = .agg cs) ∨ (d.isAg = false ∧ v.oneCell' = true)) :
    Calls P f #[v] W fun e W' => e = .returned (.bool b) ∧ Below W.heap.size W W' := by
  have hc' : Plain P f ∧ ∀ w I β (vs : List Value), Fin w I β [] → (∀ x ∈ [T.d d], ∀ k ∈ x.keys, fKey k) → All2 (RelT w I β) [T.d d] vs →
    Calls P f vs.toArray w fun e w' => ∃ v r Fo I' β', e = .returned v ∧ Post (isR (.d (.b b))) w I β [] v w' r Fo I' β' := by unfold AC at hc; exact hc
  refine (hc'.2 W (capI W) ⟨fun _ => 0, fun _ _ => none⟩ [v] ⟨⟨fun k o h => by cases k <;> simp [fobj] at h, fun k k' o o' b h => by cases k <;> simp [fobj] at h, capI_new W⟩, fun n o h => by simp at h⟩ (by simp [T.keys]) ⟨⟨h, hv⟩, trivial⟩).mono ?_
  rintro e W' ⟨v', r, Fo, I', β', rfl, p⟩
  obtain ⟨rfl, rfl⟩ := p.pr
  refine ⟨congrArg Ending.returned (repD_b p.v), p.fr.os, p.fr.tape, p.fr.output, p.fr.size, fun k hk => (p.fr.block k hk ?_).1⟩
  rintro ⟨n, o, hn, _⟩
  simp at hn
end Go.Proofs.YtmmdgciefehbcaaGreat.Ax
namespace Go.Proofs.YtmmdgciefehbcaaGreat.fnExactProgOk
open Go.RowKit Go.ChangeShapes Go.WideShapes Go.ChangeAt Go.Proofs.YtmmdgciefehbcaaGreat.Ax
theorem own : ownKnob Tryz.prog.godebug = none := by kernel_rfl
theorem laidOut : laidOutB Tryz.prog = true := by kernel_rfl
set_option maxRecDepth 100000 in
theorem lifted (os : Os) (started : os.Started) (H : Type) (enc : TypeId × Value → H) :
    ReturnsInHanded {} Tryz.checked os 3 .any (Rows.fnExactProgOkSpec.pre6 enc Tryz.prog Tryz.f3 Rows.fnExactProgOkRow.domain false) (Rows.fnExactProgOkSpec.post enc Tryz.prog Tryz.f3 false true false false) := by
  refine returnsInHanded_of_change_sized (C := Tryz.checked) own started (by kernel_rfl) Tryz.func3
    (ChangeSpec.witness6 (enc := enc) (C := Tryz.checked) false ⟨#[], #[.agg #[.slice none 0 0, .slice none 0 0]], []⟩ 8 (by kernel_rfl) (by kernel_rfl) (by kernel_rfl) (by kernel_rfl)) ?_
  intro W base args ds gs before hval0 hW hcnd hsz0 _
  have hval : ∀ (j : Nat) t v, Tryz.f3.params[j]? = some t → args[j]? = some v → Value.okWide Tryz.prog W .any base t v := hval0
  have hW' := hW
  obtain ⟨p, q, hA0, hV, rfl, hfz, hnd⟩ := hW
  have hA : DataW.TrodAll enc Tryz.prog W 0 (fun _ => true) true Tryz.f3.params.toList args.toList ds p := hA0
  rw [Tryz.params3] at hA hval
  obtain ⟨v0, vs0, d0, ds0, p0, q0, hargs, rfl, rfl, h0, r0⟩ := trodAll_cons hA
  obtain ⟨rfl, rfl, rfl⟩ := trodAll_nil r0
  obtain rfl : args = #[v0] := by cases args; simp_all
  obtain ⟨rfl, rfl⟩ := trodVars_none hV
  obtain ⟨cs0, rfl, _⟩ := okWide_struct Tryz.underlying25 (hval 0 25 v0 rfl rfl)
  have k0 := h0
  have lt0 : ∀ x ∈ p0, x.block < W.heap.size := by obtain ⟨m, hm⟩ := k0; exact DataW.trod_lt m _ _ _ hm
  obtain ⟨fuel0, hf0⟩ := h0
  obtain ⟨d, hd1, hd2, x, rfl, hg⟩ := opnP fuel0 fuel0 (by omega) _ _ hf0
  refine (calls_of (FnExactProgOk_c x hg) W (.agg cs0) hd1 (.inl ⟨rfl, _, rfl⟩)).mono fun e W' ⟨he, bel⟩ => ?_
  subst he
  exact ⟨_, rfl, _, _, _, [], _, [], hW', trodAll_mk1 (shut_bool Tryz.underlying4 _), (trodAll_cons_mk (Below.trod laidOut (by kernel_rfl) (of_decide_eq_true (by kernel_rfl)) k0 bel lt0) trodAll_mk0), rfl, bel.frame _, fun h => by cases h⟩
theorem over : Rows.fnExactProgOkRow.holds Tryz.pinned (OpenSpec.ofChange Rows.fnExactProgOkSpec) :=
  OpenClaim.holds_of_wide 3 Tryz.f3 rfl rfl rfl rfl rfl rfl rfl ⟨rfl, rfl, rfl, rfl, rfl⟩ rfl rfl rfl rfl rfl (by kernel_rfl) Tryz.func3 (by kernel_rfl)
    (of_decide_eq_true (by kernel_rfl)) (by unfold Func.isWrapper; first | (rw [if_pos (by decide +kernel)]; kernel_rfl) | (rw [if_neg (by decide +kernel)]; exact ⟨rfl, rfl⟩))
    (fun os started H enc _ => lifted os started H enc)
end Go.Proofs.YtmmdgciefehbcaaGreat.fnExactProgOk
namespace Go.Proofs.YtmmdgciefehbcaaGreat
theorem fnExactProgOk_holds : Rows.FnExactProgOkSaid := fnExactProgOk.over
#print axioms fnExactProgOk_holds
end Go.Proofs.YtmmdgciefehbcaaGreat
