/- Contracts of functions that the claim reaches, over data without addresses, and what follows of them (text P29). No conditions beside those that each theorem names. -/
import Derived.Test.YtmmdgciefehbcaaGreatDoorP28
import Derived.ChangeOld
import Derived.Below
import Derived.SizedLaws
set_option linter.unusedVariables false
set_option linter.unusedSimpArgs false
namespace Go.Proofs.YtmmdgciefehbcaaGreatDoor.Ax
open Go.RowKit Go.ChangeShapes Go.WideShapes Go.ChangeAt
section
variable {H : Type} {enc : TypeId × Value → H} {w : World} {spare : Nat → Bool} {held : Bool}
theorem listE : ∀ {xs : List D}, (∀ d ∈ xs, ∃ x : Ex, d = encE x ∧ goodE x) → ∃ l, xs = encEs l ∧ goodEs l
  | [], _ => ⟨[], rfl, trivial⟩
  | d :: r, h => by
    obtain ⟨x, rfl, hx⟩ := h d (by simp)
    obtain ⟨l, rfl, hl⟩ := listE (xs := r) fun d hd => h d (by simp [hd])
    exact ⟨x :: l, rfl, hx, hl⟩
theorem listS : ∀ {xs : List D}, (∀ d ∈ xs, ∃ x : Sm, d = encS x ∧ goodS x) → ∃ l, xs = encSs l ∧ goodSs l
  | [], _ => ⟨[], rfl, trivial⟩
  | d :: r, h => by
    obtain ⟨x, rfl, hx⟩ := h d (by simp)
    obtain ⟨l, rfl, hl⟩ := listS (xs := r) fun d hd => h d (by simp [hd])
    exact ⟨x :: l, rfl, hx, hl⟩
theorem listA : ∀ {xs : List D}, (∀ d ∈ xs, ∃ x : Ar, d = encA x ∧ goodA x) → ∃ l, xs = encAs l ∧ goodAs l
  | [], _ => ⟨[], rfl, trivial⟩
  | d :: r, h => by
    obtain ⟨x, rfl, hx⟩ := h d (by simp)
    obtain ⟨l, rfl, hl⟩ := listA (xs := r) fun d hd => h d (by simp [hd])
    exact ⟨x :: l, rfl, hx, hl⟩
theorem encEs_len' (l : List Ex) : (encEs l).length ≤ maxLen → l.length ≤ 9223372036854775807 := by rw [encEs_len]; exact fun h => h
theorem opnE : ∀ m, OpD m enc Tryz.prog w spare held 61 4 (fun d => ∃ x : Ex, d = encE x ∧ goodE x)
  | 0 => opD_zero
  | m + 1 => by
    refine OpD.imp (opD_struct Tryz.underlying61 (by kernel_rfl) (opDF_cons (sz := 1) (sz' := 3) rfl (by kernel_rfl) (opD_int Tryz.underlying3) (opDF_cons (sz := 1) (sz' := 2) rfl (by kernel_rfl) (opD_int Tryz.underlying3) (opDF_cons (sz := 1) (sz' := 1) rfl (by kernel_rfl) (opD_string Tryz.underlying9) (opDF_one rfl (by kernel_rfl) (opD_slice Tryz.underlying59 (by kernel_rfl) (by decide) (opnE m))))))) ?_
    rintro d ⟨ds, rfl, h⟩
    rcases ds with _ | ⟨d1, _ | ⟨d2, _ | ⟨d3, _ | ⟨d4, _ | _⟩⟩⟩⟩ <;> simp only [All2, and_false, false_and] at h
    obtain ⟨⟨k, rfl⟩, ⟨n, rfl⟩, ⟨s, rfl, hs⟩, ⟨xs, rfl, hl, hx⟩, _⟩ := h
    obtain ⟨l, rfl, hg⟩ := listE hx
    exact ⟨.mk k n s l, rfl, hs, encEs_len' l hl, hg⟩
theorem opnS : ∀ m, OpD m enc Tryz.prog w spare held 63 19 (fun d => ∃ x : Sm, d = encS x ∧ goodS x)
  | 0 => opD_zero
  | m + 1 => by
    refine OpD.imp (opD_struct Tryz.underlying63 (by kernel_rfl) (opDF_cons (sz := 1) (sz' := 18) rfl (by kernel_rfl) (opD_int Tryz.underlying3) (opDF_cons (sz := 1) (sz' := 17) rfl (by kernel_rfl) (opD_string Tryz.underlying9) (opDF_cons (sz := 4) (sz' := 13) rfl (by kernel_rfl) (opnE m) (opDF_cons (sz := 4) (sz' := 9) rfl (by kernel_rfl) (opnE m) (opDF_cons (sz := 4) (sz' := 5) rfl (by kernel_rfl) (opnE m) (opDF_cons (sz := 4) (sz' := 1) rfl (by kernel_rfl) (opnE m) (opDF_one rfl (by kernel_rfl) (opD_slice Tryz.underlying23 (by kernel_rfl) (by decide) (opnS m)))))))))) ?_
    rintro d ⟨ds, rfl, h⟩
    rcases ds with _ | ⟨d1, _ | ⟨d2, _ | ⟨d3, _ | ⟨d4, _ | ⟨d5, _ | ⟨d6, _ | ⟨d7, _ | _⟩⟩⟩⟩⟩⟩⟩ <;> simp only [All2, and_false, false_and] at h
    obtain ⟨⟨k, rfl⟩, ⟨s, rfl, hs⟩, ⟨a, rfl, ga⟩, ⟨e, rfl, ge⟩, ⟨lo, rfl, glo⟩, ⟨hi, rfl, ghi⟩, ⟨xs, rfl, hl, hx⟩, _⟩ := h
    obtain ⟨l, rfl, hg⟩ := listS hx
    exact ⟨.mk k s a e lo hi l, rfl, hs, by rw [encSs_len] at hl; exact hl, ga, ge, glo, ghi, hg⟩
theorem opnA (m : Nat) : OpD (m + 1) enc Tryz.prog w spare held 57 2 (fun d => ∃ x : Ar, d = encA x ∧ goodA x) := by
  refine OpD.imp (opD_struct Tryz.underlying57 (by kernel_rfl) (opDF_cons (sz := 1) (sz' := 1) rfl (by kernel_rfl) (opD_string Tryz.underlying9) (opDF_one rfl (by kernel_rfl) (opD_int Tryz.underlying3)))) ?_
  rintro d ⟨ds, rfl, h⟩
  rcases ds with _ | ⟨d1, _ | ⟨d2, _ | _⟩⟩ <;> simp only [All2, and_false, false_and] at h
  obtain ⟨⟨s, rfl, hs⟩, ⟨n, rfl⟩, _⟩ := h
  exact ⟨⟨s, n⟩, rfl, hs⟩
theorem opnP (m : Nat) : OpD (m + 2) enc Tryz.prog w spare held 25 2 (fun d => ∃ x : Pg, d = encP x ∧ goodP x) := by
  refine OpD.imp (opD_struct Tryz.underlying25 (by kernel_rfl) (opDF_cons (sz := 1) (sz' := 1) rfl (by kernel_rfl) (opD_slice Tryz.underlying22 (by kernel_rfl) (by decide) (opnA m)) (opDF_one rfl (by kernel_rfl) (opD_slice Tryz.underlying23 (by kernel_rfl) (by decide) (opnS (m + 1)))))) ?_
  rintro d ⟨ds, rfl, h⟩
  rcases ds with _ | ⟨d1, _ | ⟨d2, _ | _⟩⟩ <;> simp only [All2, and_false, false_and] at h
  obtain ⟨⟨xs, rfl, hl, hx⟩, ⟨ys, rfl, hl2, hy⟩, _⟩ := h
  obtain ⟨a, rfl, ga⟩ := listA hx
  obtain ⟨b, rfl, gb⟩ := listS hy
  exact ⟨⟨a, b⟩, rfl, by rw [encAs_len] at hl; exact hl, by rw [encSs_len] at hl2; exact hl2, ga, gb⟩
end
/-- A contract over data alone, at the world of an entry. -/
theorem calls_of {P : Program} {f : FuncId} {d : D} {b : Bool} (hc : AC P f [.d d] [] (isR (.d (.b b)))) (W : World) (hgd : Gd W fun _ => False) (v : Value) (h : RepC W (capI W) d v.cells.toList) (hv : (d.isAg = true ∧ ∃ cs, v = .agg cs) ∨ (d.isAg = false ∧ v.oneCell' = true)) :
    Calls P f #[v] W fun e W' => e = .returned (.bool b) ∧ Below W.heap.size W W' := by
  have hc' : Plain P f ∧ ∀ w I β (vs : List Value), Gd w (XF β []) → Fin w I β [] → (∀ x ∈ [T.d d], ∀ k ∈ x.keys, fKey k) → All2 (RelT w I β) [T.d d] vs →
    Calls P f vs.toArray w fun e w' => ∃ v r Fo I' β', e = .returned v ∧ Post (isR (.d (.b b))) w I β [] v w' r Fo I' β' := by unfold AC at hc; exact hc
  refine (hc'.2 W (capI W) ⟨fun _ => 0, fun _ _ => none⟩ [v] (hgd.step (fun _ _ _ => rfl) fun b => fun ⟨n, o, hn, _⟩ => by simp at hn) ⟨⟨fun k o h => by cases k <;> simp [fobj] at h, fun k k' o o' b h => by cases k <;> simp [fobj] at h, capI_new W⟩, fun n o h => by simp at h⟩ (by simp [T.keys]) ⟨⟨h, hv⟩, trivial⟩).mono ?_
  rintro e W' ⟨v', r, Fo, I', β', rfl, p⟩
  obtain ⟨rfl, rfl⟩ := p.pr
  refine ⟨congrArg Ending.returned (repD_b p.v), p.fr.os, p.fr.tape, p.fr.output, p.fr.size, fun k hk => (p.fr.block k hk ?_).1⟩
  rintro ⟨n, o, hn, _⟩
  simp at hn
end Go.Proofs.YtmmdgciefehbcaaGreatDoor.Ax
