/- Contracts of functions that the claim reaches, over data without addresses, and what follows of them (text R1). No conditions beside those that each theorem names. -/
import Derived.Test.YtmclamindmnigaaH11
import Derived.ChangeArms
import Derived.WalkKit
import Derived.ProofKit
import Derived.OpenShut
import Derived.ChangeOld
import Derived.Deep.Slices
import Derived.Below
import Derived.SizedLaws
set_option linter.unusedVariables false
set_option linter.unusedSimpArgs false
namespace Go.Proofs.Ytmclamindmnigaa.Ax
open Go.RowKit Go.ChangeShapes Go.WideShapes
/-! ### What an argument that can be read as data is -/
def capI (w : World) : Im := fun b => match w.heap[b]? with
  | some (.cells c _ _) => c.size
  | _ => 0
theorem capI_lt {w : World} {b o : Nat} {u : Value} (h : w.cell? ⟨b, o, none⟩ = some u) : o < capI w b := by
  unfold World.cell? at h
  unfold capI
  split at h
  · rename_i c _ _ hb
    simp only at hb
    rw [hb]
    simp only [Option.isSome_none, Bool.false_eq_true, if_false] at h
    exact (Array.getElem?_eq_some_iff.1 h).1
  · cases h
theorem capI_new (w : World) (b : Nat) (h : w.heap.size ≤ b) : capI w b = 0 := by
  unfold capI
  rw [Array.getElem?_eq_none h]
section
variable {H : Type} {enc : TypeId × Value → H} {P : Program} {w : World} {spare : Nat → Bool} {held : Bool}
def OpD (m : Nat) (enc : TypeId × Value → H) (P : Program) (w : World) (spare : Nat → Bool) (held : Bool) (t : TypeId) (sz : Nat) (G : D → Prop) : Prop :=
  ∀ fuel, fuel ≤ m → ∀ cs x, DataW.trod enc P w 0 spare held fuel t cs = some x → ∃ d, RepC w (capI w) d cs ∧ d.size = sz ∧ G d
theorem opD_zero {t : TypeId} {sz : Nat} {G : D → Prop} : OpD 0 enc P w spare held t sz G := fun fuel hf cs x hx => by
  obtain rfl : fuel = 0 := by omega
  simp [DataW.trod] at hx
theorem opD_int {m : Nat} {t : TypeId} {k : IntKind} (ht : P.underlying t = some (.int k)) : OpD m enc P w spare held t 1 (fun d => ∃ n, d = .i k n) := by
  intro fuel _ cs x h
  cases fuel with
  | zero => simp [DataW.trod] at h
  | succ fuel =>
    rw [DataW.trod.eq_def] at h
    simp only [ht] at h
    split at h <;> first | (rename_i h1; cases h1) | skip
    all_goals first | contradiction | skip
    all_goals try (simp at h; done)
    rename_i k' n
    simp only [Option.ite_none_right_eq_some] at h
    obtain ⟨⟨rfl, h1⟩, h2⟩ := h
    exact ⟨.i _ n, by simp [RepC], rfl, n, rfl⟩
theorem add_cell {a : Addr} (h : a.spot = none) (j : Nat) : a.add j = ⟨a.block, a.off + j, none⟩ := by
  cases a with | mk b o s =>
  simp only at h
  subst h
  unfold Addr.add
  split
  · rename_i h0; subst h0; rfl
  · rfl
theorem opD_slice {m : Nat} {t e : TypeId} {sz : Nat} {G : D → Prop} (ht : P.underlying t = some (.slice e)) (hs : P.cellsOf e = sz) (h0 : 0 < sz) (h : OpD m enc P w spare held e sz G) :
    OpD m enc P w spare held t 1 (fun d => ∃ xs, d = .sl xs ∧ xs.length ≤ maxLen ∧ ∀ x ∈ xs, G x) := by
  intro fuel hfm cs x hx
  rcases DataW.trod_slice ht hx with ⟨rfl, rfl⟩ | ⟨a, len, cap, elems, rest, n, rfl, rfl, rfl, hb, hl, hm, hlen, hel, _, _⟩
  · exact ⟨.sl [], by simp only [RepC]; exact ⟨none, 0, [], 0, rfl, by simp, rfl, by simp, .inl trivial⟩, rfl, [], rfl, by simp, by simp⟩
  · have key : ∀ k, k ≤ len → ∃ (ds : List D) (vs : List Value), ds.length = k ∧ RepL w (capI w) ds vs ∧ (∀ x ∈ ds, x.size = sz ∧ G x) ∧ vs.length = k * sz ∧ ∀ (j : Nat) (u : Value), vs[j]? = some u → w.cell? (a.add j) = some u := by
      intro k
      induction k with
      | zero => intro _; exact ⟨[], [], rfl, rfl, by simp, by simp, by simp⟩
      | succ k ih =>
        intro hk
        obtain ⟨ds, vs, h1, h2, h3, h4, h5⟩ := ih (by omega)
        have hkey := hel k (by omega)
        rw [List.getElem?_eq_getElem (by omega)] at hkey
        obtain ⟨cs', c1, c2⟩ := Option.bind_eq_some_iff.1 hkey
        obtain ⟨d, d1, d2, d3⟩ := h n (by omega) cs' _ c2
        obtain ⟨_, c3, c4⟩ := World.cells?_some c1
        rw [hs] at c3 c4
        refine ⟨ds ++ [d], vs ++ cs', by simp [h1], RepL.append h2 (RepL.one_of d1), fun x hx => ?_, by rw [List.length_append, h4, c3, Nat.succ_mul], fun j u hj => ?_⟩
        · rcases List.mem_append.1 hx with hx | hx
          · exact h3 x hx
          · rw [List.mem_singleton.1 hx]; exact ⟨d2, d3⟩
        · rcases Nat.lt_or_ge j vs.length with hj' | hj'
          · rw [List.getElem?_append_left hj'] at hj
            exact h5 j u hj
          · rw [List.getElem?_append_right hj'] at hj
            have hlt := (List.getElem?_eq_some_iff.1 hj).1
            have h6 := c4 (j - vs.length) (by omega)
            rw [Go.Deep.add_add] at h6
            rw [show k * sz + (j - vs.length) = j by omega] at h6
            rw [h6]
            exact hj
    obtain ⟨ds, vs, h1, h2, h3, h4, h5⟩ := key len (Nat.le_refl _)
    refine ⟨.sl ds, ?_, rfl, ds, rfl, by omega, fun x hx => (h3 x hx).2⟩
    simp only [RepC]
    refine ⟨some a, cap, vs, sz, by rw [h1], by omega, h2, fun x hx => (h3 x hx).1, ?_⟩
    rcases Nat.eq_zero_or_pos len with hz | hz
    · exact .inl (List.length_eq_zero_iff.1 (by omega))
    · have hv : 0 < vs.length := by rw [h4]; exact Nat.mul_pos hz h0
      have hspot : a.spot = none := by
        have := h5 0 vs[0] (List.getElem?_eq_getElem hv)
        cases hq : a.spot with
        | none => rfl
        | some s =>
          exfalso
          unfold World.cell? at this
          split at this
          · have hss : (a.add 0).spot.isSome = true := by unfold Addr.add; simp [hq]
            rw [if_pos hss] at this
            cases this
          · cases this
      refine .inr ⟨a, rfl, hspot, fun j u hj => ?_⟩
      have h6 := h5 j u hj
      rw [add_cell hspot] at h6
      exact ⟨h6, capI_lt h6⟩
theorem opnB (m : Nat) (P : Program) (t e : TypeId) (ht : P.underlying t = some (.slice e)) (he : P.underlying e = some (.int .u8)) (hs : P.cellsOf e = 1) : OpD m enc P w spare held t 1 (fun d => ∃ xs, d = .sl xs ∧ xs.length ≤ maxLen ∧ ∀ x ∈ xs, ∃ n, x = .i .u8 n) :=
  opD_slice ht hs (by decide) (opD_int he)
end
/-- A contract over data alone, at the world of an entry. -/
theorem calls_of {P : Program} {f : FuncId} {d : D} {b : Bool} (hc : AC P f [.d d] [] (isR (.d (.b b)))) (W : World) (hgd : Gd W fun _ => False) (v : Value) (h : RepC W (capI W) d v.cells.toList) (hv : (d.isAg = true ∧ ∃ cs, v = .agg cs) ∨ (d.isAg = false ∧ v.oneCell' = true)) :
    Calls P f #[v] W fun e W' => e = .returned (.bool b) ∧ Below W.heap.size W W' := by
  have hc' : Plain P f ∧ ∀ w I β (vs : List Value), Gd w (XF β []) → Fin w I β [] → (∀ x ∈ [T.d d], ∀ k ∈ x.keys, fKey k) → All2 (RelT w I β) [T.d d] vs →
    Calls P f vs.toArray w fun e w' => ∃ v r Fo I' β', e = .returned v ∧ Post (isR (.d (.b b))) w I β [] v w' r Fo I' β' := by unfold AC at hc; exact hc
  refine (hc'.2 W (capI W) ⟨fun _ => 0, fun _ _ => none⟩ [v] (hgd.step (fun _ _ _ => rfl) fun b => fun ⟨n, o, hn, _⟩ => by simp at hn) ⟨⟨fun k o h => by cases k <;> simp [fobj] at h, fun k k' o o' b h => by cases k <;> simp [fobj] at h, capI_new W⟩, fun n o h => by simp at h⟩ (by simp [T.keys]) ⟨⟨h, hv⟩, trivial⟩).mono ?_
  rintro e W' ⟨v', r, Fo, I', β', rfl, p⟩
  obtain ⟨rfl, rfl⟩ := p.pr
  refine ⟨congrArg Ending.returned (repD_b p.v), p.fr.os, p.fr.tape, p.fr.output, p.fr.size, fun k hk => (p.fr.block k hk ?_).1⟩
  rintro ⟨n, o, hn, _⟩
  simp at hn
end Go.Proofs.Ytmclamindmnigaa.Ax
