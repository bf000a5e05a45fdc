/- Readings: what an argument that can be read as data is as a plain Lean value, kind by kind. No conditions. -/
import Derived.Test.YtmmdgciefehbcaaDoorWWords
import Derived.Deep.Slices
import Derived.ChangeArms
namespace Go.Proofs.YtmmdgciefehbcaaDoor.Opn
open Go.RowKit Go.ChangeShapes Go.WideShapes Go.Deep Go.Proofs.YtmmdgciefehbcaaDoorW.PrintWords
set_option linter.unusedVariables false
set_option linter.unusedSimpArgs false
section
variable {H : Type} {enc : TypeId × Value → H} {P : Program} {w : World} {spare : Nat → Bool} {held : Bool}

/-- Whatever of type t can be read is a value of the kind d with Q. -/
def Opn (enc : TypeId × Value → H) (P : Program) (w : World) (spare : Nat → Bool) (held : Bool) {α : Type} (t : TypeId) (d : Kd α) (Q : α → Prop) : Prop :=
  ∀ fuel cs x, DataW.trod enc P w 0 spare held fuel t cs = some x → ∃ a, d.K w a cs ∧ Q a

theorem opn_int {t : TypeId} {k : IntKind} (ht : P.underlying t = some (.int k)) : Opn enc P w spare held t (Kd.int k) (fun n => (Lit.int k n).wf = true) := by
  intro fuel cs x h
  cases fuel with
  | zero => simp [DataW.trod] at h
  | succ fuel =>
    rw [DataW.trod.eq_def] at h
    simp only [ht] at h
    split at h <;> first | (rename_i h1; cases h1) | skip
    all_goals first | contradiction | skip
    all_goals try (simp at h; done)
    rename_i k' n
    simp only [Option.ite_none_right_eq_some] at h
    obtain ⟨⟨rfl, h1⟩, h2⟩ := h
    exact ⟨n, rfl, h1⟩

theorem opn_bool {t : TypeId} (ht : P.underlying t = some .bool) : Opn enc P w spare held t Kd.bool (fun _ => True) := by
  intro fuel cs x h
  cases fuel with
  | zero => simp [DataW.trod] at h
  | succ fuel =>
    rw [DataW.trod.eq_def] at h
    simp only [ht] at h
    split at h <;> first | (rename_i h1; cases h1) | skip
    all_goals first | contradiction | skip
    all_goals try (simp at h; done)
    exact ⟨_, rfl, trivial⟩

theorem opn_string {t : TypeId} (ht : P.underlying t = some .string) : Opn enc P w spare held t Kd.string (fun s => s.size ≤ maxLen) := by
  intro fuel cs x h
  cases fuel with
  | zero => simp [DataW.trod] at h
  | succ fuel =>
    rw [DataW.trod.eq_def] at h
    simp only [ht] at h
    split at h <;> first | (rename_i h1; cases h1) | skip
    all_goals first | contradiction | skip
    all_goals try (simp at h; done)
    rename_i s
    simp only [Option.ite_none_right_eq_some] at h
    exact ⟨s, rfl, h.1⟩

theorem opn_slice {α : Type} {t e : TypeId} {d : Kd α} {Q : α → Prop} [Inhabited α] (ht : P.underlying t = some (.slice e)) (hs : P.cellsOf e = d.sz) (h : Opn enc P w spare held e d Q) :
    Opn enc P w spare held t (Kd.slice e d) (fun xs => xs.length ≤ maxLen ∧ ∀ x ∈ xs, Q x) := by
  intro fuel cs x hx
  rcases open_slice ht hx with ⟨rfl, rfl⟩ | ⟨a, len, cap, m, n, D, Pl, rfl, hb, hl, hm, hmm, rfl, hel⟩
  · exact ⟨[], ⟨none, 0, rfl, Nat.le_refl _, Kd.C_nil d w⟩, by simp, by simp⟩
  · have hlm : len ≤ m := by
      rw [hmm]
      split <;> omega
    obtain ⟨f, hf⟩ := choose_lt (α := α) (n := len) (p := fun i y => ∃ cs', w.cells? 0 (a.add (i * P.cellsOf e)) (P.cellsOf e) = some cs' ∧ d.K w y cs' ∧ Q y) (fun i hi => by
      obtain ⟨cs', h1, h2⟩ := hel i (by omega)
      obtain ⟨y, h3, h4⟩ := h n cs' _ h2
      exact ⟨y, cs', h1, h3, h4⟩)
    refine ⟨(List.range len).map f, ⟨some a, cap, by simp, by simpa using hl, ?_⟩, by simp; omega, by
      intro x hx
      simp only [List.mem_map, List.mem_range] at hx
      obtain ⟨i, hi, rfl⟩ := hx
      obtain ⟨_, _, _, h4⟩ := hf i hi
      exact h4⟩
    refine ⟨rfl, by simp only [maxLen] at hm; simp; omega, fun _ => ⟨a, rfl, fun j p hj => ?_⟩⟩
    have hjl : j < len := by
      have := (List.getElem?_eq_some_iff.1 hj).1
      simpa using this
    have hp : f j = p := by
      rw [List.getElem?_map, List.getElem?_range hjl] at hj
      exact Option.some.inj hj
    obtain ⟨cs', h1, h2, _⟩ := hf j hjl
    obtain ⟨_, h3, h4⟩ := World.cells?_some h1
    rw [hs] at h1 h3 h4
    refine ⟨cs', h3, hp ▸ h2, fun i u hu => ?_⟩
    have hi : i < d.sz := by
      have := (List.getElem?_eq_some_iff.1 hu).1
      omega
    have h5 := h4 i hi
    rw [Go.Deep.add_add] at h5
    rw [h5]
    exact hu

/-- The fields of a struct from the cell 'off' on. -/
def OpnF (enc : TypeId × Value → H) (P : Program) (w : World) (spare : Nat → Bool) (held : Bool) {α : Type} (fs : List Field) (off : Nat) (d : Kd α) (Q : α → Prop) : Prop :=
  ∀ (fuel : Nat) (cs : List Value), (∀ (i : Nat) (f : Field), fs[i]? = some f → ∃ y, DataW.trod enc P w 0 spare held fuel f.type ((cs.drop f.offset).take (P.cellsOf f.type)) = some y) → cs.length = off + d.sz → ∃ a, d.K w a (cs.drop off) ∧ Q a

theorem opnF_one {α : Type} {f : Field} {off : Nat} {d : Kd α} {Q : α → Prop} (ho : f.offset = off) (hs : P.cellsOf f.type = d.sz) (h : Opn enc P w spare held f.type d Q) : OpnF enc P w spare held [f] off d Q := by
  intro fuel cs hx hl
  obtain ⟨y, hy⟩ := hx 0 f rfl
  obtain ⟨a, h1, h2⟩ := h _ _ _ hy
  refine ⟨a, ?_, h2⟩
  rw [ho, hs, List.take_of_length_le (by simp; omega)] at h1
  exact h1

theorem opnF_cons {α β : Type} {f : Field} {fs : List Field} {off : Nat} {d : Kd α} {d' : Kd β} {Q : α → Prop} {Q' : β → Prop} (ho : f.offset = off) (hs : P.cellsOf f.type = d.sz) (h : Opn enc P w spare held f.type d Q)
    (h' : OpnF enc P w spare held fs (off + d.sz) d' Q') : OpnF enc P w spare held (f :: fs) off (Kd.pair d d') (fun p => Q p.1 ∧ Q' p.2) := by
  intro fuel cs hx hl
  obtain ⟨y, hy⟩ := hx 0 f rfl
  obtain ⟨a, h1, h2⟩ := h _ _ _ hy
  have hl' : cs.length = off + (d.sz + d'.sz) := hl
  obtain ⟨b, h3, h4⟩ := h' fuel cs (fun i g hg => hx (i + 1) g hg) (by omega)
  refine ⟨(a, b), ⟨_, _, ?_, h1, h3⟩, h2, h4⟩
  rw [ho, hs, ← List.drop_drop, List.take_append_drop]

theorem opn_struct {α β : Type} {t : TypeId} {fs : Array Field} {d : Kd β} {Q : β → Prop} (f : α → β) (g : β → α) (hfg : ∀ x, f (g x) = x) (ht : P.underlying t = some (.struct fs)) (hs : P.cellsOf t = d.sz)
    (h : OpnF enc P w spare held fs.toList 0 d Q) : Opn enc P w spare held t (Kd.iso d f) (fun a => Q (f a)) := by
  intro fuel cs x hx
  obtain ⟨xs, n, rfl, _, hl, hn, hf⟩ := DataW.trod_struct ht hx
  obtain ⟨b, h1, h2⟩ := h n cs (fun i f hi => by
    have hi' : fs[i]? = some f := by simpa using hi
    have hlt : i < xs.length := by
      rw [hn]
      exact (Array.getElem?_eq_some_iff.1 hi').1
    exact ⟨_, (hf i f hi').trans (List.getElem?_eq_getElem hlt)⟩) (by omega)
  refine ⟨g b, ?_, by simpa only [hfg] using h2⟩
  show d.K w (f (g b)) cs
  rw [hfg]
  simpa using h1
theorem opn_struct0 {β : Type} {t : TypeId} {fs : Array Field} {d : Kd β} {Q : β → Prop} (ht : P.underlying t = some (.struct fs)) (hs : P.cellsOf t = d.sz)
    (h : OpnF enc P w spare held fs.toList 0 d Q) : Opn enc P w spare held t d Q := opn_struct (fun x => x) (fun x => x) (fun _ => rfl) ht hs h
theorem Opn.imp {α : Type} {t : TypeId} {d : Kd α} {Q Q' : α → Prop} (h : Opn enc P w spare held t d Q) (hq : ∀ a, Q a → Q' a) : Opn enc P w spare held t d Q' := fun fuel cs x hx => by
  obtain ⟨a, h1, h2⟩ := h fuel cs x hx
  exact ⟨a, h1, hq a h2⟩
/-! ### readings by the number of steps: for what is nested in itself -/
def OpnB (m : Nat) (enc : TypeId × Value → H) (P : Program) (w : World) (spare : Nat → Bool) (held : Bool) {α : Type} (t : TypeId) (d : Kd α) (Q : α → Prop) : Prop :=
  ∀ fuel, fuel ≤ m → ∀ cs x, DataW.trod enc P w 0 spare held fuel t cs = some x → ∃ a, d.K w a cs ∧ Q a
theorem Opn.b {α : Type} {t : TypeId} {d : Kd α} {Q : α → Prop} (h : Opn enc P w spare held t d Q) (m : Nat) : OpnB m enc P w spare held t d Q := fun fuel _ cs x hx => h fuel cs x hx
theorem Opn.of_b {α : Type} {t : TypeId} {d : Kd α} {Q : α → Prop} (h : ∀ m, OpnB m enc P w spare held t d Q) : Opn enc P w spare held t d Q := fun fuel cs x hx => h fuel fuel (Nat.le_refl _) cs x hx
theorem OpnB.le {α : Type} {t : TypeId} {d : Kd α} {Q : α → Prop} {m n : Nat} (h : OpnB m enc P w spare held t d Q) (hn : n ≤ m) : OpnB n enc P w spare held t d Q := fun fuel hf cs x hx => h fuel (Nat.le_trans hf hn) cs x hx
theorem opnB_zero {α : Type} {t : TypeId} {d : Kd α} {Q : α → Prop} : OpnB 0 enc P w spare held t d Q := fun fuel hf cs x hx => by
  obtain rfl : fuel = 0 := by omega
  simp [DataW.trod] at hx
theorem opnB_slice {α : Type} {m : Nat} {t e : TypeId} {d : Kd α} {Q : α → Prop} [Inhabited α] (ht : P.underlying t = some (.slice e)) (hs : P.cellsOf e = d.sz) (h : OpnB m enc P w spare held e d Q) :
    OpnB m enc P w spare held t (Kd.slice e d) (fun xs => xs.length ≤ maxLen ∧ ∀ x ∈ xs, Q x) := by
  intro fuel hfm cs x hx
  rcases DataW.trod_slice ht hx with ⟨rfl, rfl⟩ | ⟨a, len, cap, elems, rest, n, rfl, rfl, rfl, hb, hl, hm, hlen, hel, _, _⟩
  · exact ⟨[], ⟨none, 0, rfl, Nat.le_refl _, Kd.C_nil d w⟩, by simp, by simp⟩
  · obtain ⟨f, hf⟩ := choose_lt (α := α) (n := len) (p := fun i y => ∃ cs', w.cells? 0 (a.add (i * P.cellsOf e)) (P.cellsOf e) = some cs' ∧ d.K w y cs' ∧ Q y) (fun i hi => by
      have key := hel i hi
      rw [List.getElem?_eq_getElem (by omega)] at key
      obtain ⟨cs', h1, h2⟩ := Option.bind_eq_some_iff.1 key
      obtain ⟨y, h3, h4⟩ := h n (by omega) cs' _ h2
      exact ⟨y, cs', h1, h3, h4⟩)
    refine ⟨(List.range len).map f, ⟨some a, cap, by simp, by simpa using hl, ?_⟩, by simp; omega, by
      intro x hx
      simp only [List.mem_map, List.mem_range] at hx
      obtain ⟨i, hi, rfl⟩ := hx
      obtain ⟨_, _, _, h4⟩ := hf i hi
      exact h4⟩
    refine ⟨rfl, by simp only [maxLen] at hm; simp; omega, fun _ => ⟨a, rfl, fun j p hj => ?_⟩⟩
    have hjl : j < len := by
      have := (List.getElem?_eq_some_iff.1 hj).1
      simpa using this
    have hp : f j = p := by
      rw [List.getElem?_map, List.getElem?_range hjl] at hj
      exact Option.some.inj hj
    obtain ⟨cs', h1, h2, _⟩ := hf j hjl
    obtain ⟨_, h3, h4⟩ := World.cells?_some h1
    rw [hs] at h1 h3 h4
    refine ⟨cs', h3, hp ▸ h2, fun i u hu => ?_⟩
    have hi : i < d.sz := by
      have := (List.getElem?_eq_some_iff.1 hu).1
      omega
    have h5 := h4 i hi
    rw [Go.Deep.add_add] at h5
    rw [h5]
    exact hu
/-- The fields of a struct from the cell 'off' on, by the number of steps. -/
def OpnFB (m : Nat) (enc : TypeId × Value → H) (P : Program) (w : World) (spare : Nat → Bool) (held : Bool) {α : Type} (fs : List Field) (off : Nat) (d : Kd α) (Q : α → Prop) : Prop :=
  ∀ (fuel : Nat), fuel ≤ m → ∀ (cs : List Value), (∀ (i : Nat) (f : Field), fs[i]? = some f → ∃ y, DataW.trod enc P w 0 spare held fuel f.type ((cs.drop f.offset).take (P.cellsOf f.type)) = some y) → cs.length = off + d.sz → ∃ a, d.K w a (cs.drop off) ∧ Q a
theorem opnFB_one {α : Type} {m : Nat} {f : Field} {off : Nat} {d : Kd α} {Q : α → Prop} (ho : f.offset = off) (hs : P.cellsOf f.type = d.sz) (h : OpnB m enc P w spare held f.type d Q) : OpnFB m enc P w spare held [f] off d Q := by
  intro fuel hfm cs hx hl
  obtain ⟨y, hy⟩ := hx 0 f rfl
  obtain ⟨a, h1, h2⟩ := h _ hfm _ _ hy
  refine ⟨a, ?_, h2⟩
  rw [ho, hs, List.take_of_length_le (by simp; omega)] at h1
  exact h1
theorem opnFB_cons {α β : Type} {m : Nat} {f : Field} {fs : List Field} {off : Nat} {d : Kd α} {d' : Kd β} {Q : α → Prop} {Q' : β → Prop} (ho : f.offset = off) (hs : P.cellsOf f.type = d.sz) (h : OpnB m enc P w spare held f.type d Q)
    (h' : OpnFB m enc P w spare held fs (off + d.sz) d' Q') : OpnFB m enc P w spare held (f :: fs) off (Kd.pair d d') (fun p => Q p.1 ∧ Q' p.2) := by
  intro fuel hfm cs hx hl
  obtain ⟨y, hy⟩ := hx 0 f rfl
  obtain ⟨a, h1, h2⟩ := h _ hfm _ _ hy
  have hl' : cs.length = off + (d.sz + d'.sz) := hl
  obtain ⟨b, h3, h4⟩ := h' fuel hfm cs (fun i g hg => hx (i + 1) g hg) (by omega)
  refine ⟨(a, b), ⟨_, _, ?_, h1, h3⟩, h2, h4⟩
  rw [ho, hs, ← List.drop_drop, List.take_append_drop]
theorem opnB_struct0 {β : Type} {m : Nat} {t : TypeId} {fs : Array Field} {d : Kd β} {Q : β → Prop} (ht : P.underlying t = some (.struct fs)) (hs : P.cellsOf t = d.sz)
    (h : OpnFB m enc P w spare held fs.toList 0 d Q) : OpnB (m + 1) enc P w spare held t d Q := by
  intro fuel hfm cs x hx
  obtain ⟨xs, n, rfl, _, hl, hn, hf⟩ := DataW.trod_struct ht hx
  obtain ⟨b, h1, h2⟩ := h n (by omega) cs (fun i f hi => by
    have hi' : fs[i]? = some f := by simpa using hi
    have hlt : i < xs.length := by
      rw [hn]
      exact (Array.getElem?_eq_some_iff.1 hi').1
    exact ⟨_, (hf i f hi').trans (List.getElem?_eq_getElem hlt)⟩) (by omega)
  exact ⟨b, by simpa using h1, h2⟩
end
end Go.Proofs.YtmmdgciefehbcaaDoor.Opn
