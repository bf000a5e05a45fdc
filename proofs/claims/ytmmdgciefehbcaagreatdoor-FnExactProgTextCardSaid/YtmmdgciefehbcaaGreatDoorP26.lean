/- Contracts of functions that the claim reaches, over data without addresses, and what follows of them (text P26). No conditions beside those that each theorem names. -/
import Derived.Test.YtmmdgciefehbcaaGreatDoorP25
set_option linter.unusedVariables false
set_option linter.unusedSimpArgs false
namespace Go.Proofs.YtmmdgciefehbcaaGreatDoor.Ax
/-! Names in order -/
theorem lt_irr (a : ByteArray) : lt a a = false := by rw [lt_eq]; exact decide_eq_false (List.lt_irrefl _)
theorem lt_trans' {a b c : ByteArray} (h : lt a b = true) (g : lt b c = true) : lt a c = true := by
  rw [lt_eq, decide_eq_true_eq] at *; exact List.lt_trans h g
theorem lt_or {a b : ByteArray} (h : lt a b = false) : a = b ∨ lt b a = true := by
  have := lt_tot a b
  rw [h, Bool.false_or] at this
  by_cases e : a = b
  · exact .inl e
  · rw [decide_eq_false e] at this
    exact .inr (by simpa using this.symm)
def ins (s : ByteArray) : List ByteArray → List ByteArray
  | [] => [s]
  | x :: r => if lt x s = true then (if x = s then [] else [x]) ++ ins s r else s :: ((if x = s then [] else [x]) ++ r.filter fun y => !decide (y = s))
theorem putL_true (s : ByteArray) : ∀ (l out : List ByteArray), putL s l true out = out ++ l.filter fun y => !decide (y = s)
  | [], out => by simp [putL]
  | x :: r, out => by
    rw [putL, Bool.true_or, putL_true s r]
    by_cases h : x = s
    · subst h; simp
    · simp [h]
theorem putL_false (s : ByteArray) : ∀ (l out : List ByteArray), putL s l false out = out ++ ins s l
  | [], out => by simp [putL, ins]
  | x :: r, out => by
    rw [putL, ins]
    cases hl : lt x s with
    | true => rw [Bool.not_true, Bool.or_false, putL_false s r]; simp
    | false => rw [Bool.not_false, Bool.or_true, putL_true s r]; simp
theorem putS_ins (s : ByteArray) (l : List ByteArray) : putS l s = ins s l := by rw [putS, putL_false]; simp
theorem mem_ins (s : ByteArray) : ∀ (l : List ByteArray) (z : ByteArray), z ∈ ins s l ↔ z = s ∨ z ∈ l
  | [], z => by simp [ins]
  | x :: r, z => by
    have ih := mem_ins s r z
    rw [ins]
    split
    · by_cases hx : x = s
      · subst hx; simp [ih]
      · simp [hx, ih]; constructor
        · rintro (h | h | h) <;> simp [h]
        · rintro (h | h | h) <;> simp [h]
    · by_cases hx : x = s
      · subst hx; simp; constructor
        · rintro (h | h) <;> simp [h]
        · rintro (h | h)
          · exact .inl h
          · by_cases hz : z = x
            · exact .inl hz
            · exact .inr ⟨h, hz⟩
      · simp [hx]; constructor
        · rintro (h | h | h) <;> simp [h]
        · rintro (h | h | h)
          · exact .inl h
          · exact .inr (.inl h)
          · by_cases hz : z = s
            · exact .inl hz
            · exact .inr (.inr ⟨h, hz⟩)
def Asc (l : List ByteArray) : Prop := l.Pairwise fun a b => lt a b = true
theorem asc_ins (s : ByteArray) : ∀ l : List ByteArray, Asc l → Asc (ins s l)
  | [], _ => by simp [ins, Asc]
  | x :: r, h => by
    obtain ⟨h1, h2⟩ := List.pairwise_cons.1 h
    rw [ins]
    split
    · rename_i hx
      have hne : x ≠ s := fun e => by subst e; rw [lt_irr] at hx; cases hx
      rw [if_neg hne]
      refine List.pairwise_cons.2 ⟨fun y hy => ?_, asc_ins s r h2⟩
      rcases (mem_ins s r y).1 hy with rfl | hy
      · exact hx
      · exact h1 y hy
    · rename_i hx
      have hx' : lt x s = false := by simpa using hx
      have hr : ∀ y ∈ r, lt s y = true := fun y hy => by
        rcases lt_or hx' with rfl | hs
        · exact h1 y hy
        · exact lt_trans' hs (h1 y hy)
      refine List.pairwise_cons.2 ⟨fun y hy => ?_, ?_⟩
      · rcases List.mem_append.1 hy with hy | hy
        · split at hy
          · cases hy
          · rename_i hne
            rcases lt_or hx' with rfl | hs
            · exact absurd rfl hne
            · rw [List.mem_singleton.1 hy]; exact hs
        · exact hr y (List.mem_filter.1 hy).1
      · refine List.pairwise_append.2 ⟨?_, h2.filter _, fun a ha b hb => ?_⟩
        · split <;> simp
        · split at ha
          · cases ha
          · rw [List.mem_singleton.1 ha]; exact h1 b (List.mem_filter.1 hb).1
theorem mem_puts : ∀ (r out : List ByteArray) (z : ByteArray), z ∈ r.foldl putS out ↔ z ∈ out ∨ z ∈ r
  | [], out, z => by simp
  | x :: r, out, z => by
    rw [List.foldl_cons, mem_puts r, putS_ins, mem_ins]
    simp only [List.mem_cons]
    constructor
    · rintro ((h | h) | h) <;> simp [h]
    · rintro (h | h | h) <;> simp [h]
theorem asc_puts : ∀ (r out : List ByteArray), Asc out → Asc (r.foldl putS out)
  | [], out, h => h
  | x :: r, out, h => by rw [List.foldl_cons]; exact asc_puts r _ (by rw [putS_ins]; exact asc_ins x out h)
theorem Asc.nodup {l : List ByteArray} (h : Asc l) : l.Nodup := List.Pairwise.imp (fun {a b} h e => by subst e; rw [lt_irr] at h; cases h) h

/-! Sorted, each once -/
theorem compact_mem (zs : List (List UInt8)) (x : List UInt8) : x ∈ Lib.compact zs ↔ x ∈ zs := by
  unfold Lib.compact Lib.compactUpTo
  simp only [List.mem_map, List.mem_filter, List.mem_range]
  constructor
  · rintro ⟨j, ⟨hj, _⟩, rfl⟩
    rw [getElem!_pos zs.toArray j (by simpa using hj)]
    simp
  · intro hx
    obtain ⟨j, hj, hxj⟩ := List.getElem_of_mem hx
    induction j using Nat.strongRecOn with
    | _ j ih =>
      by_cases hk : Lib.keeps zs.toArray j = true
      · exact ⟨j, ⟨hj, hk⟩, by rw [getElem!_pos zs.toArray j (by simpa using hj)]; simpa using hxj⟩
      · unfold Lib.keeps at hk
        simp only [decide_eq_true_eq, not_or, ne_eq, Classical.not_not] at hk
        obtain ⟨h0, he⟩ := hk
        refine ih (j - 1) (by omega) (by omega) ?_
        rw [getElem!_pos zs.toArray j (by simpa using hj), getElem!_pos zs.toArray (j - 1) (by simp; omega)] at he
        simp at he
        rw [← he]; exact hxj
theorem compact_nodup (zs : List (List UInt8)) (hs : zs.Pairwise fun a b => a ≤ b) : (Lib.compact zs).Nodup := by
  unfold Lib.compact Lib.compactUpTo List.Nodup
  rw [List.pairwise_map]
  have hget : ∀ j (hj : j < zs.length), zs.toArray[j]! = zs[j] := fun j hj => by rw [getElem!_pos zs.toArray j (by simpa using hj)]; simp
  have hle : ∀ i j (hi : i < j) (hj : j < zs.length), zs[i] ≤ zs[j] := fun i j hi hj => List.pairwise_iff_getElem.1 hs i j (by omega) hj hi
  refine List.Pairwise.imp_of_mem (R := fun a b => a < b) (fun {a b} ha hb hab => ?_) (List.pairwise_lt_range.filter _)
  obtain ⟨hb1, hb2⟩ := List.mem_filter.1 hb
  have hb3 : b < zs.length := by simpa using hb1
  unfold Lib.keeps at hb2
  rw [decide_eq_true_eq] at hb2
  rcases hb2 with h0 | h0
  · omega
  · intro e
    apply h0
    rw [hget a (by omega), hget b hb3] at e
    rw [hget b hb3, hget (b - 1) (by omega)]
    by_cases hab1 : a = b - 1
    · subst hab1; exact e.symm
    · have h1 := hle a (b - 1) (by omega) (by omega)
      have h2 := hle (b - 1) b (by omega) hb3
      rw [← e] at h2 ⊢
      exact List.le_antisymm h1 h2
theorem srt_asc (l : List (List UInt8)) : (srt l).Pairwise fun a b => a ≤ b := by
  have := List.pairwise_mergeSort (le := fun x y : List UInt8 => decide (x ≤ y)) (fun a b c h1 h2 => by
    rw [decide_eq_true_eq] at *; exact List.le_trans h1 h2) (fun a b => by
    rw [Bool.or_eq_true, decide_eq_true_eq, decide_eq_true_eq]; exact List.le_total a b) l
  exact this.imp fun h => by simpa using h
theorem unb_bts (b : ByteArray) : unb (bts b) = b := rfl
theorem unb_inj {a b : List UInt8} (h : unb a = unb b) : a = b := by
  have := congrArg bts h
  simpa [unb, bts] using this
theorem mem_ordN (l : List ByteArray) (z : ByteArray) : z ∈ ordN l ↔ z ∈ l := by
  unfold ordN
  simp only [List.mem_map, compact_mem, List.mem_mergeSort]
  constructor
  · rintro ⟨a, ⟨b, hb, rfl⟩, rfl⟩; exact hb
  · intro h; exact ⟨bts z, ⟨z, h, rfl⟩, rfl⟩
theorem nodup_ordN (l : List ByteArray) : (ordN l).Nodup := by
  unfold ordN List.Nodup
  rw [List.pairwise_map]
  exact (compact_nodup _ (srt_asc _)).imp fun h e => h (unb_inj e)
theorem same_len (l : List ByteArray) : (l.foldl putS []).length = (ordN l).length :=
  ((List.perm_ext_iff_of_nodup (asc_puts l [] List.Pairwise.nil).nodup (nodup_ordN l)).2 fun z => by rw [mem_puts, mem_ordN]; simp).length_eq

theorem all_mem {a b : List ByteArray} (h : ∀ z, z ∈ a ↔ z ∈ b) (f : ByteArray → Bool) : a.all f = b.all f := by
  rw [Bool.eq_iff_iff, List.all_eq_true, List.all_eq_true]
  exact ⟨fun g z hz => g z ((h z).2 hz), fun g z hz => g z ((h z).1 hz)⟩
theorem apart_iff {a b : List ByteArray} : apart a b = true ↔ ∀ z ∈ a, z ∉ b := by
  unfold apart
  rw [List.all_eq_true]
  simp only [Bool.not_eq_true']
  exact ⟨fun h z hz hb => (by have := h z hz; rw [has_iff.2 hb] at this; cases this), fun h z hz => by rw [Bool.eq_false_iff]; exact fun e => h z hz (has_iff.1 e)⟩
theorem any_iff {p : Pg} {a : List ByteArray} : (!a.any (isA p)) = true ↔ ∀ z ∈ arrsN p, z ∉ a := by
  rw [Bool.not_eq_true', Bool.eq_false_iff, ne_eq, List.any_eq_true]
  constructor
  · intro h z hz ha; exact h ⟨z, ha, has_iff.2 hz⟩
  · rintro h ⟨z, ha, hz⟩; exact h z (has_iff.1 hz) ha
theorem tail_same (p : Pg) : tailB p = tailI p := by
  have m1 : ∀ z, z ∈ varsN p ↔ z ∈ varsI p := fun z => by rw [varsN, varsI, mem_puts, mem_ordN]; simp
  have m2 : ∀ z, z ∈ loopsN p ↔ z ∈ loopsI p := fun z => by rw [loopsN, loopsI, mem_puts, mem_ordN]; simp
  have m3 : ∀ z, z ∈ putsN p ↔ z ∈ putsI p := fun z => by rw [putsN, putsI, mem_puts, mem_ordN]; simp
  have m4 : ∀ k z, z ∈ asksN k p ↔ z ∈ asksI k p := fun k z => by rw [asksN, asksI, mem_puts, mem_ordN, askI, (allL_ask k p.b).mem_iff]; simp
  have hl : (varsN p).length = (varsI p).length := same_len _
  have e1 := all_mem m3 (isA p)
  have e2 := all_mem (m4 3) (isA p)
  have e3 : (apart (arrsN p) (varsN p) && (apart (arrsN p) (loopsN p) && apart (arrsN p) (asksN 2 p))) = !([varsI p, loopsI p, asksI 2 p].flatten.any (isA p)) := by
    rw [Bool.eq_iff_iff, Bool.and_eq_true, Bool.and_eq_true, apart_iff, apart_iff, apart_iff, any_iff]
    constructor
    · rintro ⟨h1, h2, h3⟩ z hz hm
      simp at hm
      rcases hm with hm | hm | hm
      · exact h1 z hz ((m1 z).2 hm)
      · exact h2 z hz ((m2 z).2 hm)
      · exact h3 z hz ((m4 2 z).2 hm)
    · intro h
      exact ⟨fun z hz hm => h z hz (by simp [(m1 z).1 hm]), fun z hz hm => h z hz (by simp [(m2 z).1 hm]), fun z hz hm => h z hz (by simp [(m4 2 z).1 hm])⟩
  have e4 : apart (varsN p) (loopsN p) = (loopsI p).all fun x => !has (varsI p) x := by
    rw [show ((loopsI p).all fun x => !has (varsI p) x) = apart (loopsI p) (varsI p) from rfl, Bool.eq_iff_iff, apart_iff, apart_iff]
    exact ⟨fun h z hz hv => h z ((m1 z).2 hv) ((m2 z).2 hz), fun h z hz hv => h z ((m2 z).1 hv) ((m1 z).1 hz)⟩
  unfold tailB tailI
  rw [← e1, ← e2, ← e3, ← e4, hl]
  generalize (putsN p).all (isA p) = b1
  generalize (asksN 3 p).all (isA p) = b2
  generalize apart (arrsN p) (varsN p) = b3
  generalize apart (arrsN p) (loopsN p) = b4
  generalize apart (arrsN p) (asksN 2 p) = b5
  generalize apart (varsN p) (loopsN p) = b6
  generalize nstL [] p.b = b7
  generalize decide (((varsI p).length : Int) ≤ 6) = b8
  cases b1 <;> cases b2 <;> cases b3 <;> cases b4 <;> cases b5 <;> cases b6 <;> cases b7 <;> cases b8 <;> rfl
theorem prog_same (p : Pg) : progB p = progI p := by rw [progB, progI, tail_same]
end Go.Proofs.YtmmdgciefehbcaaGreatDoor.Ax
