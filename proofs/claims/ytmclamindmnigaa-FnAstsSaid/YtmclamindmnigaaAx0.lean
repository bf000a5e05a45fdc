/- A logic of calls over data without addresses: what a function is handed and hands back, told as plain values. No conditions. -/
import Derived.WalkKit
import Derived.Orders
import Derived.Below
import Derived.Deep.Draws
import Derived.Laws.AppendOwn
import Derived.Laws.IdiomCopy
import Derived.ChangeKeysEq
set_option linter.unusedVariables false
set_option linter.unusedSimpArgs false
namespace Go.Proofs.Ytmclamindmnigaa.Ax
/-- What a world promises throughout: nothing (X: the blocks that may turn). -/
def Gd (w : World) (X : Nat → Prop) : Prop := True
theorem Gd.step {w w' : World} {X Y : Nat → Prop} (h : Gd w X) (hb : ∀ b, b < w.heap.size → ¬ X b → w'.heap[b]? = w.heap[b]?) (hY : ∀ b, Y b → w.heap.size ≤ b ∨ X b) : Gd w' Y := trivial
end Go.Proofs.Ytmclamindmnigaa.Ax

namespace Go.Proofs.Ytmclamindmnigaa.Ax

/-- Deep data, without addresses. -/
inductive D where
  | b (x : Bool)
  | i (k : IntKind) (n : Int)
  | s (x : ByteArray)
  | sl (xs : List D)
  | ag (xs : List D)

mutual
def D.size : D → Nat
  | .ag xs => sizes xs
  | .b _ => 1
  | .i _ _ => 1
  | .s _ => 1
  | .sl _ => 1
def sizes : List D → Nat
  | [] => 0
  | x :: r => x.size + sizes r
end

/-- How many leading cells of a block nobody writes any more. -/
abbrev Im := Nat → Nat

def Seg (w : World) (I : Im) (ad : Addr) (us : List Value) : Prop :=
  ad.spot = none ∧ ∀ j u, us[j]? = some u → w.cell? ⟨ad.block, ad.off + j, none⟩ = some u ∧ ad.off + j < I ad.block

mutual
/-- The cells us read as the data x. -/
def RepC (w : World) (I : Im) : D → List Value → Prop
  | .b x, us => us = [.bool x]
  | .i k n, us => us = [.int k n]
  | .s x, us => us = [.string x]
  | .sl xs, us => ∃ A c vs sz, us = [.slice A xs.length c] ∧ xs.length ≤ c ∧ RepL w I xs vs ∧ (∀ x ∈ xs, x.size = sz) ∧ (xs = [] ∨ ∃ ad, A = some ad ∧ Seg w I ad vs)
  | .ag xs, us => RepL w I xs us
def RepL (w : World) (I : Im) : List D → List Value → Prop
  | [], us => us = []
  | x :: r, us => ∃ p q, us = p ++ q ∧ RepC w I x p ∧ RepL w I r q
end

structure Ext (w : World) (I : Im) (w' : World) (I' : Im) : Prop where
  size : w.heap.size ≤ w'.heap.size
  im : ∀ b, I b ≤ I' b
  cell : ∀ b o, o < I b → w'.cell? ⟨b, o, none⟩ = w.cell? ⟨b, o, none⟩

theorem Ext.refl (w : World) (I : Im) : Ext w I w I := ⟨Nat.le_refl _, fun _ => Nat.le_refl _, fun _ _ _ => rfl⟩
theorem Ext.trans {w1 w2 w3 : World} {I1 I2 I3 : Im} (h : Ext w1 I1 w2 I2) (g : Ext w2 I2 w3 I3) : Ext w1 I1 w3 I3 :=
  ⟨Nat.le_trans h.size g.size, fun b => Nat.le_trans (h.im b) (g.im b), fun b o ho => (g.cell b o (Nat.lt_of_lt_of_le ho (h.im b))).trans (h.cell b o ho)⟩
theorem Seg.ext {w w' : World} {I I' : Im} (e : Ext w I w' I') {ad : Addr} {us : List Value} (h : Seg w I ad us) : Seg w' I' ad us :=
  ⟨h.1, fun j u hj => have ⟨h1, h2⟩ := h.2 j u hj; ⟨(e.cell _ _ h2).trans h1, Nat.lt_of_lt_of_le h2 (e.im _)⟩⟩

mutual
theorem RepC.ext {w w' : World} {I I' : Im} (e : Ext w I w' I') : ∀ {x : D} {us : List Value}, RepC w I x us → RepC w' I' x us
  | .b _, _, h => h
  | .i _ _, _, h => h
  | .s _, _, h => h
  | .sl xs, us, h => by
    simp only [RepC] at h ⊢
    obtain ⟨A, c, vs, sz, h1, h2, h3, h4, h5⟩ := h
    exact ⟨A, c, vs, sz, h1, h2, RepL.ext e h3, h4, h5.imp id fun ⟨ad, ha, hs⟩ => ⟨ad, ha, hs.ext e⟩⟩
  | .ag xs, us, h => by
    simp only [RepC] at h ⊢
    exact RepL.ext e h
theorem RepL.ext {w w' : World} {I I' : Im} (e : Ext w I w' I') : ∀ {xs : List D} {us : List Value}, RepL w I xs us → RepL w' I' xs us
  | [], _, h => h
  | x :: r, us, h => by
    simp only [RepL] at h ⊢
    obtain ⟨p, q, h1, h2, h3⟩ := h
    exact ⟨p, q, h1, RepC.ext e h2, RepL.ext e h3⟩
end

mutual
theorem RepC.len {w : World} {I : Im} : ∀ {x : D} {us : List Value}, RepC w I x us → us.length = x.size
  | .b _, _, h => by simp only [RepC] at h; simp [h, D.size]
  | .i _ _, _, h => by simp only [RepC] at h; simp [h, D.size]
  | .s _, _, h => by simp only [RepC] at h; simp [h, D.size]
  | .sl xs, us, h => by
    simp only [RepC] at h
    obtain ⟨A, c, vs, sz, h1, _⟩ := h
    simp [h1, D.size]
  | .ag xs, us, h => by
    simp only [RepC] at h
    simpa [D.size] using RepL.len h
theorem RepL.len {w : World} {I : Im} : ∀ {xs : List D} {us : List Value}, RepL w I xs us → us.length = sizes xs
  | [], _, h => by simp only [RepL] at h; simp [h, sizes]
  | x :: r, us, h => by
    simp only [RepL] at h
    obtain ⟨p, q, rfl, h2, h3⟩ := h
    simp [sizes, RepC.len h2, RepL.len h3]
end

mutual
theorem RepC.one {w : World} {I : Im} : ∀ {x : D} {us : List Value}, RepC w I x us → ∀ u ∈ us, u.oneCell' = true
  | .b _, _, h => by simp only [RepC] at h; simp [h, Value.oneCell']
  | .i _ _, _, h => by simp only [RepC] at h; simp [h, Value.oneCell']
  | .s _, _, h => by simp only [RepC] at h; simp [h, Value.oneCell']
  | .sl xs, us, h => by
    simp only [RepC] at h
    obtain ⟨A, c, vs, sz, h1, _⟩ := h
    simp [h1, Value.oneCell']
  | .ag xs, us, h => by
    simp only [RepC] at h
    exact RepL.one h
theorem RepL.one {w : World} {I : Im} : ∀ {xs : List D} {us : List Value}, RepL w I xs us → ∀ u ∈ us, u.oneCell' = true
  | [], _, h => by simp only [RepL] at h; simp [h]
  | x :: r, us, h => by
    simp only [RepL] at h
    obtain ⟨p, q, rfl, h2, h3⟩ := h
    intro u hu
    rcases List.mem_append.1 hu with hu | hu
    · exact RepC.one h2 u hu
    · exact RepL.one h3 u hu
end

def D.isAg : D → Bool
  | .ag _ => true
  | _ => false

/-- The value v reads as the data x. -/
def RepD (w : World) (I : Im) (x : D) (v : Value) : Prop :=
  RepC w I x v.cells.toList ∧ ((x.isAg = true ∧ ∃ cs, v = .agg cs) ∨ (x.isAg = false ∧ v.oneCell' = true))

theorem RepD.ext {w w' : World} {I I' : Im} (e : Ext w I w' I') {x : D} {v : Value} (h : RepD w I x v) : RepD w' I' x v := ⟨h.1.ext e, h.2⟩

mutual
def D.sub : D → Nat → Nat → Bool → Option D
  | .ag xs, off, n, g => if g = true ∧ off = 0 ∧ n = sizes xs then some (.ag xs) else atL xs off n g
  | .b x, off, n, g => if g = false ∧ off = 0 ∧ n = 1 then some (.b x) else none
  | .i k x, off, n, g => if g = false ∧ off = 0 ∧ n = 1 then some (.i k x) else none
  | .s x, off, n, g => if g = false ∧ off = 0 ∧ n = 1 then some (.s x) else none
  | .sl x, off, n, g => if g = false ∧ off = 0 ∧ n = 1 then some (.sl x) else none
def atL : List D → Nat → Nat → Bool → Option D
  | [], _, _, _ => none
  | x :: r, off, n, g => if off < x.size then x.sub off n g else atL r (off - x.size) n g
end

theorem ite_some {α : Type} {c : Prop} [Decidable c] {x y : α} (h : (if c then some x else none) = some y) : c ∧ x = y := by
  split at h
  · exact ⟨by assumption, Option.some.inj h⟩
  · cases h
mutual
theorem D.sub_ok {w : World} {I : Im} : ∀ {x : D} {off n : Nat} {g : Bool} {y : D} {us : List Value}, x.sub off n g = some y → RepC w I x us →
    off + n ≤ us.length ∧ y.size = n ∧ y.isAg = g ∧ RepC w I y ((us.drop off).take n)
  | .b x, off, n, g, y, us, h, hr => by
    simp only [D.sub] at h
    obtain ⟨⟨rfl, rfl, rfl⟩, h⟩ := ite_some h
    cases h
    simp only [RepC] at hr
    subst hr
    simp [D.size, D.isAg, RepC]
  | .i k x, off, n, g, y, us, h, hr => by
    simp only [D.sub] at h
    obtain ⟨⟨rfl, rfl, rfl⟩, h⟩ := ite_some h
    cases h
    simp only [RepC] at hr
    subst hr
    simp [D.size, D.isAg, RepC]
  | .s x, off, n, g, y, us, h, hr => by
    simp only [D.sub] at h
    obtain ⟨⟨rfl, rfl, rfl⟩, h⟩ := ite_some h
    cases h
    simp only [RepC] at hr
    subst hr
    simp [D.size, D.isAg, RepC]
  | .sl x, off, n, g, y, us, h, hr => by
    simp only [D.sub] at h
    obtain ⟨⟨rfl, rfl, rfl⟩, h⟩ := ite_some h
    cases h
    have hl := hr.len
    simp only [D.size] at hl
    rw [List.drop_zero, List.take_of_length_le (by omega)]
    exact ⟨by omega, rfl, rfl, hr⟩
  | .ag xs, off, n, g, y, us, h, hr => by
    simp only [D.sub] at h
    split at h
    · rename_i hc
      obtain ⟨rfl, rfl, rfl⟩ := hc
      cases h
      have hl := hr.len
      simp only [D.size] at hl
      rw [List.drop_zero, List.take_of_length_le (by omega)]
      exact ⟨by omega, rfl, rfl, hr⟩
    · simp only [RepC] at hr
      exact atL_ok h hr
theorem atL_ok {w : World} {I : Im} : ∀ {xs : List D} {off n : Nat} {g : Bool} {y : D} {us : List Value}, atL xs off n g = some y → RepL w I xs us →
    off + n ≤ us.length ∧ y.size = n ∧ y.isAg = g ∧ RepC w I y ((us.drop off).take n)
  | [], off, n, g, y, us, h, hr => by simp [atL] at h
  | x :: r, off, n, g, y, us, h, hr => by
    simp only [atL] at h
    simp only [RepL] at hr
    obtain ⟨p, q, rfl, h2, h3⟩ := hr
    have hl := h2.len
    split at h
    · rename_i hlt
      obtain ⟨a1, a2, a3, a4⟩ := D.sub_ok h h2
      refine ⟨by simp; omega, a2, a3, ?_⟩
      rw [List.drop_append_of_le_length (by omega), List.take_append_of_le_length (by simp; omega)]
      exact a4
    · rename_i hlt
      obtain ⟨a1, a2, a3, a4⟩ := atL_ok h h3
      refine ⟨by simp; omega, a2, a3, ?_⟩
      rw [List.drop_append, List.drop_eq_nil_of_le (by omega), List.nil_append, hl]
      exact a4
end

mutual
def D.set : D → Nat → D → Option D
  | .ag xs, off, y => if y.isAg = true ∧ off = 0 ∧ y.size = sizes xs then some y else (setL xs off y).map .ag
  | .b _, off, y => if y.isAg = false ∧ off = 0 then some y else none
  | .i _ _, off, y => if y.isAg = false ∧ off = 0 then some y else none
  | .s _, off, y => if y.isAg = false ∧ off = 0 then some y else none
  | .sl _, off, y => if y.isAg = false ∧ off = 0 then some y else none
def setL : List D → Nat → D → Option (List D)
  | [], _, _ => none
  | x :: r, off, y => if off < x.size then (x.set off y).map (· :: r) else (setL r (off - x.size) y).map (x :: ·)
end

theorem D.size_one {y : D} (h : y.isAg = false) : y.size = 1 := by cases y <;> simp_all [D.isAg, D.size]

theorem set_atom {w : World} {I : Im} {x x' y : D} {off : Nat} {us vs : List Value} (hx : x.isAg = false) (h : (if y.isAg = false ∧ off = 0 then some y else none) = some x') (hr : RepC w I x us) (hy : RepC w I y vs) :
    off + vs.length ≤ us.length ∧ x'.size = x.size ∧ x'.isAg = x.isAg ∧ RepC w I x' (us.take off ++ vs ++ us.drop (off + vs.length)) := by
  obtain ⟨⟨ha, rfl⟩, rfl⟩ := ite_some h
  have h1 := hr.len
  have h2 := hy.len
  rw [D.size_one hx] at h1
  rw [D.size_one ha] at h2
  refine ⟨by omega, by rw [D.size_one ha, D.size_one hx], by rw [ha, hx], ?_⟩
  rw [List.drop_eq_nil_of_le (by omega)]
  simpa using hy

mutual
theorem D.set_ok {w : World} {I : Im} : ∀ {x x' y : D} {off : Nat} {us vs : List Value}, x.set off y = some x' → RepC w I x us → RepC w I y vs →
    off + vs.length ≤ us.length ∧ x'.size = x.size ∧ x'.isAg = x.isAg ∧ RepC w I x' (us.take off ++ vs ++ us.drop (off + vs.length))
  | .b _, _, _, _, _, _, h, hr, hy => set_atom rfl (by simpa only [D.set] using h) hr hy
  | .i _ _, _, _, _, _, _, h, hr, hy => set_atom rfl (by simpa only [D.set] using h) hr hy
  | .s _, _, _, _, _, _, h, hr, hy => set_atom rfl (by simpa only [D.set] using h) hr hy
  | .sl _, _, _, _, _, _, h, hr, hy => set_atom rfl (by simpa only [D.set] using h) hr hy
  | .ag xs, x', y, off, us, vs, h, hr, hy => by
    simp only [D.set] at h
    split at h
    · rename_i hc
      obtain ⟨ha, rfl, hs⟩ := hc
      cases h
      have h1 := hr.len
      have h2 := hy.len
      simp only [D.size] at h1
      refine ⟨by omega, hs, ha, ?_⟩
      rw [List.drop_eq_nil_of_le (by omega)]
      simpa using hy
    · rename_i hc
      cases hq : setL xs off y with
      | none => rw [hq] at h; cases h
      | some zs =>
        rw [hq] at h
        cases h
        simp only [RepC] at hr
        obtain ⟨a1, a2, a3⟩ := setL_ok hq hr hy
        exact ⟨a1, by simpa only [D.size] using a2, rfl, by simpa only [RepC] using a3⟩
theorem setL_ok {w : World} {I : Im} : ∀ {xs xs' : List D} {y : D} {off : Nat} {us vs : List Value}, setL xs off y = some xs' → RepL w I xs us → RepC w I y vs →
    off + vs.length ≤ us.length ∧ sizes xs' = sizes xs ∧ RepL w I xs' (us.take off ++ vs ++ us.drop (off + vs.length))
  | [], _, _, _, _, _, h, _, _ => by simp [setL] at h
  | x :: r, xs', y, off, us, vs, h, hr, hy => by
    simp only [setL] at h
    simp only [RepL] at hr
    obtain ⟨p, q, rfl, h2, h3⟩ := hr
    have hl := h2.len
    split at h
    · rename_i hlt
      cases hq : x.set off y with
      | none => rw [hq] at h; cases h
      | some z =>
        rw [hq] at h
        cases h
        obtain ⟨a1, a2, a3, a4⟩ := D.set_ok hq h2 hy
        refine ⟨by simp; omega, by simp only [sizes, a2], ?_⟩
        simp only [RepL]
        refine ⟨_, q, ?_, a4, h3⟩
        rw [List.take_append_of_le_length (by omega), List.drop_append_of_le_length (by omega)]
        simp only [List.append_assoc]
    · rename_i hlt
      cases hq : setL r (off - x.size) y with
      | none => rw [hq] at h; cases h
      | some zs =>
        rw [hq] at h
        cases h
        obtain ⟨a1, a2, a3⟩ := setL_ok hq h3 hy
        refine ⟨by simp; omega, by simp only [sizes, a2], ?_⟩
        simp only [RepL]
        refine ⟨p, _, ?_, h2, a3⟩
        rw [List.take_append, List.take_of_length_le (by omega), List.drop_append, List.drop_eq_nil_of_le (by omega), hl]
        simp only [List.append_assoc, List.nil_append]
        rw [show off + vs.length - x.size = off - x.size + vs.length by omega]
end

theorem RepL.append {w : World} {I : Im} : ∀ {xs ys : List D} {us vs : List Value}, RepL w I xs us → RepL w I ys vs → RepL w I (xs ++ ys) (us ++ vs)
  | [], _, _, _, h, g => by simp only [RepL] at h; subst h; simpa using g
  | x :: r, ys, us, vs, h, g => by
    simp only [RepL] at h
    obtain ⟨p, q, rfl, h2, h3⟩ := h
    rw [List.cons_append]
    simp only [RepL]
    exact ⟨p, q ++ vs, by simp, h2, h3.append g⟩
theorem RepL.one_of {w : World} {I : Im} {x : D} {us : List Value} (h : RepC w I x us) : RepL w I [x] us := by
  simp only [RepL]
  exact ⟨us, [], by simp, h, rfl⟩
theorem sizes_append (xs ys : List D) : sizes (xs ++ ys) = sizes xs + sizes ys := by
  induction xs with
  | nil => simp [sizes]
  | cons x r ih => simp [sizes, ih]; omega
theorem sizes_const {sz : Nat} : ∀ {xs : List D}, (∀ x ∈ xs, x.size = sz) → sizes xs = xs.length * sz
  | [], _ => by simp [sizes]
  | x :: r, h => by
    rw [sizes, h x (by simp), sizes_const (fun y hy => h y (by simp [hy])), List.length_cons, Nat.succ_mul]
    omega
/-- Row number k of equal rows. -/
theorem RepL.row {w : World} {I : Im} {sz : Nat} : ∀ {xs : List D} {us : List Value} {k : Nat} {x : D}, RepL w I xs us → (∀ x ∈ xs, x.size = sz) → xs[k]? = some x →
    k * sz + sz ≤ us.length ∧ RepC w I x ((us.drop (k * sz)).take sz)
  | [], _, _, _, _, _, h => by simp at h
  | y :: r, us, k, x, hr, hs, h => by
    simp only [RepL] at hr
    obtain ⟨p, q, rfl, h2, h3⟩ := hr
    have hl := h2.len
    have hy := hs y (by simp)
    cases k with
    | zero =>
      simp at h
      subst h
      have : p.length = sz := by omega
      refine ⟨by simp; omega, ?_⟩
      rw [Nat.zero_mul, List.drop_zero, List.take_append_of_le_length (by omega), List.take_of_length_le (by omega)]
      exact h2
    | succ k =>
      simp at h
      obtain ⟨a1, a2⟩ := RepL.row h3 (fun z hz => hs z (by simp [hz])) h
      rw [Nat.succ_mul]
      refine ⟨by simp; omega, ?_⟩
      rw [List.drop_append, List.drop_eq_nil_of_le (by omega), List.nil_append, show k * sz + sz - p.length = k * sz by omega]
      exact a2
theorem RepL.set {w : World} {I : Im} {sz : Nat} : ∀ {xs : List D} {us vs : List Value} {k : Nat} {y : D}, RepL w I xs us → (∀ x ∈ xs, x.size = sz) → k < xs.length → RepC w I y vs → y.size = sz →
    RepL w I (xs.set k y) (us.take (k * sz) ++ vs ++ us.drop (k * sz + vs.length))
  | [], _, _, _, _, _, _, h, _, _ => by simp at h
  | x :: r, us, vs, k, y, hr, hs, h, hy, hyz => by
    simp only [RepL] at hr
    obtain ⟨p, q, rfl, h2, h3⟩ := hr
    have hl := h2.len
    have hx := hs x (by simp)
    have hv := hy.len
    cases k with
    | zero =>
      rw [List.set_cons_zero]
      simp only [RepL]
      refine ⟨vs, q, ?_, hy, h3⟩
      rw [Nat.zero_mul, List.take_zero, List.nil_append, List.drop_append, List.drop_eq_nil_of_le (by omega), show 0 + vs.length - p.length = 0 by omega]
      simp
    | succ k =>
      have ih := RepL.set h3 (fun z hz => hs z (by simp [hz])) (by simpa using h) hy hyz
      rw [List.set_cons_succ]
      simp only [RepL]
      refine ⟨p, _, ?_, h2, ih⟩
      rw [Nat.succ_mul, List.take_append, List.take_of_length_le (by omega), List.drop_append, List.drop_eq_nil_of_le (by omega), show k * sz + sz - p.length = k * sz by omega,
        show k * sz + sz + vs.length - p.length = k * sz + vs.length by omega]
      simp only [List.append_assoc, List.nil_append]
end Go.Proofs.Ytmclamindmnigaa.Ax

namespace Go.Proofs.Ytmclamindmnigaa.Ax
open Go.RowKit

def All2 {α β : Type} (R : α → β → Prop) : List α → List β → Prop
  | [], [] => True
  | x :: xs, y :: ys => R x y ∧ All2 R xs ys
  | _, _ => False
theorem All2.imp {α β : Type} {R S : α → β → Prop} (h : ∀ x y, R x y → S x y) : ∀ {xs : List α} {ys : List β}, All2 R xs ys → All2 S xs ys
  | [], [], _ => trivial
  | _ :: _, _ :: _, g => ⟨h _ _ g.1, All2.imp h g.2⟩
  | [], _ :: _, g => g.elim
  | _ :: _, [], g => g.elim
theorem All2.len {α β : Type} {R : α → β → Prop} : ∀ {xs : List α} {ys : List β}, All2 R xs ys → xs.length = ys.length
  | [], [], _ => rfl
  | _ :: _, _ :: _, g => by simp [All2.len g.2]
  | [], _ :: _, g => g.elim
  | _ :: _, [], g => g.elim
theorem All2.nth {α β : Type} {R : α → β → Prop} : ∀ {xs : List α} {ys : List β}, All2 R xs ys → ∀ {i : Nat} {x : α}, xs[i]? = some x → ∃ y, ys[i]? = some y ∧ R x y
  | [], [], _, i, x, h => by simp at h
  | x :: _, y :: _, g, 0, _, h => by simp at h; subst h; exact ⟨y, by simp, g.1⟩
  | _ :: _, _ :: _, g, i + 1, z, h => by
    obtain ⟨y, h1, h2⟩ := All2.nth g.2 (i := i) (x := z) (by simpa using h)
    exact ⟨y, by simpa using h1, h2⟩
  | [], _ :: _, g, _, _, _ => g.elim
  | _ :: _, [], g, _, _, _ => g.elim

inductive Key where
  | l (n : Nat)
  | f (n : Nat)
  deriving DecidableEq

/-- Where objects lie: a variable's block; the slice value of a growing row at each length. -/
structure Be where
  blk : Key → Nat
  row : Key → Nat → Option Value

/-- What a slot of the frame holds. -/
inductive T where
  | any
  | un
  | nl
  | d (x : D)
  | tu (xs : List D)
  | pt (k : Key) (off : Nat)
  | pd (x : D) (off : Nat)
  | rw (k : Key) (n : Nat)
  | rf (k : Key) (n : Nat)
  | pm (k : Key) (i sz : Nat)
  | fn (f : FuncId) (ks : List Key)
  | dt (x : D) (k : Key) (n off : Nat)

def T.keys : T → List Key
  | .pt k _ => [k]
  | .rw k _ => [k]
  | .rf k _ => [k]
  | .pm k _ _ => [k]
  | .fn _ ks => ks
  | .dt _ k _ _ => [k]
  | _ => []

def RelT (w : World) (I : Im) (β : Be) : T → Value → Prop
  | .any, _ => True
  | .un, v => v = undef
  | .nl, v => v = .slice none 0 0
  | .d x, v => RepD w I x v
  | .tu xs, v => ∃ vs, v = .tuple vs ∧ All2 (RepD w I) xs vs.toList
  | .pt k off, v => v = .pointer (some ⟨β.blk k, off, none⟩)
  | .pd x off, v => ∃ ad us, v = .pointer (some ⟨ad.block, ad.off + off, none⟩) ∧ RepC w I x us ∧ Seg w I ad us
  | .rw k n, v => β.row k n = some v
  | .rf k n, v => v = .slice (some ⟨β.blk k, 0, none⟩) n n
  | .pm k i sz, v => v = .pointer (some ⟨β.blk k, i * sz, none⟩)
  | .fn f ks, v => v = .func (.func f) #[] (ks.map fun k => .pointer (some ⟨β.blk k, 0, none⟩)).toArray
  | .dt x k n off, v => RepD w I x v ∧ x.isAg = true ∧ ∃ u, v.cells.toList[off]? = some u ∧ β.row k n = some u

/-- The places of the keys in S are told as before. -/
def Keep (S : Key → Prop) (β β' : Be) : Prop := ∀ k, S k → β'.blk k = β.blk k ∧ ∀ n v, β.row k n = some v → β'.row k n = some v

theorem Keep.refl (S : Key → Prop) (β : Be) : Keep S β β := fun _ _ => ⟨rfl, fun _ _ h => h⟩
theorem Keep.trans {S : Key → Prop} {a b c : Be} (h : Keep S a b) (g : Keep S b c) : Keep S a c := fun k hk =>
  ⟨(g k hk).1.trans (h k hk).1, fun n v hv => (g k hk).2 n v ((h k hk).2 n v hv)⟩

theorem RelT.mono {w w' : World} {I I' : Im} {β β' : Be} (e : Ext w I w' I') {t : T} {v : Value} (hk : Keep (· ∈ t.keys) β β') (h : RelT w I β t v) : RelT w' I' β' t v := by
  cases t with
  | any => trivial
  | un => exact h
  | nl => exact h
  | d x => exact RepD.ext e h
  | tu xs =>
    obtain ⟨vs, h1, h2⟩ := h
    exact ⟨vs, h1, h2.imp fun _ _ h => RepD.ext e h⟩
  | pt k off => simp only [RelT] at h ⊢; rw [(hk k (by simp [T.keys])).1]; exact h
  | pd x off =>
    obtain ⟨ad, us, h1, h2, h3⟩ := h
    exact ⟨ad, us, h1, h2.ext e, h3.ext e⟩
  | rw k n => exact (hk k (by simp [T.keys])).2 _ _ h
  | rf k n => simp only [RelT] at h ⊢; rw [(hk k (by simp [T.keys])).1]; exact h
  | pm k i sz => simp only [RelT] at h ⊢; rw [(hk k (by simp [T.keys])).1]; exact h
  | fn f ks =>
    simp only [RelT] at h ⊢
    rw [h]
    congr 2
    exact List.map_congr_left fun k hm => by rw [(hk k hm).1]
  | dt x k n off =>
    obtain ⟨h1, h2, u, h3, h4⟩ := h
    exact ⟨RepD.ext e h1, h2, u, h3, (hk k (by simp [T.keys])).2 _ _ h4⟩

/-- The cells of a variable that holds t. -/
def RelC (w : World) (I : Im) (β : Be) : T → List Value → Prop
  | .d x, us => RepC w I x us
  | .dt x k n off, us => RepC w I x us ∧ x.isAg = true ∧ ∃ u, us[off]? = some u ∧ β.row k n = some u
  | t, us => ∃ v, us = [v] ∧ RelT w I β t v ∧ v.oneCell' = true

theorem RelC.mono {w w' : World} {I I' : Im} {β β' : Be} (e : Ext w I w' I') {t : T} {us : List Value} (hk : Keep (· ∈ t.keys) β β') (h : RelC w I β t us) : RelC w' I' β' t us := by
  cases t with
  | d x => exact RepC.ext e h
  | dt x k n off =>
    obtain ⟨h1, h2, u, h3, h4⟩ := h
    exact ⟨RepC.ext e h1, h2, u, h3, (hk k (by simp [T.keys])).2 _ _ h4⟩
  | _ =>
    obtain ⟨v, h1, h2, h3⟩ := h
    exact ⟨v, h1, RelT.mono e hk h2, h3⟩

inductive Ob where
  | var (x : T)
  | row (e : TypeId) (sz : Nat) (xs : List D)
  | mr (e : TypeId) (sz : Nat) (xs : List D)
  | bld (ty : TypeId) (kr : Key) (n : Nat)

def Ob.keys : Ob → List Key
  | .var x => x.keys
  | .bld _ kr _ => [kr]
  | _ => []

/-- The block that an object lies in. -/
def own (β : Be) (k : Key) : Ob → Option Nat
  | .var _ => some (β.blk k)
  | .row _ _ xs => (β.row k xs.length).bind Value.ownBlock
  | .mr _ _ _ => some (β.blk k)
  | .bld _ _ _ => some (β.blk k)

def RelO (w : World) (I : Im) (β : Be) (k : Key) : Ob → Prop
  | .var x => ∃ ty us, w.heap[β.blk k]? = some (.cells us.toArray ty (0, 0)) ∧ RelC w I β x us ∧ I (β.blk k) = 0
  | .row e sz xs => 0 < sz ∧ ∃ v us, β.row k xs.length = some v ∧ w.ownsRow 0 e sz v xs.length us ∧ RepL w I xs us ∧ (∀ x ∈ xs, x.size = sz) ∧ (∀ b, v.ownBlock = some b → I b = xs.length * sz) ∧ ∀ j, xs.length < j → β.row k j = none
  | .mr e sz xs => 0 < sz ∧ ∃ us, w.heap[β.blk k]? = some (.cells us.toArray e (0, 0)) ∧ RepL w I xs us ∧ (∀ x ∈ xs, x.size = sz) ∧ I (β.blk k) = 0
  | .bld ty kr n => ∃ p v, w.heap[β.blk k]? = some (.cells #[p, v] ty (0, 0)) ∧ (p = .pointer none ∨ p = .pointer (some ⟨β.blk k, 0, none⟩)) ∧ β.row kr n = some v ∧ I (β.blk k) = 0

theorem own_lt {w : World} {I : Im} {β : Be} {k : Key} {o : Ob} {b : Nat} (h : RelO w I β k o) (hb : own β k o = some b) : b < w.heap.size := by
  cases o with
  | var x =>
    obtain ⟨ty, us, h1, _⟩ := h
    simp only [own, Option.some.injEq] at hb
    subst hb
    exact (Array.getElem?_eq_some_iff.1 h1).1
  | row e sz xs =>
    obtain ⟨_, v, us, h1, h2, _⟩ := h
    simp only [own, h1, Option.bind_some] at hb
    exact (h2.lt b hb).2
  | mr e sz xs =>
    obtain ⟨_, us, h1, _⟩ := h
    simp only [own, Option.some.injEq] at hb
    subst hb
    exact (Array.getElem?_eq_some_iff.1 h1).1
  | bld ty kr n =>
    obtain ⟨p, v, h1, _⟩ := h
    simp only [own, Option.some.injEq] at hb
    subst hb
    exact (Array.getElem?_eq_some_iff.1 h1).1

/-- All objects, each in a block of its own. -/
structure Objs (w : World) (I : Im) (β : Be) (O : Key → Option Ob) : Prop where
  rel : ∀ k o, O k = some o → RelO w I β k o
  sep : ∀ k k' o o' b, O k = some o → O k' = some o' → own β k o = some b → own β k' o' = some b → k = k'
  new : ∀ b, w.heap.size ≤ b → I b = 0

/-- An object whose block is left alone stays as it is. -/
theorem RelO.keep {w w' : World} {I I' : Im} {β β' : Be} {k : Key} {o : Ob} (e : Ext w I w' I') (hk : ∀ k', k' = k ∨ k' ∈ o.keys → β'.blk k' = β.blk k' ∧ ∀ n v, β.row k' n = some v → β'.row k' n = some v)
    (hn : ∀ n, β.row k n = none → β'.row k n = none) (hb : ∀ b, own β k o = some b → w'.heap[b]? = w.heap[b]? ∧ I' b = I b) (h : RelO w I β k o) : RelO w' I' β' k o ∧ own β' k o = own β k o := by
  have hk0 := hk k (.inl rfl)
  cases o with
  | var x =>
    obtain ⟨ty, us, h1, h2, h3⟩ := h
    have hb' := hb _ rfl
    refine ⟨⟨ty, us, ?_, ?_, ?_⟩, ?_⟩
    · rw [hk0.1, hb'.1]; exact h1
    · exact RelC.mono e (fun k' hk' => hk k' (.inr hk')) h2
    · rw [hk0.1, hb'.2]; exact h3
    · simp only [own, hk0.1]
  | row ty sz xs =>
    obtain ⟨h0, v, us, h1, h2, h3, h4, h5, h6⟩ := h
    have h1' := hk0.2 _ _ h1
    refine ⟨⟨h0, v, us, h1', ?_, RepL.ext e h3, h4, ?_, fun j hj => hn j (h6 j hj)⟩, ?_⟩
    · refine ⟨h2.1, ?_⟩
      rcases h2.2 with hn' | ⟨g, cap, cur, rfl, hge, hgg, rest⟩
      · exact .inl hn'
      · refine .inr ⟨g, cap, cur, rfl, hge, ?_, rest⟩
        rw [(hb g (by simp only [own, h1, Option.bind_some]; rfl)).1]
        exact hgg
    · intro b hvb
      rw [(hb b (by simp only [own, h1, Option.bind_some, hvb])).2]
      exact h5 b hvb
    · simp only [own, h1, h1']
  | mr ty sz xs =>
    obtain ⟨h0, us, h1, h2, h3, h4⟩ := h
    have hb' := hb _ rfl
    refine ⟨⟨h0, us, ?_, RepL.ext e h2, h3, ?_⟩, ?_⟩
    · rw [hk0.1, hb'.1]; exact h1
    · rw [hk0.1, hb'.2]; exact h4
    · simp only [own, hk0.1]
  | bld ty kr n =>
    obtain ⟨p, v, h1, h2, h3, h4⟩ := h
    have hb' := hb _ rfl
    refine ⟨⟨p, v, ?_, ?_, (hk kr (.inr (by simp [Ob.keys]))).2 _ _ h3, ?_⟩, ?_⟩
    · rw [hk0.1, hb'.1]; exact h1
    · rw [hk0.1]; exact h2
    · rw [hk0.1, hb'.2]; exact h4
    · simp only [own, hk0.1]

/-! ### States -/
def look {α : Type} : List (Nat × α) → Nat → Option α
  | [], _ => none
  | (k, v) :: r, i => if i = k then some v else look r i

structure St where
  t : List (Nat × T)
  L : List (Nat × Ob)
  F : List Ob

def St.get (σ : St) (i : Nat) : T := (look σ.t i).getD .any
def St.obj (σ : St) : Key → Option Ob
  | .l n => look σ.L n
  | .f n => σ.F[n]?
def St.put (σ : St) (o : Option Tmp) (x : T) : St :=
  match o with
  | some i => { σ with t := (i, x) :: σ.t }
  | none => σ

/-- What came before is left alone, the blocks X apart. -/
structure Fr (w0 : World) (I0 : Im) (X : Nat → Prop) (w : World) (I : Im) : Prop where
  os : w.os = w0.os
  tape : w.tape = w0.tape
  output : w.output = w0.output
  size : w0.heap.size ≤ w.heap.size
  block : ∀ b, b < w0.heap.size → ¬ X b → w.heap[b]? = w0.heap[b]? ∧ I b = I0 b

theorem Fr.refl (w : World) (I : Im) (X : Nat → Prop) : Fr w I X w I := ⟨rfl, rfl, rfl, Nat.le_refl _, fun _ _ _ => ⟨rfl, rfl⟩⟩
theorem Fr.trans {w0 w1 w2 : World} {I0 I1 I2 : Im} {X Y : Nat → Prop} (h : Fr w0 I0 X w1 I1) (g : Fr w1 I1 Y w2 I2) (hY : ∀ b, b < w0.heap.size → ¬ X b → ¬ Y b) : Fr w0 I0 X w2 I2 :=
  ⟨g.os.trans h.os, g.tape.trans h.tape, g.output.trans h.output, Nat.le_trans h.size g.size, fun b hb hx =>
    have h1 := h.block b hb hx
    have h2 := g.block b (Nat.lt_of_lt_of_le hb h.size) (hY b hb hx)
    ⟨h2.1.trans h1.1, h2.2.trans h1.2⟩⟩

/-- The entry of a call. -/
structure En where
  w : World
  I : Im
  β : Be
  X : Nat → Prop
  n : Nat
  en : ∀ b, w.heap.size ≤ b → I b = 0
  gd : Gd w X

def fKey : Key → Prop
  | .f _ => True
  | .l _ => False

/-- The abstract state σ tells of the frame a and the world w. -/
structure Rel (E : En) (σ : St) (a : Act) (w : World) (I : Im) (β : Be) : Prop where
  tm : ∀ i x, look σ.t i = some x → RelT w I β x (a.tmps.getD i undef)
  tz : a.tmps.size = E.n
  df : a.defers = []
  ob : Objs w I β σ.obj
  ext : Ext E.w E.I w I
  fr : Fr E.w E.I E.X w I
  kp : Keep fKey E.β β
  lo : ∀ (n : Nat) (o : Ob) (b : Nat), look σ.L n = some o → own β (.l n) o = some b → E.w.heap.size ≤ b
  fo : ∀ (n : Nat) (o : Ob) (b : Nat), σ.F[n]? = some o → own β (.f n) o = some b → E.w.heap.size ≤ b ∨ E.X b
  nf : ∀ (n : Nat) (o : Ob), σ.F[n]? = some o → ∀ k ∈ o.keys, fKey k

theorem Rel.get {E : En} {σ : St} {a : Act} {w : World} {I : Im} {β : Be} (h : Rel E σ a w I β) (i : Nat) : RelT w I β (σ.get i) (a.tmps.getD i undef) := by
  unfold St.get
  cases hq : look σ.t i with
  | none => trivial
  | some x => exact h.tm i x hq
end Go.Proofs.Ytmclamindmnigaa.Ax

namespace Go.Proofs.Ytmclamindmnigaa.Ax
open Go.RowKit

inductive Ky where
  | bo
  | nu (k : IntKind)
  | st
  | sl (e : TypeId)
  | ag (fs : List (Nat × Nat))
  | ar (n : Nat) (e : TypeId)
  | ot

structure Yr where
  sz : Nat
  by_ : Nat
  ky : Ky

def Ky.agg : Ky → Bool
  | .ag _ => true
  | .ar _ _ => true
  | _ => false

structure Ty where
  Y : TypeId → Option Yr
  Z : TypeId → Option D

def Ty.ky (y : Ty) (t : TypeId) : Option Ky := (y.Y t).map (·.ky)

def IsInfo (P : Program) (t : TypeId) (r : Yr) : Prop := ∃ i, P.info? t = some i ∧ i.size = r.sz ∧ i.bytes = r.by_
def IsKy (P : Program) (t : TypeId) : Ky → Prop
  | .bo => P.underlying t = some .bool
  | .nu k => P.underlying t = some (.int k)
  | .st => P.underlying t = some .string
  | .sl e => P.underlying t = some (.slice e)
  | .ag fs => ∃ fields : Array Field, P.underlying t = some (.struct fields) ∧ fields.toList.mapM (fun f => (P.info? f.type).map fun i => (f.offset, i.size)) = some fs ∧ ∀ (j : Nat) (q : Nat × Nat), fs[j]? = some q → q.2 ≠ 0 ∧ ∃ f : Field, fields[j]? = some f ∧ f.offset = q.1 ∧ ∃ i, P.info? f.type = some i ∧ i.size = q.2
  | .ar n e => P.underlying t = some (.array n e)
  | .ot => ∃ d, P.underlying t = some d ∧ (∀ fs, d ≠ .struct fs) ∧ (∀ n e, d ≠ .array n e)

structure TyOk (P : Program) (y : Ty) : Prop where
  info : ∀ t r, y.Y t = some r → IsInfo P t r
  kind : ∀ t r, y.Y t = some r → IsKy P t r.ky
  zsl : ∀ t e, y.ky t = some (.sl e) → ∃ i, P.info? t = some i ∧ i.zero = some (.slice none 0 0)
  zero : ∀ t x, y.Z t = some x → ∃ i z, P.info? t = some i ∧ i.zero = some z ∧ x.size = i.size ∧ ∀ w I, RepD w I x z

/-! ### Values of operations that change nothing -/
def cT : Value → T
  | .bool b => .d (.b b)
  | .int k n => .d (.i k n)
  | .string s => .d (.s s)
  | .slice none 0 0 => .nl
  | _ => .any

def St.ev (σ : St) : Operand → T
  | .tmp t => σ.get t
  | .const v => cT v
  | .func f => .fn f []
  | .global _ => .any

def tif (t : Bool) (x y : T) : T := if t then x else y

def dint (op : BinOp) (k : IntKind) (a b : Int) : Option D :=
  match op with
  | .add => some (.i k (k.wrap (a + b)))
  | .sub => some (.i k (k.wrap (a - b)))
  | .mul => some (.i k (k.wrap (a * b)))
  | .eql => some (.b (a == b))
  | .neq => some (.b (a != b))
  | .lss => some (.b (decide (a < b)))
  | .leq => some (.b (decide (a ≤ b)))
  | .gtr => some (.b (decide (a > b)))
  | .geq => some (.b (decide (a ≥ b)))
  | .quo => if b = 0 then none else some (.i k (k.wrap (a.tdiv b)))
  | .rem => if b = 0 then none else some (.i k (a.tmod b))
  | .shr => if b < 0 then none else some (.i k (a.fdiv (2 ^ min b.toNat k.bits)))
  | .and => some (.i k (k.wrap (BitVec.ofInt k.bits a &&& BitVec.ofInt k.bits b).toNat))
  | .xor => some (.i k (k.wrap (BitVec.ofInt k.bits a ^^^ BitVec.ofInt k.bits b).toNat))
  | _ => none

def dstr (op : BinOp) (a b : ByteArray) : Option D :=
  match op with
  | .add => if a.size + b.size ≤ 9223372036854775807 then some (.s (a ++ b)) else none
  | .eql => some (.b (a.toList == b.toList))
  | .neq => some (.b (!(a.toList == b.toList)))
  | .lss => some (.b (Op.bytesLess a.toList b.toList))
  | .leq => some (.b (Op.bytesLess a.toList b.toList || a.toList == b.toList))
  | .gtr => some (.b (!(Op.bytesLess a.toList b.toList || a.toList == b.toList)))
  | .geq => some (.b (!Op.bytesLess a.toList b.toList))
  | _ => none

def pBin (y : Ty) (op : BinOp) (ty : TypeId) : T → T → Option T
  | .d (.i k a), .d (.i k' b) => if k = k' ∨ op = .shr then (dint op k a b).map .d else none
  | .d (.s a), .d (.s b) => (dstr op a b).map .d
  | .d (.b a), .d (.b b) => match y.ky ty, op with
    | some .bo, .eql => some (.d (.b (a == b)))
    | some .bo, .neq => some (.d (.b (!(a == b))))
    | _, _ => none
  | _, _ => none

def pUn (op : UnOp) : T → Option T
  | .d (.b t) => match op with
    | .not => some (.d (.b (!t)))
    | _ => none
  | .d (.i k n) => match op with
    | .neg => some (.d (.i k (k.wrap (0 - n))))
    | _ => none
  | _ => none

def pFld (y : Ty) (ty : TypeId) (f : Nat) : T → Option T
  | .pt k off => match y.ky ty with
    | some (.ag fs) => (fs[f]?).map fun q => .pt k (off + q.1)
    | _ => none
  | .pd x off => match y.ky ty with
    | some (.ag fs) => (fs[f]?).map fun q => .pd x (off + q.1)
    | _ => none
  | _ => none

def pLen (y : Ty) (ty : TypeId) : T → Option T
  | .d (.s x) => match y.ky ty with
    | some .st => some (.d (.i .i64 x.size))
    | _ => none
  | .d (.sl xs) => match y.ky ty with
    | some (.sl _) => some (.d (.i .i64 xs.length))
    | _ => none
  | .nl => match y.ky ty with
    | some (.sl _) => some (.d (.i .i64 0))
    | _ => none
  | _ => none

def pLoad (y : Ty) (σ : St) (ty : TypeId) : T → Option T
  | .pd x off => match y.Y ty with
    | some r => (x.sub off r.sz r.ky.agg).map .d
    | none => none
  | .pt k off => match y.Y ty, σ.obj k with
    | some r, some (.var (.d x)) => (x.sub off r.sz r.ky.agg).map .d
    | some r, some (.var (.dt x k' m o)) => if off = 0 ∧ r.ky.agg = true ∧ r.sz = x.size then some (.dt x k' m o) else if off = o ∧ r.ky.agg = false ∧ r.sz = 1 then some (.rw k' m) else (x.sub off r.sz r.ky.agg).map .d
    | some r, some (.var x) => if off = 0 ∧ r.ky.agg = false then some x else none
    | _, _ => none
  | _ => none

/-- A growing row, or nil, told as data. -/
def St.frz (σ : St) : T → T
  | .nl => .d (.sl [])
  | .rw k n => match σ.obj k with
    | some (.row _ _ xs) => if n = xs.length then .d (.sl xs) else .any
    | _ => .any
  | .dt x _ _ _ => .d x
  | t => t

def pIdx (y : Ty) (ty : TypeId) : T → T → Option T
  | .d (.sl xs), .d (.i _ n) => match y.ky ty with
    | some (.sl e) => if 0 ≤ n then match xs[n.toNat]?, y.Y e with
      | some x, some r => if x.size = r.sz then some (.pd x 0) else none
      | _, _ => none
      else none
    | _ => none
  | .rf k m, .d (.i _ n) => match y.ky ty with
    | some (.sl e) => match y.Y e with
      | some r => if 0 ≤ n ∧ n < (m : Int) then some (.pm k n.toNat r.sz) else none
      | none => none
    | _ => none
  | _, _ => none

def pIx (y : Ty) (ty : TypeId) : T → T → Option T
  | .d (.s x), .d (.i _ n) => match y.ky ty with
    | some .st => if 0 ≤ n ∧ n < (x.size : Int) then some (.d (.i .u8 ((x.data[n.toNat]?).getD 0).toNat)) else none
    | _ => none
  | .d (.ag xs), .d (.i _ n) => match y.ky ty with
    | some (.ar len e) => match y.Y e with
      | some r => if 0 ≤ n ∧ n < (len : Int) then ((D.ag xs).sub (n.toNat * r.sz) r.sz r.ky.agg).map .d else none
      | none => none
    | _ => none
  | _, _ => none

def place (k : Ky) (sz : TypeId → Option Nat) (i : Nat) : Option (Nat × Nat) :=
  match k with
  | .ag fs => fs[i]?
  | .ar _ e => (sz e).map fun s => (i * s, s)
  | _ => none

def setAll (p : Nat → Option (Nat × Nat)) : D → List (Nat × T) → Option D
  | z, [] => some z
  | z, (i, .d x) :: r => match p i with
    | some q => if x.size = q.2 then (z.set q.1 x).bind fun z' => setAll p z' r else none
    | none => none
  | _, _ => none

def Ky.okk (y : Ty) : Ky → Bool
  | .ar _ e => (y.Y e).isSome
  | _ => true

def pBuild (y : Ty) (ty : TypeId) (ps : List (Nat × T)) : Option T :=
  match y.ky ty, y.Z ty with
  | some k, some z => if z.isAg = true ∧ k.agg = true ∧ k.okk y = true then (setAll (place k fun e => (y.Y e).map (·.sz)) z ps).map .d else none
  | _, _ => none

def pExtract (i : Nat) : T → Option T
  | .tu xs => (xs[i]?).map .d
  | _ => none

def pConv (y : Ty) (dst : TypeId) : T → Option T
  | .d (.i _ n) => match y.ky dst with
    | some (.nu k) => some (.d (.i k (k.wrap n)))
    | _ => none
  | _ => none

def kPt : T → Option Key
  | .pt k 0 => some k
  | _ => none
def kPts : List T → Option (List Key)
  | [] => some []
  | x :: r => match kPt x, kPts r with
    | some k, some ks => some (k :: ks)
    | _, _ => none

/-- The value of an operation that changes nothing. -/
def pval (y : Ty) (σ : St) : Op → Option T
  | .move x => some (σ.ev x)
  | .assign x => some (σ.ev x)
  | .pick c a b => match σ.ev c with
    | .d (.b t) => some (tif t (σ.ev a) (σ.ev b))
    | _ => none
  | .binOp op ty x z _ => pBin y op ty (σ.ev x) (σ.ev z)
  | .unOp op _ x => pUn op (σ.ev x)
  | .build ty ps => pBuild y ty (ps.toList.map fun p => (p.1, σ.frz (σ.ev p.2)))
  | .fieldAddr ty x f => pFld y ty f (σ.ev x)
  | .load ty x => pLoad y σ ty (σ.ev x)
  | .indexAddr ty x i => pIdx y ty (σ.frz (σ.ev x)) (σ.ev i)
  | .index ty x i => pIx y ty (σ.ev x) (σ.ev i)
  | .extract x i => pExtract i (σ.ev x)
  | .nilCheck x => match σ.ev x with
    | .pt k off => some (.pt k off)
    | .pd x off => some (.pd x off)
    | _ => none
  | .convert _ t x => pConv y t (σ.ev x)
  | .makeFunc (.func f) first caps => if first.size = 0 then (kPts (caps.toList.map σ.ev)).map (.fn f) else none
  | .call c => match c.callee, c.args.toList, c.argTypes.toList with
    | .builtin .len, [x], [t] => pLen y t (σ.frz (σ.ev x))
    | _, _, _ => none
  | _ => none
end Go.Proofs.Ytmclamindmnigaa.Ax

namespace Go.Proofs.Ytmclamindmnigaa.Ax
open Go.RowKit
variable {P : Program} {y : Ty} {E : En} {σ : St} {a : Act} {w : World} {I : Im} {β : Be}

theorem TyOk.ky (h : TyOk P y) {t : TypeId} {k : Ky} (hk : y.ky t = some k) : IsKy P t k := by
  unfold Ty.ky at hk
  cases hq : y.Y t with
  | none => rw [hq] at hk; cases hk
  | some r => rw [hq] at hk; cases hk; exact h.kind t r hq

theorem RelT.const (v : Value) : RelT w I β (cT v) v := by
  unfold cT
  split
  · exact ⟨by simp [Value.cells, RepC], .inr ⟨rfl, rfl⟩⟩
  · exact ⟨by simp [Value.cells, RepC], .inr ⟨rfl, rfl⟩⟩
  · exact ⟨by simp [Value.cells, RepC], .inr ⟨rfl, rfl⟩⟩
  · rfl
  · trivial

theorem Rel.ev (R : Rel E σ a w I β) (x : Operand) : RelT w I β (σ.ev x) (a.eval x) := by
  cases x with
  | tmp t => exact R.get t
  | const v => exact RelT.const v
  | func f => simp [St.ev, Act.eval, RelT]
  | global g => trivial

theorem repD_b {x : Bool} {v : Value} (h : RepD w I (.b x) v) : v = .bool x := by
  obtain ⟨h1, h2⟩ := h
  simp only [D.isAg, Bool.false_eq_true, false_and, true_and, false_or] at h2
  cases v <;> simp_all [RepC, Value.cells, Value.oneCell']
theorem repD_i {k : IntKind} {n : Int} {v : Value} (h : RepD w I (.i k n) v) : v = .int k n := by
  obtain ⟨h1, h2⟩ := h
  simp only [D.isAg, Bool.false_eq_true, false_and, true_and, false_or] at h2
  cases v <;> simp_all [RepC, Value.cells, Value.oneCell']
theorem repD_s {x : ByteArray} {v : Value} (h : RepD w I (.s x) v) : v = .string x := by
  obtain ⟨h1, h2⟩ := h
  simp only [D.isAg, Bool.false_eq_true, false_and, true_and, false_or] at h2
  cases v <;> simp_all [RepC, Value.cells, Value.oneCell']
theorem repD_sl {xs : List D} {v : Value} (h : RepD w I (.sl xs) v) : ∃ A c vs sz, v = .slice A xs.length c ∧ xs.length ≤ c ∧ RepL w I xs vs ∧ (∀ x ∈ xs, x.size = sz) ∧ (xs = [] ∨ ∃ ad, A = some ad ∧ Seg w I ad vs) := by
  obtain ⟨h1, h2⟩ := h
  simp only [D.isAg, Bool.false_eq_true, false_and, true_and, false_or] at h2
  simp only [RepC] at h1
  obtain ⟨A, c, vs, sz, h3, h4⟩ := h1
  refine ⟨A, c, vs, sz, ?_, h4⟩
  cases v <;> simp_all [Value.cells, Value.oneCell']
theorem repD_ag {xs : List D} {v : Value} (h : RepD w I (.ag xs) v) : ∃ cs, v = .agg cs ∧ RepL w I xs cs.toList := by
  obtain ⟨h1, h2⟩ := h
  simp only [D.isAg, Bool.true_eq_false, false_and, true_and, or_false] at h2
  obtain ⟨cs, rfl⟩ := h2
  exact ⟨cs, rfl, by simpa [Value.cells, RepC] using h1⟩
theorem repD_of {x : D} {v : Value} (hx : x.isAg = false) (h : RepC w I x [v]) : RepD w I x v := by
  have h1 := h.one v (by simp)
  refine ⟨?_, .inr ⟨hx, h1⟩⟩
  have : v.cells.toList = [v] := by cases v <;> simp_all [Value.cells, Value.oneCell']
  rw [this]
  exact h
theorem repD_i' (k : IntKind) (n : Int) : RepD w I (.i k n) (.int k n) := repD_of rfl (by simp [RepC])
theorem repD_b' (x : Bool) : RepD w I (.b x) (.bool x) := repD_of rfl (by simp [RepC])
theorem repD_s' (x : ByteArray) : RepD w I (.s x) (.string x) := repD_of rfl (by simp [RepC])

/-- The operation runs, changes nothing and yields what x tells. -/
def Gives (P : Program) (S : World → Prop) (a : Act) (w : World) (I : Im) (β : Be) (o : Oper) (x : T) : Prop :=
  ∃ v, (∀ w', S w' → (execOp a.eval o).run P w' = .ok (.value v) w') ∧ RelT w I β x v

theorem dint_ok {op : BinOp} {k : IntKind} {p q : Int} {z : D} (h : dint op k p q = some z) : ∃ v, (∀ w, (binOp op 0 (.int k p) (.int k q)).run P w = .ok v w) ∧ RepD w I z v := by
  unfold dint at h
  split at h
  case h_10 | h_11 | h_12 =>
    split at h
    · cases h
    · rename_i hq
      cases h
      exact ⟨_, fun w => by simp [binOp, Op.intDiv, Op.shift, hq] <;> rfl, repD_i' _ _⟩
  all_goals cases h <;> refine ⟨_, fun w => by simp [binOp, Op.intArith, Op.intCmp, Op.intBits]; rfl, ?_⟩ <;> first | exact repD_i' _ _ | exact repD_b' _
theorem dstr_ok {op : BinOp} {p q : ByteArray} {z : D} (h : dstr op p q = some z) (ty : TypeId) : ∃ v, (∀ w, (binOp op ty (.string p) (.string q)).run P w = .ok v w) ∧ RepD w I z v := by
  unfold dstr at h
  split at h
  · obtain ⟨hc, rfl⟩ := ite_some h
    have hm : IntKind.i64.max = 9223372036854775807 := by decide
    refine ⟨_, fun w => by simp only [binOp, Op.stringOp, hm]; rw [if_neg (by omega)]; rfl, repD_s' _⟩
  all_goals cases h
  all_goals exact ⟨_, fun w => by simp only [binOp, Op.stringOp]; rfl, repD_b' _⟩

theorem gives_bin {o : Oper} {op : BinOp} {ty ty2 : TypeId} {x z : Operand} (ho : o.op = .binOp op ty x z ty2) {v : Value} {t : T} {S : World → Prop} (hg : ∀ w, (eqGuard op ty x z (a.eval x) (a.eval z)).run P w = .ok () w)
    (hr : ∀ w, (binOp op ty (a.eval x) (a.eval z)).run P w = .ok v w) (hv : RelT w I β t v) : Gives P S a w I β o t := by
  refine ⟨v, fun w' _ => ?_, hv⟩
  unfold execOp
  simp only [ho, Sem.run_bind, hg, hr, Result.andThen_ok, Sem.run_pure]

theorem pBin_ok {S : World → Prop} (hY : TyOk P y) {o : Oper} {op : BinOp} {ty ty2 : TypeId} {x z : Operand} {X Z t : T} (ho : o.op = .binOp op ty x z ty2) (hx : RelT w I β X (a.eval x)) (hz : RelT w I β Z (a.eval z))
    (h : pBin y op ty X Z = some t) : Gives P S a w I β o t := by
  unfold pBin at h
  split at h
  · rename_i k p k' q
    have ex := repD_i hx
    have ez := repD_i hz
    split at h
    · rename_i hk
      cases hd : dint op k p q with
      | none => rw [hd] at h; cases h
      | some d =>
        rw [hd] at h
        cases h
        obtain ⟨v, hv, hr⟩ := dint_ok (P := P) (w := w) (I := I) hd
        refine gives_bin (β := β) ho ?_ (v := v) ?_ hr
        · intro w; rw [ex, ez]; unfold eqGuard; split <;> rfl
        · intro w; rw [ex, ez]
          rw [← hv w]
          rcases hk with hk | hk
          · subst hk
            cases op <;> rfl
          · subst hk
            rfl
    · cases h
  · rename_i p q
    have ex := repD_s hx
    have ez := repD_s hz
    cases hd : dstr op p q with
    | none => rw [hd] at h; cases h
    | some d =>
      rw [hd] at h
      cases h
      obtain ⟨v, hv, hr⟩ := dstr_ok (P := P) (w := w) (I := I) hd ty
      refine gives_bin (β := β) ho ?_ (v := v) ?_ hr
      · intro w; rw [ex, ez]; unfold eqGuard; split <;> rfl
      · intro w; rw [ex, ez]; exact hv w
  · rename_i p q
    have ex := repD_b hx
    have ez := repD_b hz
    split at h
    · rename_i hk
      have hu := hY.ky hk
      cases h
      refine gives_bin (β := β) ho ?_ (v := .bool (p == q)) ?_ (repD_b' _)
      · intro w; rw [ex, ez]; rfl
      · intro w; rw [ex, ez]; simp only [binOp, Sem.run_bind, run_equal_bool w ty p q hu, Result.andThen_ok, Sem.run_pure]
    · rename_i hk
      have hu := hY.ky hk
      cases h
      refine gives_bin (β := β) ho ?_ (v := .bool (!(p == q))) ?_ (repD_b' _)
      · intro w; rw [ex, ez]; rfl
      · intro w; rw [ex, ez]; simp only [binOp, Sem.run_bind, run_equal_bool w ty p q hu, Result.andThen_ok, Sem.run_pure]
    · cases h
  · cases h

theorem pUn_ok {S : World → Prop} {o : Oper} {op : UnOp} {ty : TypeId} {x : Operand} {X t : T} (ho : o.op = .unOp op ty x) (hx : RelT w I β X (a.eval x)) (h : pUn op X = some t) : Gives P S a w I β o t := by
  unfold pUn at h
  split at h
  · have ex := repD_b hx
    split at h <;> cases h
    exact ⟨_, fun w _ => by unfold execOp; simp only [ho, ex, Op.unary]; rfl, repD_b' _⟩
  · have ex := repD_i hx
    split at h <;> cases h
    exact ⟨_, fun w _ => by unfold execOp; simp only [ho, ex, Op.unary, Op.intArith]; rfl, repD_i' _ _⟩
  · cases h

theorem run_fieldAt {t : TypeId} {fs : List (Nat × Nat)} (hk : IsKy P t (.ag fs)) {f : Nat} {q : Nat × Nat} (hf : fs[f]? = some q) (b off : Nat) :
    (Instr.fieldAt t (.pointer (some ⟨b, off, none⟩)) f).run P w = .ok (.pointer (some ⟨b, off + q.1, none⟩)) w := by
  obtain ⟨fields, hu, _, hfs⟩ := hk
  obtain ⟨h40, fd, h1, h2, i, h3, h41⟩ := hfs f q hf
  have h4 : i.size ≠ 0 := by omega
  rw [← h2]
  unfold Instr.fieldAt
  simp only [Sem.run_bind, run_underlying hu, Result.andThen_ok, h1, Instr.sureAddr, Sem.run_pure, fieldPlace, sizeOf, run_typeInfo w h3, h4, if_false]
  simp only [Addr.add]
  by_cases hq : fd.offset = 0
  · simp [hq]
  · simp [hq]

theorem pFld_ok {S : World → Prop} (hY : TyOk P y) {o : Oper} {ty : TypeId} {f : Nat} {x : Operand} {X t : T} (ho : o.op = .fieldAddr ty x f) (hx : RelT w I β X (a.eval x)) (h : pFld y ty f X = some t) : Gives P S a w I β o t := by
  unfold pFld at h
  split at h
  · rename_i k off
    simp only [RelT] at hx
    split at h
    · rename_i fs hk
      cases hq : fs[f]? with
      | none => rw [hq] at h; cases h
      | some q =>
        rw [hq] at h
        cases h
        exact ⟨_, fun w _ => by unfold execOp; simp only [ho, hx, Sem.run_bind, run_fieldAt (hY.ky hk) hq, Result.andThen_ok, Sem.run_pure], rfl⟩
    · cases h
  · rename_i k off
    obtain ⟨ad, us, h1, h2, h3⟩ := hx
    split at h
    · rename_i fs hk
      cases hq : fs[f]? with
      | none => rw [hq] at h; cases h
      | some q =>
        rw [hq] at h
        cases h
        exact ⟨.pointer (some ⟨ad.block, ad.off + off + q.1, none⟩), fun w _ => by unfold execOp; simp only [ho, h1, Sem.run_bind, run_fieldAt (hY.ky hk) hq, Result.andThen_ok, Sem.run_pure], ad, us, by rw [Nat.add_assoc], h2, h3⟩
    · cases h
  · cases h

theorem run_len {t ty : TypeId} {v : Value} {n : Nat} (h : (∃ s : ByteArray, v = .string s ∧ s.size = n ∧ P.underlying t = some .string) ∨ (∃ A c e, v = .slice A n c ∧ P.underlying t = some (.slice e))) :
    (Builtin.len_ #[t] ty #[v]).run P w = .ok (.int .i64 n) w := by
  rcases h with ⟨s, rfl, rfl, hu⟩ | ⟨A, c, e, rfl, hu⟩ <;> simp [Builtin.len_, run_underlying hu, goInt]

theorem Rel.row (R : Rel E σ a w I β) {k : Key} {e : TypeId} {sz : Nat} {xs : List D} (hk : σ.obj k = some (.row e sz xs)) {v : Value} (hv : β.row k xs.length = some v) : RepD w I (.sl xs) v := by
  obtain ⟨h0, v', us, h1, h2, h3, h4, h5, h6⟩ := R.ob.rel k _ hk
  rw [hv] at h1
  cases h1
  refine repD_of rfl ?_
  simp only [RepC]
  rcases h2.2 with ⟨rfl, hn⟩ | ⟨g, cap, cur, rfl, hge, hgg, hle, hcm, hcs, htk⟩
  · have : xs = [] := List.length_eq_zero_iff.1 hn
    subst this
    exact ⟨none, 0, us, sz, rfl, by simp, h3, h4, .inl rfl⟩
  · refine ⟨some ⟨g, 0, none⟩, cap, us, sz, rfl, hle, h3, h4, .inr ⟨_, rfl, rfl, fun j u hj => ?_⟩⟩
    have hlt : j < us.length := (List.getElem?_eq_some_iff.1 hj).1
    have hI := h5 g rfl
    have h21 := h2.1
    refine ⟨?_, by simp only; omega⟩
    simp only [World.cell?, hgg, Nat.zero_add]
    rw [← htk, List.getElem?_take] at hj
    split at hj
    · simpa using hj
    · cases hj

theorem Rel.frz (R : Rel E σ a w I β) {t : T} {v : Value} (h : RelT w I β t v) : RelT w I β (σ.frz t) v := by
  unfold St.frz
  split
  · simp only [RelT] at h
    subst h
    exact repD_of rfl (by simp only [RepC]; exact ⟨none, 0, [], 1, rfl, by simp, rfl, by simp, .inl trivial⟩)
  · rename_i k n
    split
    · rename_i e sz xs hk
      split
      · rename_i hn
        subst hn
        exact R.row hk h
      · trivial
    · trivial
  · exact h.1
  · exact h

theorem pLen_ok {S : World → Prop} (hY : TyOk P y) {o : Oper} {ty : TypeId} {x : Operand} {X t : T} (ho : o.op = .call { callee := .builtin .len, args := #[x], argTypes := #[ty] }) (hx : RelT w I β X (a.eval x)) (h : pLen y ty X = some t) : Gives P S a w I β o t := by
  have key : ∀ n : Nat, ((∃ s : ByteArray, a.eval x = .string s ∧ s.size = n ∧ P.underlying ty = some .string) ∨ (∃ A c e, a.eval x = .slice A n c ∧ P.underlying ty = some (.slice e))) → Gives P S a w I β o (.d (.i .i64 n)) := by
    intro n hn
    refine ⟨_, fun w _ => ?_, repD_i' _ _⟩
    unfold execOp
    simp only [ho, resolve, invoke, builtin, Sem.run_bind, Sem.run_pure, Result.andThen_ok, List.map_toArray, List.map_cons, List.map_nil, run_len hn]
  unfold pLen at h
  split at h
  · have ex := repD_s hx
    split at h
    · rename_i hk
      cases h
      exact key _ (.inl ⟨_, ex, rfl, hY.ky hk⟩)
    · cases h
  · obtain ⟨A, c, vs, sz, ex, _⟩ := repD_sl hx
    split at h
    · rename_i hk
      cases h
      exact key _ (.inr ⟨_, _, _, ex, hY.ky hk⟩)
    · cases h
  · simp only [RelT] at hx
    split at h
    · rename_i hk
      cases h
      exact key 0 (.inr ⟨_, _, _, hx, hY.ky hk⟩)
    · cases h
  · cases h
end Go.Proofs.Ytmclamindmnigaa.Ax

namespace Go.Proofs.Ytmclamindmnigaa.Ax
open Go.RowKit
variable {P : Program} {y : Ty} {E : En} {σ : St} {a : Act} {w : World} {I : Im} {β : Be}

theorem run_isAgg {t : TypeId} {k : Ky} (hk : IsKy P t k) : (isAgg t).run P w = .ok k.agg w := by
  unfold isAgg
  cases k with
  | bo => simp only [Sem.run_bind, run_underlying hk, Result.andThen_ok]; rfl
  | nu k => simp only [Sem.run_bind, run_underlying hk, Result.andThen_ok]; rfl
  | st => simp only [Sem.run_bind, run_underlying hk, Result.andThen_ok]; rfl
  | sl e => simp only [Sem.run_bind, run_underlying hk, Result.andThen_ok]; rfl
  | ag fs =>
    obtain ⟨fields, hu, _⟩ := hk
    simp only [Sem.run_bind, run_underlying hu, Result.andThen_ok]; rfl
  | ar n e => simp only [Sem.run_bind, run_underlying hk, Result.andThen_ok]; rfl
  | ot =>
    obtain ⟨d, hu, h1, h2⟩ := hk
    simp only [Sem.run_bind, run_underlying hu, Result.andThen_ok]
    cases d <;> first | rfl | exact absurd rfl (h1 _) | exact absurd rfl (h2 _ _)

theorem run_loadVar_of (hY : TyOk P y) {t : TypeId} {r : Yr} (hr : y.Y t = some r) {b off : Nat} {x : D} {vs : List Value} (hx : RepC w I x vs) (hs : x.size = r.sz) (ha : x.isAg = r.ky.agg)
    {S : World → Prop} (hc : ∀ w, S w → ∀ j u, vs[j]? = some u → w.cell? ⟨b, off + j, none⟩ = some u) : ∃ v, (∀ w, S w → (loadVar t ⟨b, off, none⟩).run P w = .ok v w) ∧ RepD w I x v ∧ v.cells.toList = vs := by
  have hl := hx.len
  obtain ⟨i, hi, hi2, _⟩ := hY.info t r hr
  have hag := fun w => run_isAgg (w := w) (hY.kind t r hr)
  unfold loadVar
  simp only [Sem.run_bind, hag, Result.andThen_ok]
  cases hq : r.ky.agg with
  | true =>
    have hld : ∀ w, S w → (loadCells ⟨b, off, none⟩ r.sz).run P w = .ok vs.toArray w := by
      intro w hS
      have := run_loadCells_list (P := P) w ⟨b, off, none⟩ vs (fun j v hj => by
        have := hc w hS j v hj
        simp only [Addr.add]
        split
        · rename_i h0; subst h0; exact this
        · exact this)
      rw [show r.sz = vs.length by omega]
      exact this
    refine ⟨.agg vs.toArray, fun w hS => ?_, ⟨by simpa [Value.cells] using hx, .inl ⟨by rw [ha, hq], _, rfl⟩⟩, by simp [Value.cells]⟩
    simp only [if_true, Sem.run_bind, sizeOf, run_typeInfo w hi, Result.andThen_ok, Sem.run_pure, hi2, hld w hS]
  | false =>
    have h1 : x.size = 1 := D.size_one (by rw [ha, hq])
    obtain ⟨v, rfl⟩ : ∃ v, vs = [v] := List.length_eq_one_iff.1 (by omega)
    have hv := repD_of (w := w) (I := I) (by rw [ha, hq]) hx
    refine ⟨v, fun w hS => ?_, hv, ?_⟩
    · have h0 := hc w hS 0 v rfl
      simp only [Nat.add_zero] at h0
      simp only [Bool.false_eq_true, if_false]
      simp [h0]
    · have h1 := hx.one v (by simp)
      cases v <;> simp_all [Value.cells, Value.oneCell']

theorem gives_load {S : World → Prop} {o : Oper} {ty : TypeId} {x : Operand} (ho : o.op = .load ty x) {b off : Nat} (hx : a.eval x = .pointer (some ⟨b, off, none⟩)) {v : Value} {t : T} (hr : ∀ w', S w' → (loadVar ty ⟨b, off, none⟩).run P w' = .ok v w') (hv : RelT w I β t v) : Gives P S a w I β o t := by
  refine ⟨v, fun w' hS => ?_, hv⟩
  unfold execOp
  simp only [ho, hx, Instr.loadAt, Instr.sureAddr, Sem.run_bind, Sem.run_pure, Result.andThen_ok, hr w' hS]

theorem cells_of {b : Nat} {us : List Value} {ty : TypeId} {fr : Nat × Nat} (h : w.heap[b]? = some (.cells us.toArray ty fr)) (j : Nat) : w.cell? ⟨b, j, none⟩ = us[j]? := by
  simp [World.cell?, h]

theorem drop_take_nth {α : Type} {us : List α} {off n j : Nat} {u : α} (h : ((us.drop off).take n)[j]? = some u) : us[off + j]? = some u := by
  rw [List.getElem?_take] at h
  split at h
  · rwa [List.getElem?_drop] at h
  · cases h

/-- Worlds in which what σ reads of data and (of the keys of G) of variables is there as in w. -/
def Stab (G : Key → Prop) (w : World) (I : Im) (σ : St) (β : Be) (w' : World) : Prop := (∃ I', Ext w I w' I') ∧ ∀ k c, G k → σ.obj k = some (.var c) → w'.heap[β.blk k]? = w.heap[β.blk k]?
theorem Stab.refl (G : Key → Prop) (w : World) (I : Im) (σ : St) (β : Be) : Stab G w I σ β w := ⟨⟨I, Ext.refl w I⟩, fun _ _ _ _ => rfl⟩

theorem pLoad_ok {S : World → Prop} {G : Key → Prop} (hG : ∀ w', S w' → Stab G w I σ β w') (hY : TyOk P y) (R : Rel E σ a w I β) {o : Oper} {ty : TypeId} {x : Operand} {X t : T} (ho : o.op = .load ty x) (hx : RelT w I β X (a.eval x)) (hGX : ∀ k off, X = .pt k off → G k) (h : pLoad y σ ty X = some t) : Gives P S a w I β o t := by
  unfold pLoad at h
  split at h
  · rename_i z off
    obtain ⟨ad, us, h1, h2, h3⟩ := hx
    split at h
    · rename_i r hr
      cases hq : z.sub off r.sz r.ky.agg with
      | none => rw [hq] at h; cases h
      | some z' =>
        rw [hq] at h
        cases h
        obtain ⟨a1, a2, a3, a4⟩ := D.sub_ok hq h2
        obtain ⟨v, hv, hd, _⟩ := run_loadVar_of (S := S) hY hr (b := ad.block) (off := ad.off + off) a4 a2 a3 (fun w' hS j u hj => by
          obtain ⟨I', e⟩ := (hG w' hS).1
          have := ((h3.ext e).2 _ _ (drop_take_nth hj)).1
          rwa [← Nat.add_assoc] at this)
        exact gives_load ho h1 hv hd
    · cases h
  · rename_i k off
    simp only [RelT] at hx
    split at h
    · rename_i r z hr hk
      obtain ⟨tb, us, h1, h2, h3⟩ := R.ob.rel k _ hk
      simp only [RelC] at h2
      cases hq : z.sub off r.sz r.ky.agg with
      | none => rw [hq] at h; cases h
      | some z' =>
        rw [hq] at h
        cases h
        obtain ⟨a1, a2, a3, a4⟩ := D.sub_ok hq h2
        obtain ⟨v, hv, hd, _⟩ := run_loadVar_of (S := S) hY hr (b := β.blk k) (off := off) a4 a2 a3 (fun w' hS j u hj => by
          rw [cells_of (((hG w' hS).2 k _ (hGX k off rfl) hk).trans h1)]
          exact drop_take_nth hj)
        exact gives_load ho hx hv hd
    · rename_i r z k' m o hr hk
      obtain ⟨tb, us, h1, h2, h3⟩ := R.ob.rel k _ hk
      obtain ⟨h2, hzg, u, hu, hub⟩ := h2
      have hcell : ∀ w', S w' → ∀ j u', us[off + j]? = some u' → w'.cell? ⟨β.blk k, off + j, none⟩ = some u' := fun w' hS j u' hj => by
        rw [cells_of (((hG w' hS).2 k _ (hGX k off rfl) hk).trans h1)]
        exact hj
      split at h
      · rename_i hc
        obtain ⟨rfl, hc1, hc2⟩ := hc
        cases h
        have hul := h2.len
        obtain ⟨v, hv, hd, hcs⟩ := run_loadVar_of (S := S) hY hr (b := β.blk k) (off := 0) h2 hc2.symm (by rw [hzg, hc1]) (fun w' hS j u' hj => hcell w' hS j u' (by rw [Nat.zero_add]; exact hj))
        exact gives_load ho hx hv ⟨hd, hzg, u, by rw [hcs]; exact hu, hub⟩
      · split at h
        · rename_i hc
          obtain ⟨rfl, hc1, hc2⟩ := hc
          cases h
          refine gives_load ho hx (fun w' hS => ?_) (v := u) hub
          have h0 := hcell w' hS 0 u hu
          simp only [Nat.add_zero] at h0
          unfold loadVar
          simp only [Sem.run_bind, run_isAgg (hY.kind ty r hr), Result.andThen_ok, hc1, Bool.false_eq_true, if_false]
          simp [h0]
        · cases hq : z.sub off r.sz r.ky.agg with
          | none => rw [hq] at h; cases h
          | some z' =>
            rw [hq] at h
            cases h
            obtain ⟨a1, a2, a3, a4⟩ := D.sub_ok hq h2
            obtain ⟨v, hv, hd, _⟩ := run_loadVar_of (S := S) hY hr (b := β.blk k) (off := off) a4 a2 a3 (fun w' hS j u hj => hcell w' hS j u (drop_take_nth hj))
            exact gives_load ho hx hv hd
    · rename_i r z hne hne2 hr hk
      obtain ⟨⟨rfl, hag⟩, rfl⟩ := ite_some h
      obtain ⟨tb, us, h1, h2, h3⟩ := R.ob.rel k _ hk
      have : ∃ v, us = [v] ∧ RelT w I β z v := by
        cases z with
        | d x => exact absurd rfl (hne x)
        | dt x k' m o => exact absurd rfl (hne2 x k' m o)
        | _ => obtain ⟨v, e1, e2, e3⟩ := h2; exact ⟨v, e1, e2⟩
      obtain ⟨v, rfl, hv⟩ := this
      refine gives_load ho hx (fun w' hS => ?_) hv
      have h0 : w'.cell? ⟨β.blk k, 0, none⟩ = some v := by rw [cells_of (((hG w' hS).2 k _ (hGX k 0 rfl) hk).trans h1)]; rfl
      unfold loadVar
      simp only [Sem.run_bind, run_isAgg (hY.kind ty r hr), Result.andThen_ok, hag, Bool.false_eq_true, if_false]
      simp [h0]
    · cases h
  · cases h

theorem gives_idx {S : World → Prop} {o : Oper} {ty : TypeId} {x i : Operand} (ho : o.op = .indexAddr ty x i) {e : TypeId} (hu : P.underlying ty = some (.slice e)) {inf : TypeInfo} (he : P.info? e = some inf) {b off len c n : Nat} {k : IntKind}
    (hx : a.eval x = .slice (some ⟨b, off, none⟩) len c) (hi : a.eval i = .int k n) (hn : n < len) {t : T} (ht : RelT w I β t (.pointer (some ⟨b, off + n * inf.size, none⟩))) : Gives P S a w I β o t := by
  refine ⟨_, fun w _ => ?_, ht⟩
  unfold execOp
  have h2 : (0 : Int) ≤ (n : Int) ∧ (n : Int) < (len : Int) := by omega
  simp only [ho, hx, hi, Instr.indexAt, asIntOf, Sem.run_bind, Sem.run_pure, Result.andThen_ok, run_underlying hu, h2, and_self, if_true, sizeOf, run_typeInfo w he, Int.toNat_natCast]
  simp only [Addr.add]
  by_cases hq : n * inf.size = 0
  · simp [hq]
  · simp [hq]

theorem pIdx_ok {S : World → Prop} (hY : TyOk P y) {o : Oper} {ty : TypeId} {x i : Operand} {X Z t : T} (ho : o.op = .indexAddr ty x i) (hx : RelT w I β X (a.eval x)) (hz : RelT w I β Z (a.eval i)) (h : pIdx y ty X Z = some t) : Gives P S a w I β o t := by
  unfold pIdx at h
  split at h
  · rename_i xs k n
    have ei := repD_i hz
    obtain ⟨A, c, vs, sz, ex, hle, hrl, hsz, hseg⟩ := repD_sl hx
    split at h
    · rename_i e hk
      split at h
      · rename_i h0
        split at h
        · rename_i z r hz hr
          obtain ⟨hs, rfl⟩ := ite_some h
          obtain ⟨m, rfl⟩ : ∃ m : Nat, n = m := ⟨n.toNat, by omega⟩
          rw [Int.toNat_natCast] at hz
          have hm : m < xs.length := (List.getElem?_eq_some_iff.1 hz).1
          obtain ⟨ad, rfl, hsg⟩ := hseg.resolve_left (by rintro rfl; simp at hm)
          obtain ⟨inf, hi, hi2, _⟩ := hY.info e r hr
          have hszm : sz = inf.size := by rw [hi2, ← hs]; exact (hsz z (List.mem_of_getElem? hz)).symm
          obtain ⟨c1, c2⟩ := RepL.row hrl hsz hz
          have had : ad = ⟨ad.block, ad.off, none⟩ := by rw [← hsg.1]
          rw [had] at ex
          refine gives_idx ho (hY.ky hk) hi ex ei hm ?_
          refine ⟨⟨ad.block, ad.off + m * inf.size, none⟩, _, by simp, c2, rfl, fun j u hj => ?_⟩
          have := hsg.2 _ _ (drop_take_nth hj)
          rw [hszm, ← Nat.add_assoc] at this
          exact this
        · cases h
      · cases h
    · cases h
  · rename_i k m k' n
    simp only [RelT] at hx
    have ei := repD_i hz
    split at h
    · rename_i e hk
      split at h
      · rename_i r hr
        obtain ⟨⟨h0, h1⟩, rfl⟩ := ite_some h
        obtain ⟨q, rfl⟩ : ∃ q : Nat, n = q := ⟨n.toNat, by omega⟩
        obtain ⟨inf, hi, hi2, _⟩ := hY.info e r hr
        refine gives_idx ho (hY.ky hk) hi hx ei (by omega) ?_
        simp only [RelT, Int.toNat_natCast, hi2, Nat.zero_add]
      · cases h
    · cases h
  · cases h

theorem pConv_ok {S : World → Prop} (hY : TyOk P y) {o : Oper} {sr ds : TypeId} {x : Operand} {X t : T} (ho : o.op = .convert sr ds x) (hx : RelT w I β X (a.eval x)) (hs : ∃ d, P.underlying sr = some d) (h : pConv y ds X = some t) : Gives P S a w I β o t := by
  unfold pConv at h
  split at h
  · rename_i k n
    have ex := repD_i hx
    split at h
    · rename_i k' hk
      cases h
      obtain ⟨d, hd⟩ := hs
      refine ⟨_, fun w _ => ?_, repD_i' _ _⟩
      unfold execOp
      simp only [ho, ex, convert, Sem.run_bind, run_underlying hd, run_underlying (hY.ky hk), Result.andThen_ok, Conv.intToInt, Sem.run_pure]
    · cases h
  · cases h

theorem gives_ix {S : World → Prop} {o : Oper} {ty : TypeId} {x i : Operand} (ho : o.op = .index ty x i) {v : Value} {t : T} (hr : ∀ w, (Instr.index ty (a.eval x) (a.eval i)).run P w = .ok v w) (hv : RelT w I β t v) : Gives P S a w I β o t := by
  refine ⟨v, fun w _ => ?_, hv⟩
  unfold execOp
  simp only [ho, Sem.run_bind, Sem.run_pure, Result.andThen_ok, hr]

theorem pIx_ok {S : World → Prop} (hY : TyOk P y) {o : Oper} {ty : TypeId} {x i : Operand} {X Z t : T} (ho : o.op = .index ty x i) (hx : RelT w I β X (a.eval x)) (hz : RelT w I β Z (a.eval i)) (h : pIx y ty X Z = some t) : Gives P S a w I β o t := by
  unfold pIx at h
  split at h
  · rename_i s k n
    have ex := repD_s hx
    have ei := repD_i hz
    split at h
    · rename_i hk
      obtain ⟨⟨h0, h1⟩, rfl⟩ := ite_some h
      obtain ⟨q, rfl⟩ : ∃ q : Nat, n = q := ⟨n.toNat, by omega⟩
      have hq : q < s.size := by omega
      refine gives_ix ho (v := .int .u8 (s[q].toNat)) ?_ ?_
      · intro w
        rw [ex, ei]
        unfold Instr.index
        simp only [asIntOf, Sem.run_bind, Sem.run_pure, Result.andThen_ok, run_underlying (hY.ky hk), h0, if_true, Int.toNat_natCast]
        rw [getElem?_pos s q hq]
        rfl
      · have : (s.data[((q : Int)).toNat]?).getD 0 = s[q] := by
          rw [Int.toNat_natCast, Array.getElem?_eq_getElem (by exact hq)]
          rfl
        rw [this]
        exact repD_i' _ _
    · cases h
  · rename_i xs k n
    have ei := repD_i hz
    obtain ⟨cs, ex, hrl⟩ := repD_ag hx
    split at h
    · rename_i len e hk
      split at h
      · rename_i r hr
        obtain ⟨⟨h0, h1⟩, h⟩ : (0 ≤ n ∧ n < (len : Int)) ∧ ((D.ag xs).sub (n.toNat * r.sz) r.sz r.ky.agg).map T.d = some t := by
          split at h
          · exact ⟨by assumption, h⟩
          · cases h
        obtain ⟨q, rfl⟩ : ∃ q : Nat, n = q := ⟨n.toNat, by omega⟩
        rw [Int.toNat_natCast] at h
        cases hq : (D.ag xs).sub (q * r.sz) r.sz r.ky.agg with
        | none => rw [hq] at h; cases h
        | some z =>
          rw [hq] at h
          cases h
          obtain ⟨inf, hi, hi2, _⟩ := hY.info e r hr
          obtain ⟨a1, a2, a3, a4⟩ := D.sub_ok hq (us := cs.toList) (by simpa only [RepC] using hrl)
          have hrun : ∀ v, (∀ w, (part e cs (q * r.sz)).run P w = .ok v w) → ∀ w, (Instr.index ty (a.eval x) (a.eval i)).run P w = .ok v w := by
            intro v hv w
            rw [ex, ei]
            unfold Instr.index
            simp only [asIntOf, Sem.run_bind, Sem.run_pure, Result.andThen_ok, run_underlying (hY.ky hk), h0, h1, and_self, if_true, Int.toNat_natCast, sizeOf, run_typeInfo w hi, hi2, hv]
          have hag := fun w => run_isAgg (P := P) (w := w) (hY.kind e r hr)
          cases hg : r.ky.agg with
          | true =>
            refine gives_ix ho (hrun (.agg (cs.extract (q * r.sz) (q * r.sz + r.sz))) ?_) ⟨?_, .inl ⟨by rw [a3, hg], _, rfl⟩⟩
            · intro w
              unfold part
              simp only [Sem.run_bind, hag, Result.andThen_ok, hg, if_true, sizeOf, run_typeInfo w hi, hi2, Sem.run_pure]
            · simp only [Value.cells, Array.toList_extract, List.extract_eq_take_drop]
              rw [show q * r.sz + r.sz - q * r.sz = r.sz by omega]
              exact a4
          | false =>
            have hz1 : z.size = 1 := D.size_one (by rw [a3, hg])
            have hl := a4.len
            obtain ⟨v, hv⟩ : ∃ v, ((cs.toList.drop (q * r.sz)).take r.sz) = [v] := List.length_eq_one_iff.1 (by omega)
            rw [hv] at a4
            refine gives_ix ho (hrun v (fun w => ?_)) (repD_of (by rw [a3, hg]) a4)
            have hc : cs.toList[q * r.sz]? = some v := by
              have := drop_take_nth (us := cs.toList) (off := q * r.sz) (n := r.sz) (j := 0) (u := v) (by rw [hv]; rfl)
              simpa using this
            have hc' : cs[q * r.sz]? = some v := by simpa using hc
            unfold part
            simp only [Sem.run_bind, hag, Result.andThen_ok, hg, Bool.false_eq_true, if_false, hc', Sem.run_pure]
      · cases h
    · cases h
  · cases h

theorem pExtract_ok {S : World → Prop} {o : Oper} {x : Operand} {i : Nat} {X t : T} (ho : o.op = .extract x i) (hx : RelT w I β X (a.eval x)) (h : pExtract i X = some t) : Gives P S a w I β o t := by
  unfold pExtract at h
  split at h
  · rename_i xs
    obtain ⟨vs, ex, hv⟩ := hx
    cases hq : xs[i]? with
    | none => rw [hq] at h; cases h
    | some z =>
      rw [hq] at h
      cases h
      obtain ⟨u, hu, hr⟩ := hv.nth hq
      refine ⟨u, fun w _ => ?_, hr⟩
      have hu' : vs[i]? = some u := by simpa using hu
      unfold execOp
      simp only [ho, ex, Instr.extract, hu', Sem.run_bind, Sem.run_pure, Result.andThen_ok]
  · cases h

theorem kPts_ok : ∀ {xs : List T} {ks : List Key} {vs : List Value}, kPts xs = some ks → All2 (RelT w I β) xs vs → vs = ks.map fun k => .pointer (some ⟨β.blk k, 0, none⟩)
  | [], ks, [], h, _ => by simp [kPts] at h; subst h; rfl
  | [], _, _ :: _, _, h => h.elim
  | _ :: _, _, [], _, h => h.elim
  | x :: r, ks, v :: vs, h, hr => by
    simp only [kPts] at h
    split at h
    · rename_i k ks' h1 h2
      cases h
      rw [List.map_cons, ← kPts_ok h2 hr.2]
      congr 1
      unfold kPt at h1
      split at h1
      · cases h1; exact hr.1
      · cases h1
    · cases h

theorem Rel.evs (R : Rel E σ a w I β) : ∀ xs : List Operand, All2 (RelT w I β) (xs.map σ.ev) (xs.map a.eval)
  | [] => trivial
  | x :: r => ⟨R.ev x, R.evs r⟩

theorem set_seq (off : Nat) : ∀ (cs : List Value) (j : Nat) (A B : List Value), A.length = off + j → cs.length ≤ B.length →
    (cs.zipIdx j).foldl (fun acc p => acc.setIfInBounds (off + p.2) p.1) (A ++ B).toArray = (A ++ cs ++ B.drop cs.length).toArray
  | [], j, A, B, _, _ => by simp
  | c :: r, j, A, [], _, h => by simp at h
  | c :: r, j, A, b :: B, hA, h => by
    simp only [List.zipIdx_cons, List.foldl_cons, List.setIfInBounds_toArray]
    rw [← hA, List.set_append_right _ _ (Nat.le_refl _), Nat.sub_self, List.set_cons_zero]
    have := set_seq off r (j + 1) (A ++ [c]) B (by simp; omega) (by simpa using h)
    rw [show A ++ c :: B = (A ++ [c]) ++ B by simp]
    rw [this]
    simp

theorem fill_ok {p : Nat → Option (Nat × Nat)} : ∀ {ps : List (Nat × T)} {vs : List Value} {z z' : D} {us : List Value}, setAll p z ps = some z' → RepC w I z us → All2 (RelT w I β) (ps.map (·.2)) vs →
    ∃ us', Instr.fill p us.toArray (List.zipWith (fun a v => (a.1, v)) ps vs) = some us'.toArray ∧ RepC w I z' us' ∧ z'.isAg = z.isAg ∧ ∀ m, (∀ i ∈ ps.map (·.1), ∀ q, p i = some q → m < q.1 ∨ q.1 + q.2 ≤ m) → us'[m]? = us[m]?
  | [], [], z, z', us, h, hr, _ => by simp [setAll] at h; subst h; exact ⟨us, rfl, hr, rfl, fun _ _ => rfl⟩
  | [], _ :: _, _, _, _, _, _, h => h.elim
  | (_, .d _) :: _, [], _, _, _, _, _, h => h.elim
  | (i, .d x) :: r, v :: vs, z, z', us, h, hr, hv => by
    simp only [setAll] at h
    cases hp : p i with
    | none => rw [hp] at h; cases h
    | some q =>
      rw [hp] at h
      simp only at h
      split at h
      · rename_i hs
        cases hq : z.set q.1 x with
        | none => rw [hq] at h; cases h
        | some z1 =>
          rw [hq] at h
          obtain ⟨hv1, hv2⟩ := hv
          have hx : RepC w I x v.cells.toList := hv1.1
          obtain ⟨a1, a2, a3, a4⟩ := D.set_ok hq hr hx
          obtain ⟨us', b1, b2, b3, b4⟩ := fill_ok h a4 hv2
          refine ⟨us', ?_, b2, b3.trans a3, fun m hm => ?_⟩
          rotate_left
          · rw [b4 m fun i' hi' => hm i' (by rw [List.map_cons]; exact List.mem_cons_of_mem _ hi')]
            have hvs : v.cells.toList.length = q.2 := by have := hx.len; omega
            rcases hm i (by simp) q hp with hlt | hge
            · rw [List.append_assoc, List.getElem?_append_left (by simp only [List.length_take]; omega), List.getElem?_take_of_lt hlt]
            · rw [List.getElem?_append_right (by simp only [List.length_append, List.length_take]; omega), List.getElem?_drop]
              simp only [List.length_append, List.length_take]
              congr 1
              omega
          have hvs : v.cells.size = q.2 := by have := hx.len; simp at this; omega
          simp only [List.zipWith_cons_cons, Instr.fill, hp]
          have hcc : ¬ (v.cells.size ≠ q.2 ∨ q.1 + v.cells.size > us.toArray.size) := by
            simp only [List.size_toArray]
            simp at a1
            omega
          rw [if_neg (by simpa only [Bool.or_eq_true, decide_eq_true_eq] using hcc)]
          rw [← b1]
          congr 1
          simp at a1
          have := set_seq q.1 v.cells.toList 0 (us.take q.1) (us.drop q.1) (by simp; omega) (by simp; omega)
          rw [List.take_append_drop] at this
          rw [← Array.foldl_toList, Array.toList_zipIdx, this]
          simp
      · cases h
  | (_, .any) :: _, _, _, _, _, h, _, _ => by simp [setAll] at h
  | (_, .un) :: _, _, _, _, _, h, _, _ => by simp [setAll] at h
  | (_, .nl) :: _, _, _, _, _, h, _, _ => by simp [setAll] at h
  | (_, .tu _) :: _, _, _, _, _, h, _, _ => by simp [setAll] at h
  | (_, .pt _ _) :: _, _, _, _, _, h, _, _ => by simp [setAll] at h
  | (_, .pd _ _) :: _, _, _, _, _, h, _, _ => by simp [setAll] at h
  | (_, .rw _ _) :: _, _, _, _, _, h, _, _ => by simp [setAll] at h
  | (_, .rf _ _) :: _, _, _, _, _, h, _, _ => by simp [setAll] at h
  | (_, .pm _ _ _) :: _, _, _, _, _, h, _, _ => by simp [setAll] at h
  | (_, .fn _ _) :: _, _, _, _, _, h, _, _ => by simp [setAll] at h

theorem Rel.evf (R : Rel E σ a w I β) : ∀ ps : List (Nat × Operand), All2 (RelT w I β) (ps.map fun p => σ.frz (σ.ev p.2)) (ps.map fun p => a.eval p.2)
  | [] => trivial
  | p :: r => ⟨R.frz (R.ev p.2), R.evf r⟩

theorem zip_map {f : Operand → T} {g : Operand → Value} : ∀ l : List (Nat × Operand), List.zipWith (fun (a : Nat × T) v => (a.1, v)) (l.map fun p => (p.1, f p.2)) (l.map fun p => g p.2) = l.map fun p => (p.1, g p.2)
  | [] => rfl
  | p :: r => by simp [zip_map r]

theorem pBuild_keep (hY : TyOk P y) (R : Rel E σ a w I β) {o : Oper} {ty : TypeId} {ps : Array (Nat × Operand)} {t : T} (ho : o.op = .build ty ps) (h : pBuild y ty (ps.toList.map fun p => (p.1, σ.frz (σ.ev p.2))) = some t) : ∃ (z' : D) (us' : List Value) (it : TypeInfo) (zv : Value) (k : Ky), t = .d z' ∧ z'.isAg = true ∧ (∀ w, (execOp a.eval o).run P w = .ok (.value (.agg us'.toArray)) w) ∧ RepD w I z' (.agg us'.toArray) ∧ P.info? ty = some it ∧ it.zero = some zv ∧ y.ky ty = some k ∧ ∀ m, (∀ i ∈ ps.toList.map (·.1), ∀ q, place k (fun e => (y.Y e).map (·.sz)) i = some q → m < q.1 ∨ q.1 + q.2 ≤ m) → us'[m]? = zv.cells.toList[m]? := by
  unfold pBuild at h
  split at h
  · rename_i k z hk hz
    split at h
    · rename_i hag
      cases hq : setAll (place k fun e => (y.Y e).map (·.sz)) z (ps.toList.map fun p => (p.1, σ.frz (σ.ev p.2))) with
      | none => rw [hq] at h; cases h
      | some z' =>
        rw [hq] at h
        cases h
        obtain ⟨it, zv, j1, j2, j3, j4⟩ := hY.zero ty z hz
        have hr := (j4 w I).1
        obtain ⟨us', b1, b2, b3, b4⟩ := fill_ok (vs := ps.toList.map fun p => a.eval p.2) hq hr (by rw [List.map_map]; exact R.evf ps.toList)
        rw [zip_map (f := fun x => σ.frz (σ.ev x)) (g := a.eval)] at b1
        have hb : P.built ty ((ps.map fun x => (x.1, a.eval x.2)).toList) = some us'.toArray := by
          have hki := hY.ky hk
          have hps : (ps.map fun x => (x.1, a.eval x.2)).toList = ps.toList.map fun p => (p.1, a.eval p.2) := by simp
          rw [hps]
          have hzv : zv.cells.toList.toArray = zv.cells := by simp
          rw [hzv] at b1
          unfold Program.built
          cases k with
          | ag fs =>
            obtain ⟨fields, hu, hm, _⟩ := hki
            simp only [j1, hu, j2, hm]
            rw [← b1]
            congr 1
            funext i
            simp [place]
          | ar n e =>
            have hu : P.underlying ty = some (.array n e) := hki
            cases hye : y.Y e with
            | none =>
              have := hag.2.2
              simp [Ky.okk, hye] at this
            | some r =>
              obtain ⟨inf, i1, i2, _⟩ := hY.info e r hye
              simp only [j1, hu, j2, i1]
              rw [← b1]
              congr 1
              funext i
              simp [place, hye, i2]
          | bo => simp [Ky.agg] at hag
          | nu _ => simp [Ky.agg] at hag
          | st => simp [Ky.agg] at hag
          | sl _ => simp [Ky.agg] at hag
          | ot => simp [Ky.agg] at hag
        refine ⟨z', us', it, zv, k, rfl, by rw [b3]; exact hag.1, fun w => ?_, ⟨by simpa [Value.cells] using b2, .inl ⟨by rw [b3]; exact hag.1, _, rfl⟩⟩, j1, j2, hk, fun m hm => b4 m fun i hi => hm i (by simpa [List.map_map] using hi)⟩
        unfold execOp
        have hps2 : (ps.map fun (i, x) => (i, a.eval x)) = ps.map fun x => (x.1, a.eval x.2) := rfl
        simp only [ho, hps2, Sem.run_bind, run_build w ty _ _ hb, Result.andThen_ok, Sem.run_pure]
    · cases h
  · cases h
theorem pBuild_ok {S : World → Prop} (hY : TyOk P y) (R : Rel E σ a w I β) {o : Oper} {ty : TypeId} {ps : Array (Nat × Operand)} {t : T} (ho : o.op = .build ty ps) (h : pBuild y ty (ps.toList.map fun p => (p.1, σ.frz (σ.ev p.2))) = some t) : Gives P S a w I β o t := by
  obtain ⟨z', us', it, zv, k, rfl, h1, h2, h3, _⟩ := pBuild_keep hY R ho h
  exact ⟨_, fun w _ => h2 w, h3⟩

theorem pval_ok {S : World → Prop} {G : Key → Prop} (hG : ∀ w', S w' → Stab G w I σ β w') (hY : TyOk P y) (R : Rel E σ a w I β) {o : Oper} {t : T} (h : pval y σ o.op = some t) (hGX : ∀ ty x k off, o.op = .load ty x → σ.ev x = .pt k off → G k) (hcv : ∀ s d x, o.op = .convert s d x → ∃ u, P.underlying s = some u) : Gives P S a w I β o t := by
  generalize ho : o.op = op at h
  unfold pval at h
  split at h
  · cases h; exact ⟨_, fun w _ => by unfold execOp; simp only [ho, Sem.run_pure], R.ev _⟩
  · cases h; exact ⟨_, fun w _ => by unfold execOp; simp only [ho, Sem.run_pure], R.ev _⟩
  · rename_i c p q
    have hc := R.ev c
    split at h
    · rename_i t0 e0
      rw [e0] at hc
      have ec := repD_b hc
      cases h
      refine ⟨if t0 then a.eval p else a.eval q, fun w _ => ?_, ?_⟩
      · unfold execOp
        simp only [ho, ec, asBool, Sem.run_bind, Sem.run_pure, Result.andThen_ok]
      · unfold tif
        cases t0
        · exact R.ev q
        · exact R.ev p
    · cases h
  · exact pBin_ok hY ho (R.ev _) (R.ev _) h
  · exact pUn_ok ho (R.ev _) h
  · exact pBuild_ok hY R ho h
  · exact pFld_ok hY ho (R.ev _) h
  · exact pLoad_ok hG hY R ho (R.ev _) (fun k off e0 => hGX _ _ k off ho e0) h
  · exact pIdx_ok hY ho (R.frz (R.ev _)) (R.ev _) h
  · exact pIx_ok hY ho (R.ev _) (R.ev _) h
  · exact pExtract_ok ho (R.ev _) h
  · rename_i x
    have hx := R.ev x
    split at h
    · rename_i k off e0
      rw [e0] at hx
      cases h
      have hx' := hx
      simp only [RelT] at hx'
      exact ⟨_, fun w _ => by unfold execOp; simp only [ho, hx', Sem.run_pure], rfl⟩
    · rename_i z off e0
      rw [e0] at hx
      cases h
      obtain ⟨ad, us, h1, h2⟩ := hx
      exact ⟨_, fun w _ => by unfold execOp; simp only [ho, h1, Sem.run_pure], ad, us, rfl, h2⟩
    · cases h
  · rename_i s d x
    exact pConv_ok hY ho (R.ev _) (hcv s d x ho) h
  · rename_i f first caps
    split at h
    · rename_i h0
      cases hq : kPts (caps.toList.map σ.ev) with
      | none => rw [hq] at h; cases h
      | some ks =>
        rw [hq] at h
        cases h
        have := kPts_ok hq (R.evs caps.toList)
        refine ⟨.func (.func f) (first.map a.eval) (caps.map a.eval), fun w _ => by unfold execOp; simp only [ho, Instr.makeFunc, Sem.run_bind, Sem.run_pure, Result.andThen_ok], ?_⟩
        simp only [RelT]
        have hf : first = #[] := Array.size_eq_zero_iff.1 h0
        subst hf
        rw [← this]
        simp
        exact Array.toList_inj.1 (by simp)
    · cases h
  · rename_i c
    split at h
    · rename_i x t0 e1 e2 e3
      have hc : c = { callee := .builtin .len, args := #[x], argTypes := #[t0] } := by
        cases c
        simp only at e1 e2 e3
        congr
        · exact Array.toList_inj.1 (by simpa using e2)
        · exact Array.toList_inj.1 (by simpa using e3)
      subst hc
      exact pLen_ok hY ho (R.frz (R.ev _)) h
    · cases h
  · cases h
end Go.Proofs.Ytmclamindmnigaa.Ax

namespace Go.Proofs.Ytmclamindmnigaa.Ax
open Go.RowKit
variable {P : Program} {y : Ty} {E : En} {σ : St} {a : Act} {w : World} {I : Im} {β : Be}

theorem look_cons {α : Type} (k i : Nat) (v : α) (r : List (Nat × α)) : look ((k, v) :: r) i = if i = k then some v else look r i := rfl

theorem getD_set (tmps : Array Value) (i j : Nat) (v d : Value) (h : i < tmps.size) : (tmps.setIfInBounds i v).getD j d = if j = i then v else tmps.getD j d := by
  simp only [Array.getD_eq_getD_getElem?, Array.getElem?_setIfInBounds]
  by_cases hq : i = j
  · subst hq; simp [h]
  · simp [hq, Ne.symm hq]

theorem Rel.put (R : Rel E σ a w I β) {dst : Option Tmp} (hd : ∀ i, dst = some i → i < E.n) {x : T} {v : Value} (h : RelT w I β x v) : Rel E (σ.put dst x) (a.put dst v) w I β := by
  cases dst with
  | none => exact R
  | some i =>
    have hi : i < a.tmps.size := by rw [R.tz]; exact hd i rfl
    refine ⟨fun j z hz => ?_, by simp [Act.put, R.tz], R.df, R.ob, R.ext, R.fr, R.kp, R.lo, R.fo, R.nf⟩
    simp only [Act.put, getD_set _ _ _ _ _ hi]
    simp only [St.put, look_cons] at hz
    split at hz
    · rename_i hj
      cases hz
      rw [if_pos hj]; exact h
    · rename_i hj
      rw [if_neg hj]; exact R.tm j z hz

def St.setO (σ : St) (k : Key) (o : Ob) : St :=
  match k with
  | .l i => { σ with L := (i, o) :: σ.L }
  | .f i => { σ with F := σ.F.set i o }

theorem St.obj_setO {σ : St} {k : Key} {o : Ob} (hk : ∀ i, k = .f i → i < σ.F.length) (k' : Key) : (σ.setO k o).obj k' = if k' = k then some o else σ.obj k' := by
  cases k with
  | l i =>
    cases k' with
    | l j => simp only [St.setO, St.obj, look_cons, Key.l.injEq]
    | f j => simp [St.setO, St.obj]
  | f i =>
    have hi := hk i rfl
    cases k' with
    | l j => simp [St.setO, St.obj]
    | f j =>
      simp only [St.setO, St.obj, Key.f.injEq, List.getElem?_set]
      by_cases hq : i = j
      · subst hq; simp [hi]
      · simp [hq, Ne.symm hq]

/-- Nothing in the state names the key k. -/
def St.Clean (σ : St) (k : Key) : Prop := (∀ i x, look σ.t i = some x → k ∉ x.keys) ∧ (∀ k' o, σ.obj k' = some o → k ∉ o.keys ∧ k' ≠ k)

theorem Ext.of_fr {w w' : World} {I I' : Im} {X : Nat → Prop} (hn : ∀ b, w.heap.size ≤ b → I b = 0) (f : Fr w I X w' I') (hX : ∀ b, X b → I b ≤ I' b ∧ ∀ o, o < I b → w'.cell? ⟨b, o, none⟩ = w.cell? ⟨b, o, none⟩) : Ext w I w' I' := by
  refine ⟨f.size, fun b => ?_, fun b o ho => ?_⟩
  · by_cases hb : b < w.heap.size
    · by_cases hx : X b
      · exact (hX b hx).1
      · rw [(f.block b hb hx).2]
        exact Nat.le_refl _
    · rw [hn b (by omega)]; exact Nat.zero_le _
  · by_cases hb : b < w.heap.size
    · by_cases hx : X b
      · exact (hX b hx).2 o ho
      · exact World.cell?_of_block (w := w) (a := ⟨b, o, none⟩) (f.block b hb hx).1
    · rw [hn b (by omega)] at ho; cases ho

/-- One object is new, or changed. -/
theorem Rel.step (R : Rel E σ a w I β) {k : Key} {o' : Ob} {w' : World} {I' : Im} {β' : Be}
    (e : Ext w I w' I') (fr : Fr w I (fun b => ∃ o, σ.obj k = some o ∧ own β k o = some b) w' I')
    (hβ : ∀ k', k' ≠ k → β'.blk k' = β.blk k' ∧ β'.row k' = β.row k')
    (hk : (σ.Clean k ∧ ¬ fKey k) ∨ (Keep (· = k) β β' ∧ ∃ o, σ.obj k = some o))
    (ho : RelO w' I' β' k o') (hown : ∀ b, own β' k o' = some b → (∃ o, σ.obj k = some o ∧ own β k o = some b) ∨ w.heap.size ≤ b)
    (hnf : fKey k → ∀ k' ∈ o'.keys, fKey k') (hnew : ∀ b, w'.heap.size ≤ b → I' b = 0) : Rel E (σ.setO k o') a w' I' β' := by
  have hF : ∀ i, k = .f i → i < σ.F.length := by
    rintro i rfl
    rcases hk with ⟨_, h⟩ | ⟨_, o, h⟩
    · exact absurd trivial h
    · exact (List.getElem?_eq_some_iff.1 h).1
  have hobj := St.obj_setO (σ := σ) (o := o') hF
  -- what names a key other than k, or k itself where it was there before, is kept
  have keepT : ∀ ks : List Key, (k ∈ ks → Keep (· = k) β β') → Keep (· ∈ ks) β β' := fun ks hks k' hk' => by
    by_cases hq : k' = k
    · subst hq; exact hks hk' _ rfl
    · obtain ⟨h1, h2⟩ := hβ k' hq
      exact ⟨h1, fun n v hv => by rw [h2]; exact hv⟩
  have ck : ∀ i x, look σ.t i = some x → k ∈ x.keys → Keep (· = k) β β' := fun i x hx hm => by
    rcases hk with ⟨h, _⟩ | ⟨h, _⟩
    · exact absurd hm (h.1 i x hx)
    · exact h
  -- an object other than k
  have other : ∀ k' o, k' ≠ k → σ.obj k' = some o → RelO w' I' β' k' o ∧ own β' k' o = own β k' o := fun k' o hne hq => by
    have hr := R.ob.rel k' o hq
    refine RelO.keep e (fun k2 h2 => ?_) (fun n hn => by rw [(hβ k' hne).2]; exact hn) (fun b hb => ?_) hr
    · rcases h2 with rfl | h2
      · obtain ⟨h1, h2⟩ := hβ k2 hne
        exact ⟨h1, fun n v hv => by rw [h2]; exact hv⟩
      · refine keepT o.keys (fun hm => ?_) k2 h2
        rcases hk with ⟨h, _⟩ | ⟨h, _⟩
        · exact absurd hm (h.2 k' o hq).1
        · exact h
    · refine fr.block b (own_lt hr hb) ?_
      rintro ⟨o2, ho2, hb2⟩
      exact hne (R.ob.sep k' k o o2 b hq ho2 hb hb2)
  refine ⟨fun i x hx => RelT.mono e (keepT x.keys (ck i x ?_)) (R.tm i x ?_), R.tz, R.df, ⟨fun k' o hq => ?_, fun k1 k2 o1 o2 b h1 h2 b1 b2 => ?_, hnew⟩, R.ext.trans e, ?_, ?_, ?_, ?_, ?_⟩
  · cases k <;> exact hx
  · cases k <;> exact hx
  · rw [hobj] at hq
    split at hq
    · rename_i hk'; subst hk'; cases hq; exact ho
    · rename_i hk'; exact (other k' o hk' hq).1
  · rw [hobj] at h1 h2
    by_cases e1 : k1 = k <;> by_cases e2 : k2 = k
    · rw [e1, e2]
    · rw [if_pos e1] at h1; rw [if_neg e2] at h2; cases h1; subst e1
      rw [(other k2 o2 e2 h2).2] at b2
      rcases hown b b1 with ⟨o, h3, h4⟩ | h3
      · exact R.ob.sep _ _ _ _ b h3 h2 h4 b2
      · have := own_lt (R.ob.rel k2 o2 h2) b2
        omega
    · rw [if_neg e1] at h1; rw [if_pos e2] at h2; cases h2; subst e2
      rw [(other k1 o1 e1 h1).2] at b1
      rcases hown b b2 with ⟨o, h3, h4⟩ | h3
      · exact R.ob.sep _ _ _ _ b h1 h3 b1 h4
      · have := own_lt (R.ob.rel k1 o1 h1) b1
        omega
    · rw [if_neg e1] at h1; rw [if_neg e2] at h2
      rw [(other k1 o1 e1 h1).2] at b1
      rw [(other k2 o2 e2 h2).2] at b2
      exact R.ob.sep _ _ _ _ b h1 h2 b1 b2
  · refine R.fr.trans fr (fun b hb hx => ?_)
    rintro ⟨o, h1, h2⟩
    cases k with
    | l i => have := R.lo i o b h1 h2; omega
    | f i => exact (R.fo i o b h1 h2).elim (fun h => by omega) hx
  · refine R.kp.trans (fun k' hk' => ?_)
    by_cases hq : k' = k
    · subst hq
      rcases hk with ⟨_, h⟩ | ⟨h, _⟩
      · exact absurd hk' h
      · exact h _ rfl
    · obtain ⟨h1, h2⟩ := hβ k' hq
      exact ⟨h1, fun n v hv => by rw [h2]; exact hv⟩
  · intro n o b hq hb
    have hq' : (σ.setO k o').obj (.l n) = some o := hq
    rw [hobj] at hq'
    split at hq'
    · rename_i hk'
      subst hk'
      cases hq'
      rcases hown b hb with ⟨o, h1, h2⟩ | h1
      · exact R.lo n o b h1 h2
      · exact Nat.le_trans R.fr.size h1
    · rename_i hk'
      rw [(other _ o hk' hq').2] at hb
      exact R.lo n o b hq' hb
  · intro n o b hq hb
    have hq' : (σ.setO k o').obj (.f n) = some o := hq
    rw [hobj] at hq'
    split at hq'
    · rename_i hk'
      subst hk'
      cases hq'
      rcases hown b hb with ⟨o, h1, h2⟩ | h1
      · exact R.fo n o b h1 h2
      · exact .inl (Nat.le_trans R.fr.size h1)
    · rename_i hk'
      rw [(other _ o hk' hq').2] at hb
      exact R.fo n o b hq' hb
  · intro n o hq k2 hk2
    have hq' : (σ.setO k o').obj (.f n) = some o := hq
    rw [hobj] at hq'
    split at hq'
    · rename_i hk'
      subst hk'
      cases hq'
      exact hnf trivial k2 hk2
    · exact R.nf n o hq' k2 hk2
end Go.Proofs.Ytmclamindmnigaa.Ax

namespace Go.Proofs.Ytmclamindmnigaa.Ax
open Go.RowKit
variable {P : Program} {y : Ty} {E : En} {σ : St} {a : Act} {w : World} {I : Im} {β : Be}

def upd {α β : Type} [DecidableEq α] (f : α → β) (k : α) (v : β) : α → β := fun x => if x = k then v else f x
theorem upd_eq {α β : Type} [DecidableEq α] (f : α → β) (k : α) (v : β) : upd f k v k = v := by simp [upd]
theorem upd_ne {α β : Type} [DecidableEq α] (f : α → β) {k x : α} (v : β) (h : x ≠ k) : upd f k v x = f x := by simp [upd, h]

theorem alloc_heap (w : World) (o : Obj) : (w.alloc o).heap[w.heap.size]? = some o := heap_alloc_new w o
theorem alloc_size (w : World) (o : Obj) : (w.alloc o).heap.size = w.heap.size + 1 := by
  show (w.heap.push o).size = _
  simp
theorem alloc_old (w : World) (o : Obj) {b : Nat} (h : b < w.heap.size) : (w.alloc o).heap[b]? = w.heap[b]? := Below.heap_alloc w o b h

theorem Fr.alloc (w : World) (I : Im) (X : Nat → Prop) (o : Obj) (n : Nat) : Fr w I X (w.alloc o) (upd I w.heap.size n) :=
  ⟨rfl, rfl, rfl, by rw [alloc_size]; omega, fun b hb _ => ⟨alloc_old w o hb, upd_ne _ _ (by omega)⟩⟩
theorem Ext.alloc {w : World} {I : Im} (hn : ∀ b, w.heap.size ≤ b → I b = 0) (o : Obj) (n : Nat) : Ext w I (w.alloc o) (upd I w.heap.size n) :=
  Ext.of_fr hn (Fr.alloc w I (fun _ => False) o n) (fun _ h => h.elim)
theorem new_alloc {w : World} {I : Im} (hn : ∀ b, w.heap.size ≤ b → I b = 0) (o : Obj) (n : Nat) : ∀ b, (w.alloc o).heap.size ≤ b → upd I w.heap.size n b = 0 := fun b hb => by
  rw [alloc_size] at hb
  rw [upd_ne _ _ (by omega)]
  exact hn b (by omega)

theorem Be.blk_upd (β : Be) (k : Key) (b : Nat) : ∀ k', k' ≠ k → ({ β with blk := upd β.blk k b } : Be).blk k' = β.blk k' ∧ ({ β with blk := upd β.blk k b } : Be).row k' = β.row k' :=
  fun _ h => ⟨upd_ne _ _ h, rfl⟩
theorem Be.row_upd (β : Be) (k : Key) (f : Nat → Option Value) : ∀ k', k' ≠ k → ({ β with row := upd β.row k f } : Be).blk k' = β.blk k' ∧ ({ β with row := upd β.row k f } : Be).row k' = β.row k' :=
  fun _ h => ⟨rfl, upd_ne _ _ h⟩

theorem keep_off {ks : List Key} {k : Key} {β β' : Be} (h : k ∉ ks) (hβ : ∀ k', k' ≠ k → β'.blk k' = β.blk k' ∧ β'.row k' = β.row k') : Keep (· ∈ ks) β β' := fun k' hk' => by
  obtain ⟨h1, h2⟩ := hβ k' (fun e => h (e ▸ hk'))
  exact ⟨h1, fun n v hv => by rw [h2]; exact hv⟩

/-- A new variable. -/
theorem Rel.newvar (R : Rel E σ a w I β) {i : Nat} (hc : σ.Clean (.l i)) {c : T} {us : List Value} (ty : TypeId) (hr : RelC w I β c us) (hck : Key.l i ∉ c.keys) :
    Rel E (σ.setO (.l i) (.var c)) a (w.alloc (.cells us.toArray ty (0, 0))) (upd I w.heap.size 0) { β with blk := upd β.blk (.l i) w.heap.size } := by
  have hn := R.ob.new
  have hβ := Be.blk_upd β (.l i) w.heap.size
  refine R.step (Ext.alloc hn _ _) (Fr.alloc w I _ _ 0) hβ (.inl ⟨hc, fun h => h⟩) ⟨ty, us, ?_, ?_, ?_⟩ ?_ (fun h => h.elim) (new_alloc hn _ _)
  · simp only [upd_eq]; exact alloc_heap w _
  · exact RelC.mono (Ext.alloc hn _ _) (keep_off hck hβ) hr
  · simp only [upd_eq]
  · intro b hb
    simp only [own, upd_eq, Option.some.injEq] at hb
    exact .inr (by omega)

/-- A new array. -/
theorem Rel.newmr (R : Rel E σ a w I β) {i : Nat} (hc : σ.Clean (.l i)) {xs : List D} {us : List Value} (e : TypeId) {sz : Nat} (h0 : 0 < sz) (hr : RepL w I xs us) (hs : ∀ x ∈ xs, x.size = sz) :
    Rel E (σ.setO (.l i) (.mr e sz xs)) a (w.alloc (.cells us.toArray e (0, 0))) (upd I w.heap.size 0) { β with blk := upd β.blk (.l i) w.heap.size } := by
  have hn := R.ob.new
  have hβ := Be.blk_upd β (.l i) w.heap.size
  refine R.step (Ext.alloc hn _ _) (Fr.alloc w I _ _ 0) hβ (.inl ⟨hc, fun h => h⟩) ⟨h0, us, ?_, ?_, hs, ?_⟩ ?_ (fun h => h.elim) (new_alloc hn _ _)
  · simp only [upd_eq]; exact alloc_heap w _
  · exact RepL.ext (Ext.alloc hn _ _) hr
  · simp only [upd_eq]
  · intro b hb
    simp only [own, upd_eq, Option.some.injEq] at hb
    exact .inr (by omega)

def hist (n : Nat) (v : Value) : Nat → Option Value := fun m => if m = n then some v else none

/-- A new row, full. -/
theorem Rel.newrow (R : Rel E σ a w I β) {i : Nat} (hc : σ.Clean (.l i)) {xs : List D} {us : List Value} (e : TypeId) {sz : Nat} (h0 : 0 < sz) (hm : xs.length ≤ maxLen) (hr : RepL w I xs us) (hs : ∀ x ∈ xs, x.size = sz) :
    Rel E (σ.setO (.l i) (.row e sz xs)) a (w.alloc (.cells us.toArray e (0, 0))) (upd I w.heap.size (xs.length * sz)) { β with row := upd β.row (.l i) (hist xs.length (.slice (some ⟨w.heap.size, 0, none⟩) xs.length xs.length)) } := by
  have hn := R.ob.new
  have hβ := Be.row_upd β (.l i) (hist xs.length (.slice (some ⟨w.heap.size, 0, none⟩) xs.length xs.length))
  have hl : us.length = xs.length * sz := by rw [hr.len, sizes_const hs]
  refine R.step (Ext.alloc hn _ _) (Fr.alloc w I _ _ _) hβ (.inl ⟨hc, fun h => h⟩) ⟨h0, _, us, ?_, ⟨hl, .inr ⟨w.heap.size, xs.length, us.toArray, rfl, Nat.zero_le _, alloc_heap w _, Nat.le_refl _, hm, by simpa using hl, ?_⟩⟩, RepL.ext (Ext.alloc hn _ _) hr, hs, ?_, ?_⟩ ?_ (fun h => h.elim) (new_alloc hn _ _)
  · simp only [upd_eq]; simp [hist]
  · rw [← hl]; simp
  · intro b hb
    simp only [Value.ownBlock, Option.some.injEq] at hb
    subst hb
    rw [upd_eq]
  · intro j hj
    simp only [upd_eq, hist]
    rw [if_neg (by omega)]
  · intro b hb
    simp only [own, upd_eq, hist, if_true, Option.bind_some, Value.ownBlock, Option.some.injEq] at hb
    exact .inr (by omega)

/-- A row that is nil yet. -/
theorem Rel.ghost (R : Rel E σ a w I β) {i : Nat} (hc : σ.Clean (.l i)) (e : TypeId) {sz : Nat} (h0 : 0 < sz) :
    Rel E (σ.setO (.l i) (.row e sz [])) a w I { β with row := upd β.row (.l i) (hist 0 (.slice none 0 0)) } := by
  have hβ := Be.row_upd β (.l i) (hist 0 (.slice none 0 0))
  refine R.step (Ext.refl w I) (Fr.refl w I _) hβ (.inl ⟨hc, fun h => h⟩) ⟨h0, .slice none 0 0, [], ?_, World.ownsRow_nil w 0 e sz, by simp only [RepL], by simp, ?_, ?_⟩ ?_ (fun h => h.elim) R.ob.new
  · simp only [upd_eq]; rfl
  · intro b hb; simp [Value.ownBlock] at hb
  · intro j hj
    simp only [upd_eq, hist]
    rw [if_neg (by simp at hj; omega)]
  · intro b hb
    simp [own, upd_eq, hist, Value.ownBlock] at hb

/-! ### Stores -/
theorem frozen_of {b : Nat} {c : Array Value} {ty : TypeId} (h : w.heap[b]? = some (.cells c ty (0, 0))) (o : Nat) : w.frozen? ⟨b, o, none⟩ = false := by
  simp [World.frozen?, h]

theorem put_heap {b off : Nat} {us : List Value} {ty : TypeId} (h : w.heap[b]? = some (.cells us.toArray ty (0, 0))) (v : Value) : (w.setCell ⟨b, off, none⟩ v).heap[b]? = some (.cells (us.set off v).toArray ty (0, 0)) := by
  simp [World.setCell, Array.getElem?_modify, h]
theorem put_other {b off k : Nat} (v : Value) (h : k ≠ b) : (w.setCell ⟨b, off, none⟩ v).heap[k]? = w.heap[k]? := by
  simp only [World.setCell, Array.getElem?_modify]
  rw [if_neg (fun e => h e.symm)]

/-- vs is stored at off of a block that holds us. -/
theorem run_store_cells {b : Nat} {ty : TypeId} : ∀ (vs : List Value) (off i : Nat) (us : List Value) (w : World), w.heap[b]? = some (.cells us.toArray ty (0, 0)) → off + i + vs.length ≤ us.length → (∀ u ∈ vs, u.oneCell' = true) →
    ∃ w', (storeCells ⟨b, off, none⟩ vs i).run P w = .ok () w' ∧ w'.heap[b]? = some (.cells (us.take (off + i) ++ vs ++ us.drop (off + i + vs.length)).toArray ty (0, 0)) ∧ (∀ k, k ≠ b → w'.heap[k]? = w.heap[k]?) ∧ w'.heap.size = w.heap.size ∧ w'.os = w.os ∧ w'.tape = w.tape ∧ w'.output = w.output
  | [], off, i, us, w, h, _, _ => ⟨w, rfl, by simpa using h, fun _ _ => rfl, rfl, rfl, rfl, rfl⟩
  | v :: r, off, i, us, w, h, hl, h1 => by
    simp only [List.length_cons] at hl
    have hc : w.cell? ⟨b, off + i, none⟩ = some (us[off + i]'(by omega)) := by rw [cells_of h, List.getElem?_eq_getElem (by omega)]
    have hst : (store ((⟨b, off, none⟩ : Addr).add i) v).run P w = .ok () (w.setCell ⟨b, off + i, none⟩ v) := by
      have had : (⟨b, off, none⟩ : Addr).add i = ⟨b, off + i, none⟩ := by unfold Addr.add; split <;> simp_all
      rw [had, run_store P w _ v _ (h1 v (by simp)), hc]
      simp [frozen_of h]
    obtain ⟨w', g1, g2, g3, g4, g5, g6, g7⟩ := run_store_cells r off (i + 1) (us.set (off + i) v) (w.setCell ⟨b, off + i, none⟩ v) (put_heap h v) (by simp; omega) (fun u hu => h1 u (by simp [hu]))
    refine ⟨w', by simp only [storeCells, Sem.run_bind, hst, Result.andThen_ok, g1], ?_, fun k hk => (g3 k hk).trans (put_other v hk), by simpa [World.setCell] using g4, g5, g6, g7⟩
    rw [g2]
    congr 3
    apply List.ext_getElem?
    intro k
    simp only [List.getElem?_append, List.length_append, List.length_take, List.length_set, List.getElem?_take, List.getElem?_drop, List.getElem?_set, List.length_cons]
    have m1 : min (off + (i + 1)) us.length = off + i + 1 := by omega
    have m2 : min (off + i) us.length = off + i := by omega
    rw [m1, m2]
    by_cases k1 : k < off + i
    · simp [show k < off + i + 1 by omega, show off + i ≠ k by omega, k1, show k < off + i + 1 + r.length by omega, show k < off + i + (r.length + 1) by omega, show k < off + (i + 1) by omega]
    · by_cases k2 : k = off + i
      · subst k2
        simp [show off + i < us.length by omega, show off + i < off + (i + 1) by omega, show off + i < off + i + 1 + r.length by omega]
      · by_cases k3 : k < off + i + 1 + r.length
        · rw [if_pos k3, if_neg (by omega), if_pos (by omega), if_neg k1, show k - (off + i) = (k - (off + i + 1)) + 1 by omega, List.getElem?_cons_succ]
        · rw [if_neg k3, if_neg (by omega), if_neg (by omega)]
          congr 1
          omega

theorem run_storeVar_of (hY : TyOk P y) {t : TypeId} {r : Yr} (hr : y.Y t = some r) {b off : Nat} {us : List Value} {tb : TypeId} (h : w.heap[b]? = some (.cells us.toArray tb (0, 0))) {v : Value} (hv : v.cells.size = r.sz) (hl : off + v.cells.size ≤ us.length) (h1 : ∀ u ∈ v.cells.toList, u.oneCell' = true) :
    ∃ w', (storeVar t ⟨b, off, none⟩ v).run P w = .ok () w' ∧ w'.heap[b]? = some (.cells (us.take off ++ v.cells.toList ++ us.drop (off + v.cells.toList.length)).toArray tb (0, 0)) ∧ (∀ k, k ≠ b → w'.heap[k]? = w.heap[k]?) ∧ w'.heap.size = w.heap.size ∧ w'.os = w.os ∧ w'.tape = w.tape ∧ w'.output = w.output := by
  obtain ⟨i, hi, hi2, _⟩ := hY.info t r hr
  obtain ⟨w', g1, g2⟩ := run_store_cells (P := P) v.cells.toList off 0 us w h (by simpa using hl) h1
  refine ⟨w', ?_, g2⟩
  unfold storeVar
  simp only [Sem.run_bind, sizeOf, run_typeInfo w hi, Result.andThen_ok, Sem.run_pure, hi2, hv, ne_eq, not_true_eq_false, if_false, g1]

theorem Rel.ext_stored (R : Rel E σ a w I β) {k : Key} {o : Ob} (hk : σ.obj k = some o) {b : Nat} (hb : own β k o = some b) (h0 : I b = 0) {w' : World} (h3 : ∀ k, k ≠ b → w'.heap[k]? = w.heap[k]?) (h4 : w'.heap.size = w.heap.size)
    (h5 : w'.os = w.os) (h6 : w'.tape = w.tape) (h7 : w'.output = w.output) : Ext w I w' I := by
  have fr : Fr w I (fun b' => b' = b) w' I := ⟨h5, h6, h7, by omega, fun b' hb2 hx => ⟨h3 b' hx, rfl⟩⟩
  exact Ext.of_fr R.ob.new fr (fun b' hq => by subst hq; exact ⟨Nat.le_refl _, fun o ho => by omega⟩)

theorem Rel.stored (R : Rel E σ a w I β) {k : Key} {o o' : Ob} (hk : σ.obj k = some o) {b : Nat} (hb : own β k o = some b) (hb' : own β k o' = some b) (h0 : I b = 0) {w' : World} (h3 : ∀ k, k ≠ b → w'.heap[k]? = w.heap[k]?) (h4 : w'.heap.size = w.heap.size)
    (h5 : w'.os = w.os) (h6 : w'.tape = w.tape) (h7 : w'.output = w.output) (ho : Ext w I w' I → RelO w' I β k o') (hnf : fKey k → ∀ k' ∈ o'.keys, fKey k') : Rel E (σ.setO k o') a w' I β := by
  have fr : Fr w I (fun b => ∃ o, σ.obj k = some o ∧ own β k o = some b) w' I := ⟨h5, h6, h7, by omega, fun b' hb2 hx => ⟨h3 b' (fun e => hx ⟨o, hk, by rw [e]; exact hb⟩), rfl⟩⟩
  have e : Ext w I w' I := Ext.of_fr R.ob.new fr (fun b' ⟨o2, h1, h2⟩ => by
    rw [hk] at h1
    cases h1
    rw [hb] at h2
    cases h2
    exact ⟨Nat.le_refl _, fun o ho => by omega⟩)
  refine R.step e fr (fun _ _ => ⟨rfl, rfl⟩) (.inr ⟨Keep.refl _ β, o, hk⟩) (ho e) (fun b2 h2 => ?_) hnf (fun b2 h2 => R.ob.new b2 (by omega))
  rw [hb'] at h2
  cases h2
  exact .inl ⟨o, hk, hb⟩
end Go.Proofs.Ytmclamindmnigaa.Ax

namespace Go.Proofs.Ytmclamindmnigaa.Ax
open Go.RowKit
variable {P : Program} {y : Ty} {E : En} {σ : St} {a : Act} {w : World} {I : Im} {β : Be}

def Key.isL : Key → Nat → Bool
  | .l j, i => j == i
  | .f _, _ => false
def T.hasL : T → Nat → Bool
  | .pt k _, i => k.isL i
  | .rw k _, i => k.isL i
  | .rf k _, i => k.isL i
  | .pm k _ _, i => k.isL i
  | .fn _ ks, i => ks.any (·.isL i)
  | .dt _ k _ _, i => k.isL i
  | _, _ => false
def Ob.hasL : Ob → Nat → Bool
  | .var x, i => x.hasL i
  | .bld _ kr _, i => kr.isL i
  | _, _ => false
def cleanT (i : Nat) : List (Nat × T) → Bool
  | [] => true
  | (_, x) :: r => !(x.hasL i) && cleanT i r
def cleanL (i : Nat) : List (Nat × Ob) → Bool
  | [] => true
  | (j, o) :: r => !(j == i) && !(o.hasL i) && cleanL i r
def St.cleanB (σ : St) (i : Nat) : Bool := cleanT i σ.t && cleanL i σ.L

theorem Key.isL_iff (k : Key) (i : Nat) : k.isL i = true ↔ k = .l i := by cases k <;> simp [Key.isL]
theorem T.hasL_iff (x : T) (i : Nat) : x.hasL i = true ↔ Key.l i ∈ x.keys := by
  cases x <;> simp [T.hasL, T.keys, Key.isL_iff] <;> exact eq_comm
theorem Ob.hasL_iff (o : Ob) (i : Nat) : o.hasL i = true ↔ Key.l i ∈ o.keys := by
  cases o <;> simp [Ob.hasL, Ob.keys, T.hasL_iff, Key.isL_iff]
  exact eq_comm
theorem cleanT_ok {i : Nat} : ∀ {l : List (Nat × T)}, cleanT i l = true → ∀ j x, look l j = some x → Key.l i ∉ x.keys
  | [], _, j, x, h => by simp [look] at h
  | (k, z) :: r, hc, j, x, h => by
    simp only [cleanT, Bool.and_eq_true, Bool.not_eq_true'] at hc
    simp only [look] at h
    split at h
    · cases h
      intro hm
      rw [(T.hasL_iff _ _).2 hm] at hc
      cases hc.1
    · exact cleanT_ok hc.2 j x h
theorem cleanL_ok {i : Nat} : ∀ {l : List (Nat × Ob)}, cleanL i l = true → ∀ j o, look l j = some o → Key.l i ∉ o.keys ∧ j ≠ i
  | [], _, j, x, h => by simp [look] at h
  | (k, z) :: r, hc, j, x, h => by
    simp only [cleanL, Bool.and_eq_true, Bool.not_eq_true'] at hc
    simp only [look] at h
    split at h
    · rename_i hj
      cases h
      refine ⟨fun hm => ?_, fun e => ?_⟩
      · rw [(Ob.hasL_iff _ _).2 hm] at hc
        cases hc.1.2
      · subst hj; subst e; simp at hc
    · exact cleanL_ok hc.2 j x h
theorem Rel.clean (R : Rel E σ a w I β) {i : Nat} (h : σ.cleanB i = true) : σ.Clean (.l i) := by
  simp only [St.cleanB, Bool.and_eq_true] at h
  refine ⟨fun j x hx => cleanT_ok h.1 j x hx, fun k o hk => ?_⟩
  cases k with
  | l n =>
    obtain ⟨h1, h2⟩ := cleanL_ok h.2 n o hk
    exact ⟨h1, fun e => by cases e; exact h2 rfl⟩
  | f n => exact ⟨fun hm => R.nf n o hk _ hm, fun e => by cases e⟩

/-- What a variable holds behind a store of t. -/
def St.cont (σ : St) : T → Option T
  | .d x => some (.d x)
  | .nl => some .nl
  | .pt k off => some (.pt k off)
  | .fn f ks => some (.fn f ks)
  | .rw k n => match σ.obj k with
    | some (.row _ _ xs) => if n = xs.length then some (.rw k n) else none
    | _ => none
  | _ => none

theorem cells_one {v : Value} (h : v.oneCell' = true) : v.cells.toList = [v] := by cases v <;> simp_all [Value.cells, Value.oneCell']

theorem Rel.cont (R : Rel E σ a w I β) {c c' : T} {v : Value} (h : σ.cont c = some c') (hr : RelT w I β c v) : c' = c ∧ RelC w I β c v.cells.toList ∧ (∀ u ∈ v.cells.toList, u.oneCell' = true) := by
  have one : ∀ {t : T}, RelT w I β t v → (∀ x, t ≠ .d x ∧ ∀ k n o, t ≠ .dt x k n o) → v.oneCell' = true → RelC w I β t v.cells.toList ∧ (∀ u ∈ v.cells.toList, u.oneCell' = true) := fun {t} ht hn h1 => by
    rw [cells_one h1]
    refine ⟨?_, by simpa using h1⟩
    cases t <;> first | exact absurd rfl (hn _).1 | exact absurd rfl ((hn _).2 _ _ _) | exact ⟨v, rfl, ht, h1⟩
  unfold St.cont at h
  split at h
  · cases h; exact ⟨rfl, hr.1, hr.1.one⟩
  · cases h
    have hr' := hr
    simp only [RelT] at hr'
    exact ⟨rfl, one hr (by simp) (by rw [hr']; rfl)⟩
  · cases h
    have hr' := hr
    simp only [RelT] at hr'
    exact ⟨rfl, one hr (by simp) (by rw [hr']; rfl)⟩
  · cases h
    have hr' := hr
    simp only [RelT] at hr'
    exact ⟨rfl, one hr (by simp) (by rw [hr']; rfl)⟩
  · rename_i k n
    split at h
    · rename_i e sz xs hk
      obtain ⟨hn, rfl⟩ := ite_some h
      subst hn
      refine ⟨rfl, one hr (by simp) ?_⟩
      obtain ⟨_, v', us, h1, h2, _⟩ := R.ob.rel k _ hk
      simp only [RelT] at hr
      rw [hr] at h1
      cases h1
      rcases h2.2 with ⟨rfl, _⟩ | ⟨g, cap, cur, rfl, _⟩ <;> rfl
    · cases h
  · cases h

def opBox (σ : St) (dst : Option Tmp) (c : T) (K : St → Prop) : Prop :=
  match dst with
  | some i => σ.cleanB i = true ∧ c.hasL i = false ∧ ∃ c', σ.cont c = some c' ∧ K ((σ.setO (.l i) (.var c')).put (some i) (.pt (.l i) 0))
  | none => False

/-- The abstract world's continuation. -/
def Kt (E : En) (K : St → Prop) : Act → World → Prop := fun a w => ∃ σ I β, Rel E σ a w I β ∧ K σ
/-- The same, and what was there stays: data, and (st = false) the variables of the call's own. -/
def Kz (E : En) (w : World) (I : Im) (σ : St) (β : Be) (st : Bool) (K : St → Prop) : Act → World → Prop := fun a' w' => ∃ σ' I' β', Rel E σ' a' w' I' β' ∧ K σ' ∧ Ext w I w' I' ∧ (∀ i c, look σ.L i = some (.var c) → (st = false → w'.heap[β.blk (.l i)]? = w.heap[β.blk (.l i)]?) ∧ ∃ c', look σ'.L i = some (.var c') ∧ β'.blk (.l i) = β.blk (.l i))
theorem Kz.kt {E : En} {w : World} {I : Im} {σ : St} {β : Be} {st : Bool} {K : St → Prop} {a' : Act} {w' : World} (h : Kz E w I σ β st K a' w') : Kt E K a' w' := have ⟨σ', I', β', h1, h2, _⟩ := h; ⟨σ', I', β', h1, h2⟩
theorem Rel.var_new {σ : St} {β : Be} {w : World} {i : Nat} {o : Ob} (hc : σ.Clean (.l i)) {j : Nat} {c : T} (hj : look σ.L j = some (.var c)) : look (σ.setO (.l i) o).L j = some (.var c) ∧ upd β.blk (.l i) w.heap.size (.l j) = β.blk (.l j) := by
  have hne : j ≠ i := fun e => (hc.2 (.l j) _ hj).2 (by rw [e])
  refine ⟨?_, upd_ne _ _ (fun e => hne (by cases e; rfl))⟩
  simp only [St.setO, look_cons]
  rw [if_neg hne]
  exact hj
theorem Rel.var_lt {E : En} {σ : St} {a : Act} {w : World} {I : Im} {β : Be} (R : Rel E σ a w I β) {i : Nat} {c : T} (h : look σ.L i = some (.var c)) : β.blk (.l i) < w.heap.size := own_lt (R.ob.rel (.l i) _ h) rfl

theorem box_ok {o : Oper} {c : T} {v : Value} {ty : TypeId} {K : St → Prop} {Q : Exit → Act → World → Prop} (R : Rel E σ a w I β) (hd : ∀ i, o.dst = some i → i < E.n) (hc : RelT w I β c v) (hrun : (execOp a.eval o).run P w = .ok (.value (.pointer (some ⟨w.heap.size, 0, none⟩))) (w.alloc (.cells v.cells ty (0, 0))))
    (h : opBox σ o.dst c K) : o.wp P a w (Kz E w I σ β false K) Q := by
  unfold opBox at h
  split at h
  · rename_i i hi
    obtain ⟨h1, h2, c', h3, h4⟩ := h
    obtain ⟨rfl, h5, h6⟩ := R.cont h3 hc
    have R2 := R.newvar (R.clean h1) (c := c') (us := v.cells.toList) ty h5 (fun hm => by rw [(T.hasL_iff _ _).2 hm] at h2; cases h2)
    unfold Oper.wp
    rw [hrun]
    simp only [Oper.upon, hi]
    have e : (v.cells.toList.toArray) = v.cells := by simp
    rw [e] at R2
    refine ⟨_, _, _, R2.put (dst := some i) (fun j hj => hd j (by rw [hi]; exact hj)) (x := .pt (.l i) 0) ?_, h4, Ext.alloc R.ob.new _ _, fun j c hj => ⟨fun _ => alloc_old w _ (R.var_lt hj), c, Rel.var_new (R.clean h1) hj⟩⟩
    simp only [RelT, upd_eq]
  · exact h.elim

theorem run_box {o : Oper} {ty : TypeId} {x : Operand} (ho : o.op = .box ty x) : (execOp a.eval o).run P w = .ok (.value (.pointer (some ⟨w.heap.size, 0, none⟩))) (w.alloc (.cells (a.eval x).cells ty (0, 0))) := by
  unfold execOp
  simp only [ho, Instr.box, newVar, newRow, Sem.run_bind, Sem.run_pure]
  rfl

theorem run_alloc {o : Oper} {ty : TypeId} (ho : o.op = .alloc ty) {i : TypeInfo} {z : Value} (hi : P.info? ty = some i) (hz : i.zero = some z) : (execOp a.eval o).run P w = .ok (.value (.pointer (some ⟨w.heap.size, 0, none⟩))) (w.alloc (.cells z.cells ty (0, 0))) := by
  unfold execOp
  simp only [ho, Instr.alloc, zeroValue, newVar, newRow, Sem.run_bind, run_typeInfo w hi, Sem.run_pure, Result.andThen_ok, hz]
  rfl
end Go.Proofs.Ytmclamindmnigaa.Ax

namespace Go.Proofs.Ytmclamindmnigaa.Ax
open Go.RowKit
variable {P : Program} {y : Ty} {E : En} {σ : St} {a : Act} {w : World} {I : Im} {β : Be}

def asD : T → Option D
  | .d x => some x
  | _ => none
def asDs : List T → Option (List D)
  | [] => some []
  | .d x :: r => (asDs r).map (x :: ·)
  | _ => none

theorem asDs_ok {n : Nat} : ∀ {ts : List T} {xs : List D} {vs : List Value}, asDs ts = some xs → All2 (RelT w I β) ts vs → All2 (RepD w I) xs vs
  | [], xs, [], h, _ => by simp [asDs] at h; subst h; trivial
  | [], _, _ :: _, _, h => h.elim
  | .d x :: r, xs, v :: vs, h, hr => by
    simp only [asDs] at h
    cases hq : asDs r with
    | none => rw [hq] at h; cases h
    | some zs => rw [hq] at h; cases h; exact ⟨hr.1, asDs_ok (n := n) hq hr.2⟩
  | .d _ :: _, _, [], _, hr => hr.elim
  | .any :: _, _, _, h, _ => by simp [asDs] at h
  | .un :: _, _, _, h, _ => by simp [asDs] at h
  | .nl :: _, _, _, h, _ => by simp [asDs] at h
  | .tu _ :: _, _, _, h, _ => by simp [asDs] at h
  | .pt _ _ :: _, _, _, h, _ => by simp [asDs] at h
  | .pd _ _ :: _, _, _, h, _ => by simp [asDs] at h
  | .rw _ _ :: _, _, _, h, _ => by simp [asDs] at h
  | .rf _ _ :: _, _, _, h, _ => by simp [asDs] at h
  | .pm _ _ _ :: _, _, _, h, _ => by simp [asDs] at h
  | .fn _ _ :: _, _, _, h, _ => by simp [asDs] at h
  | .dt _ _ _ _ :: _, _, _, h, _ => by simp [asDs] at h

theorem RepL.of_all {xs : List D} {vs : List Value} (h : All2 (RepD w I) xs vs) : RepL w I xs (vs.flatMap fun v => v.cells.toList) := by
  induction xs generalizing vs with
  | nil => cases vs with
    | nil => simp only [RepL]; rfl
    | cons => exact h.elim
  | cons x r ih => cases vs with
    | nil => exact h.elim
    | cons v vs =>
      simp only [RepL, List.flatMap_cons]
      exact ⟨_, _, rfl, h.1.1, ih h.2⟩

theorem Rel.var_set {σ : St} {k : Key} {o : Ob} (hk : σ.obj k = some o) {z : T} {j : Nat} {c : T} (hj : look σ.L j = some (.var c)) : ∃ c', look (σ.setO k (.var z)).L j = some (.var c') := by
  cases k with
  | f i => exact ⟨c, hj⟩
  | l i =>
    simp only [St.setO, look_cons]
    by_cases e : j = i
    · rw [if_pos e]; exact ⟨z, rfl⟩
    · rw [if_neg e]; exact ⟨c, hj⟩
theorem Rel.var_set' {σ : St} {k : Key} {o o' : Ob} (hk : σ.obj k = some o) (hn : ∀ c, o ≠ .var c) {j : Nat} {c : T} (hj : look σ.L j = some (.var c)) : look (σ.setO k o').L j = some (.var c) := by
  cases k with
  | f i => exact hj
  | l i =>
    simp only [St.setO, look_cons]
    by_cases e : j = i
    · subst e
      have : look σ.L j = some o := hk
      rw [hj] at this
      cases this
      exact absurd rfl (hn c)
    · rw [if_neg e]; exact hj

/-! ### Stores -/
def T.one : T → Prop
  | .d z => z.size = 1
  | .dt _ _ _ _ => False
  | _ => True
def opStore (y : Ty) (σ : St) (ty : TypeId) (p c : T) (K : St → Prop) : Prop :=
  match y.Y ty with
  | none => False
  | some r => match p with
    | .pt k off => match σ.obj k with
      | some (.var (.d z)) => match σ.frz c with
        | .d z' => z'.size = r.sz ∧ ∃ z2, z.set off z' = some z2 ∧ K (σ.setO k (.var (.d z2)))
        | _ => False
      | some (.var (.dt _ _ _ _)) => False
      | some (.var _) => off = 0 ∧ r.sz = 1 ∧ ∃ c', σ.cont c = some c' ∧ c'.one ∧ (fKey k → ∀ k' ∈ c'.keys, fKey k') ∧ K (σ.setO k (.var c'))
      | _ => False
    | .pm k i sz => match σ.obj k with
      | some (.mr e sz' xs) => match σ.frz c with
        | .d z' => sz' = sz ∧ r.sz = sz ∧ z'.size = sz ∧ i < xs.length ∧ K (σ.setO k (.mr e sz (xs.set i z')))
        | _ => False
      | _ => False
    | _ => False

theorem wp_store {o : Oper} {ty : TypeId} {p x : Operand} (ho : o.op = .store ty p x) {b off : Nat} (hp : a.eval p = .pointer (some ⟨b, off, none⟩)) {w' : World} (hr : (storeVar ty ⟨b, off, none⟩ (a.eval x)).run P w = .ok () w') {K : Act → World → Prop} {Q : Exit → Act → World → Prop} (h : K (a.put o.dst undef) w') : o.wp P a w K Q := by
  unfold Oper.wp execOp
  simp only [ho, hp, Instr.storeAt, Instr.sureAddr, Sem.run_bind, Sem.run_pure, Result.andThen_ok, hr]
  exact h

theorem cont_size {c : T} {us : List Value} (h : RelC w I β c us) (hc : c.one) : us.length = 1 := by
  cases c with
  | d z => exact (RepC.len h).trans hc
  | dt z k m o => exact hc.elim
  | _ => obtain ⟨v, rfl, _⟩ := h; rfl

theorem store_ok (hY : TyOk P y) (R : Rel E σ a w I β) {o : Oper} {ty : TypeId} {p x : Operand} (ho : o.op = .store ty p x) (hd : o.dst = none) {K : St → Prop} {Q : Exit → Act → World → Prop} (h : opStore y σ ty (σ.ev p) (σ.ev x) K) : o.wp P a w (Kz E w I σ β true K) Q := by
  have hp := R.ev p
  have hx := R.ev x
  generalize σ.ev p = pp at h hp
  generalize σ.ev x = c at h hx
  unfold opStore at h
  split at h
  · exact h.elim
  rename_i r hr
  split at h
  · rename_i k off
    simp only [RelT] at hp
    split at h
    · rename_i z hk
      have hf := R.frz hx
      split at h
      · rename_i z' hq
        rw [hq] at hf
        obtain ⟨h1, z2, h2, h3⟩ := h
        obtain ⟨tb, us, g1, g2, g3⟩ := R.ob.rel k _ hk
        simp only [RelC] at g2
        have hv := hf.1
        obtain ⟨s1, s2, s3, s4⟩ := D.set_ok h2 g2 hv
        have hvl := hv.len
        obtain ⟨w', r1, r2, r3, r4, r5, r6, r7⟩ := run_storeVar_of (P := P) hY hr g1 (v := a.eval x) (off := off) (by simp at hvl; omega) (by simp at s1; omega) hv.one
        refine wp_store ho hp r1 ⟨_, I, β, ?_, h3, R.ext_stored hk (b := β.blk k) rfl g3 r3 r4 r5 r6 r7, fun j c hj => ⟨fun h => (by cases h), (Rel.var_set hk hj).imp fun _ h => ⟨h, rfl⟩⟩⟩
        rw [hd]
        exact R.stored hk (b := β.blk k) rfl rfl g3 r3 r4 r5 r6 r7 (fun e => ⟨tb, _, r2, RelC.mono e (Keep.refl _ β) (t := .d z2) s4, g3⟩) (fun _ k' hk' => by simp [Ob.keys, T.keys] at hk')
      · exact h.elim
    · exact h.elim
    · rename_i z hne hne2 hk
      obtain ⟨h1, h2, c', h3, h4, h5, h6⟩ := h
      subst h1
      obtain ⟨rfl, q1, q2⟩ := R.cont h3 hx
      obtain ⟨tb, us, g1, g2, g3⟩ := R.ob.rel k _ hk
      have hus : us.length = 1 := cont_size g2 (by cases z <;> first | exact absurd rfl (hne _) | exact absurd rfl (hne2 _ _ _ _) | trivial)
      have hvs := cont_size q1 h4
      obtain ⟨w', r1, r2, r3, r4, r5, r6, r7⟩ := run_storeVar_of (P := P) hY hr g1 (v := a.eval x) (off := 0) (by simp at hvs; omega) (by simp at hvs; omega) q2
      refine wp_store ho hp r1 ⟨_, I, β, ?_, h6, R.ext_stored hk (b := β.blk k) rfl g3 r3 r4 r5 r6 r7, fun j c hj => ⟨fun h => (by cases h), (Rel.var_set hk hj).imp fun _ h => ⟨h, rfl⟩⟩⟩
      rw [hd]
      refine R.stored hk (b := β.blk k) rfl rfl g3 r3 r4 r5 r6 r7 (fun e => ⟨tb, _, r2, ?_, g3⟩) h5
      rw [List.drop_eq_nil_of_le (by omega)]
      simpa using RelC.mono e (Keep.refl _ β) q1
    · exact h.elim
  · rename_i k i sz
    simp only [RelT] at hp
    split at h
    · rename_i e sz' xs hk
      have hf := R.frz hx
      split at h
      · rename_i z' hq
        rw [hq] at hf
        obtain ⟨rfl, h2, h3, h4, h5⟩ := h
        obtain ⟨h0, us, g1, g2, g3, g4⟩ := R.ob.rel k _ hk
        have hv := hf.1
        have hvl := hv.len
        have hul := g2.len
        rw [sizes_const g3] at hul
        have hb : i * sz' + sz' ≤ xs.length * sz' := by rw [← Nat.succ_mul]; exact Nat.mul_le_mul_right _ h4
        obtain ⟨w', r1, r2, r3, r4, r5, r6, r7⟩ := run_storeVar_of (P := P) hY hr g1 (v := a.eval x) (off := i * sz') (by simp at hvl; omega) (by simp at hvl; omega) hv.one
        refine wp_store ho hp r1 ⟨_, I, β, ?_, h5, R.ext_stored hk (b := β.blk k) rfl g4 r3 r4 r5 r6 r7, fun j c hj => ⟨fun h => (by cases h), c, Rel.var_set' hk (by simp) hj, rfl⟩⟩
        rw [hd]
        refine R.stored hk (b := β.blk k) rfl rfl g4 r3 r4 r5 r6 r7 (fun e => ⟨h0, _, r2, RepL.ext e (RepL.set g2 g3 h4 hv h3), fun z hz => ?_, g4⟩) (fun _ k' hk' => by simp [Ob.keys] at hk')
        rcases List.mem_or_eq_of_mem_set hz with hz | rfl
        · exact g3 z hz
        · exact h3
      · exact h.elim
    · exact h.elim
  · exact h.elim

/-! ### Stores that keep, or make, a link to a row -/
def datV : T → Option D
  | .d x => some x
  | .dt x _ _ _ => some x
  | _ => none
/-- What a variable that held cv holds behind a store of c at off (z2: its data then). -/
def inhT (cv c : T) (off sz : Nat) (z2 : D) : T → Prop
  | .d x => x = z2
  | .dt x k1 n1 o1 => x = z2 ∧ z2.isAg = true ∧ ((∃ z, cv = .dt z k1 n1 o1 ∧ (o1 < off ∨ off + sz ≤ o1)) ∨ (∃ z' o, c = .dt z' k1 n1 o ∧ o1 = off + o) ∨ (c = .rw k1 n1 ∧ o1 = off))
  | _ => False
def opStoreT (y : Ty) (σ : St) (ty : TypeId) (p c : T) (K : St → Prop) : Prop :=
  ∃ r k off cv z z' z2 c2, y.Y ty = some r ∧ p = .pt k off ∧ σ.obj k = some (.var cv) ∧ datV cv = some z ∧ σ.frz c = .d z' ∧ z'.size = r.sz ∧ z.set off z' = some z2 ∧ inhT cv c off z'.size z2 c2 ∧ (fKey k → ∀ k' ∈ c2.keys, fKey k') ∧ K (σ.setO k (.var c2))

theorem storeT_ok (hY : TyOk P y) (R : Rel E σ a w I β) {o : Oper} {ty : TypeId} {p x : Operand} (ho : o.op = .store ty p x) (hd : o.dst = none) {K : St → Prop} {Q : Exit → Act → World → Prop} (h : opStoreT y σ ty (σ.ev p) (σ.ev x) K) : o.wp P a w (Kz E w I σ β true K) Q := by
  have hp := R.ev p
  have hx := R.ev x
  obtain ⟨r, k, off, cv, z, z', z2, c2, hr, ep, hk, hcv, hfz, h1, h2, hin, hnf, hK⟩ := h
  rw [ep] at hp
  simp only [RelT] at hp
  have hf := R.frz hx
  rw [hfz] at hf
  obtain ⟨tb, us, g1, g2, g3⟩ := R.ob.rel k _ hk
  have g2' : RepC w I z us := by
    cases cv <;> simp only [datV, Option.some.injEq, reduceCtorEq] at hcv
    · subst hcv; exact g2
    · subst hcv; exact g2.1
  have hv := hf.1
  obtain ⟨s1, s2, s3, s4⟩ := D.set_ok h2 g2' hv
  have hvl := hv.len
  obtain ⟨w', r1, r2, r3, r4, r5, r6, r7⟩ := run_storeVar_of (P := P) hY hr g1 (v := a.eval x) (off := off) (by simp at hvl; omega) (by simp at s1; omega) hv.one
  refine wp_store ho hp r1 ⟨_, I, β, ?_, hK, R.ext_stored hk (b := β.blk k) rfl g3 r3 r4 r5 r6 r7, fun j c hj => ⟨fun h => (by cases h), (Rel.var_set hk hj).imp fun _ h => ⟨h, rfl⟩⟩⟩
  rw [hd]
  refine R.stored hk (b := β.blk k) rfl rfl g3 r3 r4 r5 r6 r7 (fun e => ⟨tb, _, r2, ?_, g3⟩) hnf
  have s4' := RepC.ext e s4
  cases c2 <;> simp only [inhT] at hin
  · subst hin; exact s4'
  · rename_i x2 k1 n1 o1
    obtain ⟨rfl, hag, hin⟩ := hin
    refine ⟨s4', hag, ?_⟩
    rcases hin with ⟨z0, rfl, hor⟩ | ⟨z0, m, hc, rfl⟩ | ⟨hc, rfl⟩
    · obtain ⟨_, _, u, hu, hub⟩ := g2
      refine ⟨u, ?_, hub⟩
      have hul := (List.getElem?_eq_some_iff.1 hu).1
      rcases hor with hor | hor
      · rw [List.append_assoc, List.getElem?_append_left (by simp only [List.length_take]; omega), List.getElem?_take_of_lt hor]
        exact hu
      · rw [List.getElem?_append_right (by simp only [List.length_append, List.length_take]; omega), List.getElem?_drop]
        simp only [List.length_append, List.length_take]
        rw [show off + (a.eval x).cells.toList.length + (o1 - (min off us.length + (a.eval x).cells.toList.length)) = o1 by omega]
        exact hu
    · rw [hc] at hx
      obtain ⟨_, _, u, hu, hub⟩ := hx
      refine ⟨u, ?_, hub⟩
      have hul := (List.getElem?_eq_some_iff.1 hu).1
      rw [List.append_assoc, List.getElem?_append_right (by simp only [List.length_take]; omega), List.getElem?_append_left (by simp only [List.length_take]; omega)]
      simp only [List.length_take]
      rw [show off + m - min off us.length = m by omega]
      exact hu
    · rw [hc] at hx hfz
      simp only [RelT] at hx
      refine ⟨a.eval x, ?_, hx⟩
      have hz : z'.isAg = false := by
        simp only [St.frz] at hfz
        split at hfz
        · split at hfz <;> cases hfz
          rfl
        · cases hfz
      have h11 : (a.eval x).oneCell' = true := by
        rcases hf.2 with hq | hq
        · rw [hz] at hq; cases hq.1
        · exact hq.2
      rw [cells_one h11, List.append_assoc, List.getElem?_append_right (by simp only [List.length_take]; omega)]
      simp only [List.length_take]
      rw [cells_one h11] at s1
      simp only [List.length_singleton] at s1
      rw [show o1 - min o1 us.length = 0 by omega]
      rfl

/-! ### A slice of given parts -/
theorem fill_seq {sz : Nat} (hs : 0 < sz) : ∀ (vs : List Value) (k : Nat) (pre post : List Value), (∀ v ∈ vs, v.cells.size = sz) → pre.length = k * sz → post.length = vs.length * sz →
    Instr.fill (fun i => some (i * sz, sz)) (pre ++ post).toArray ((vs.zipIdx k).map fun p => (p.2, p.1)) = some (pre ++ vs.flatMap fun v => v.cells.toList).toArray
  | [], k, pre, post, _, _, hp => by
    have : post = [] := List.length_eq_zero_iff.1 (by simpa using hp)
    subst this
    simp [Instr.fill]
  | v :: r, k, pre, post, h1, hk, hp => by
    have hv := h1 v (by simp)
    simp only [List.length_cons, Nat.succ_mul] at hp
    simp only [List.zipIdx_cons, List.map_cons, Instr.fill]
    have hcc : ¬ (v.cells.size ≠ sz ∨ k * sz + v.cells.size > (pre ++ post).toArray.size) := by
      simp only [List.size_toArray, List.length_append, hv, hk, hp]
      omega
    rw [if_neg (by simpa only [Bool.or_eq_true, decide_eq_true_eq] using hcc)]
    have hset : (v.cells.zipIdx.foldl (fun cs (c, j) => cs.setIfInBounds (k * sz + j) c) (pre ++ post).toArray) = ((pre ++ v.cells.toList) ++ post.drop sz).toArray := by
      have := set_seq (k * sz) v.cells.toList 0 pre post (by omega) (by simp; omega)
      rw [← Array.foldl_toList, Array.toList_zipIdx, this]
      simp [hv]
    rw [hset]
    rw [fill_seq hs r (k + 1) (pre ++ v.cells.toList) (post.drop sz) (fun u hu => h1 u (by simp [hu])) (by simp [hk, hv, Nat.succ_mul]) (by simp; omega)]
    simp
end Go.Proofs.Ytmclamindmnigaa.Ax

namespace Go.Proofs.Ytmclamindmnigaa.Ax
open Go.RowKit
variable {P : Program} {y : Ty} {E : En} {σ : St} {a : Act} {w : World} {I : Im} {β : Be}

/-! ### A slice of parts -/
def seqB : Nat → List (Nat × Operand) → Bool
  | _, [] => true
  | k, (i, _) :: r => i == k && seqB (k + 1) r
theorem seqB_ok {f : Operand → Value} : ∀ {l : List (Nat × Operand)} {k : Nat}, seqB k l = true → l.map (fun p => (p.1, f p.2)) = ((l.map fun p => f p.2).zipIdx k).map fun p => (p.2, p.1)
  | [], _, _ => rfl
  | (i, x) :: r, k, h => by
    simp only [seqB, Bool.and_eq_true, beq_iff_eq] at h
    obtain ⟨rfl, h⟩ := h
    simp only [List.map_cons, List.zipIdx_cons, seqB_ok h]

def allSz (n : Nat) (xs : List D) : Prop := ∀ x ∈ xs, x.size = n
theorem allSz_nil (n : Nat) : allSz n [] = True := by simp [allSz]
theorem allSz_cons (n : Nat) (x : D) (r : List D) : allSz n (x :: r) = (x.size = n ∧ allSz n r) := by simp [allSz]

def opSlice (y : Ty) (σ : St) (dst : Option Tmp) (ty : TypeId) (len : Nat) (ps : List (Nat × Operand)) (K : St → Prop) : Prop :=
  match dst, y.ky ty with
  | some i, some (.sl e) => match y.Y e with
    | some r => match asDs (ps.map fun p => σ.frz (σ.ev p.2)) with
      | some xs => σ.cleanB i = true ∧ seqB 0 ps = true ∧ len = ps.length ∧ 0 < r.sz ∧ len * r.sz ≤ 16777216 ∧ allSz r.sz xs ∧ (y.Z e).isSome = true ∧
        K ((σ.setO (.l i) (.row e r.sz xs)).put (some i) (.rw (.l i) xs.length))
      | none => False
    | none => False
  | _, _ => False

theorem asDs_len : ∀ {ts : List T} {xs : List D}, asDs ts = some xs → ts.length = xs.length
  | [], xs, h => by simp [asDs] at h; subst h; rfl
  | t :: r, xs, h => by
    cases t <;> simp only [asDs] at h <;> try (cases h; done)
    cases hq : asDs r with
    | none => rw [hq] at h; cases h
    | some zs => rw [hq] at h; cases h; simp [asDs_len hq]

theorem mod_getD (z : Array Value) (n : Nat) : ((Array.range n).map (z[· % z.size]!)).toList.length = n := by simp

theorem slice_ok (hY : TyOk P y) (R : Rel E σ a w I β) {o : Oper} {ty : TypeId} {len : Nat} {ps : Array (Nat × Operand)} (ho : o.op = .buildSlice ty len ps) (hd : ∀ i, o.dst = some i → i < E.n) {K : St → Prop} {Q : Exit → Act → World → Prop}
    (h : opSlice y σ o.dst ty len ps.toList K) : o.wp P a w (Kz E w I σ β false K) Q := by
  unfold opSlice at h
  split at h
  · rename_i i e hi hk
    split at h
    · rename_i r hr
      split at h
      · rename_i xs hxs
        obtain ⟨h1, h2, h3, h4, h5, h6, h7, h8⟩ := h
        have hev := asDs_ok (n := 0) hxs (R.evf ps.toList)
        have hrl := RepL.of_all hev
        have hlen := asDs_len hxs
        simp only [List.length_map] at hlen
        have hvs : ∀ v ∈ (ps.toList.map fun p => a.eval p.2), v.cells.size = r.sz := by
          have : ∀ {xs : List D} {vs : List Value}, All2 (RepD w I) xs vs → allSz r.sz xs → ∀ v ∈ vs, v.cells.size = r.sz := by
            intro xs
            induction xs with
            | nil => intro vs h hz v hv; cases vs with
              | nil => simp at hv
              | cons => exact h.elim
            | cons x r' ih => intro vs h hz v hv; cases vs with
              | nil => exact h.elim
              | cons u us =>
                rcases List.mem_cons.1 hv with rfl | hv
                · have := h.1.1.len
                  rw [hz x (by simp)] at this
                  simpa using this
                · exact ih h.2 (fun z hz' => hz z (by simp [hz'])) v hv
          exact this hev h6
        obtain ⟨inf, i1, i2, _⟩ := hY.info e r hr
        obtain ⟨z, hz⟩ := Option.isSome_iff_exists.1 h7
        obtain ⟨inf', zv, j1, j2, j3, j4⟩ := hY.zero e z hz
        rw [i1] at j1
        cases j1
        have R2 := R.newrow (R.clean h1) e h4 (by rw [← hlen, ← h3]; unfold maxLen; have : len ≤ len * r.sz := Nat.le_mul_of_pos_right _ h4; omega) hrl h6
        have hfill : ∀ zs : Array Value, zs.size = len * r.sz → Instr.fill (fun i => some (i * r.sz, r.sz)) zs ((ps.map fun x => (x.fst, a.eval x.snd)).toList) = some ((ps.toList.map fun p => a.eval p.2).flatMap fun v => v.cells.toList).toArray := by
          intro zs hzs
          have := fill_seq h4 (ps.toList.map fun p => a.eval p.2) 0 [] zs.toList hvs (by simp) (by simp [hzs, h3])
          simp only [List.nil_append] at this
          rw [← this, ← seqB_ok h2]
          simp
        have hrun : (execOp a.eval o).run P w = .ok (.value (.slice (some ⟨w.heap.size, 0, none⟩) len len)) (w.alloc (.cells ((ps.toList.map fun p => a.eval p.2).flatMap fun v => v.cells.toList).toArray e (0, 0))) := by
          unfold execOp
          simp only [ho, Instr.buildSlice, Sem.run_bind, run_underlying (hY.ky hk), Result.andThen_ok, sizeOf, run_typeInfo w i1, Sem.run_pure, i2]
          rw [if_neg (by omega)]
          by_cases h0 : len * r.sz = 0
          · simp only [h0, if_true, Sem.run_bind, Sem.run_pure, Result.andThen_ok]
            rw [hfill _ (by simp [h0])]
            simp only [newRow, Sem.run_bind, Sem.run_pure]
            rfl
          · simp only [h0, if_false, zeroValue, Sem.run_bind, run_typeInfo w i1, Result.andThen_ok, j2, Sem.run_pure]
            rw [hfill _ (by simp)]
            simp only [newRow, Sem.run_bind, Sem.run_pure]
            rfl
        unfold Oper.wp
        rw [hrun]
        simp only [Oper.upon, hi]
        refine ⟨_, _, _, R2.put (dst := some i) (fun j hj => hd j (by rw [hi]; exact hj)) (x := .rw (.l i) xs.length) ?_, h8, Ext.alloc R.ob.new _ _, fun j c hj => ⟨fun _ => alloc_old w _ (R.var_lt hj), c, (Rel.var_new (β := β) (w := w) (R.clean h1) hj).1, rfl⟩⟩
        simp only [RelT, upd_eq, hist, if_true, h3, hlen]
      · exact h.elim
    · exact h.elim
  · exact h.elim

/-! ### append -/
theorem run_append_own2 (base : Nat) (t ty e : TypeId) (i : TypeInfo) (z : Value) (size bytes : Nat) (ht : P.underlying t = some (.slice e)) (hi : P.info? e = some i) (hz : i.zero = some z)
    (hsize : i.size = size) (hby : i.bytes = bytes) (hzs : z.cells.size = size) (hsz : 0 < size)
    (v : Value) (n : Nat) (xs : List Value) (hown : w.ownsRow base e size v n xs)
    (a : Addr) (m c : Nat) (news : List Value) (hl : news.length = m * size) (hnews : ∀ j u, news[j]? = some u → w.cell? (a.add j) = some u) (h1 : ∀ u ∈ news, u.oneCell' = true)
    (h63 : n + m ≤ maxLen) (hbytes : (n + m) * bytes ≤ 140737488355328) (hbase : base ≤ w.heap.size) :
    ∃ v' w', (Builtin.append_ #[t, t] ty #[v, .slice (some a) m c]).run P w = .ok v' w' ∧ w'.ownsRow base e size v' (n + m) (xs ++ news) ∧ w.grownBy w' v.ownBlock ∧ (v'.ownBlock = v.ownBlock ∨ (∀ b, v'.ownBlock = some b → w.heap.size ≤ b) ∧ ∀ k, k < w.heap.size → w'.heap[k]? = w.heap[k]?) := by
  obtain ⟨v', w', hr, h2, h3, _⟩ := run_append_own (P := P) w base t ty e i z size bytes ht hi hz hsize hby hzs hsz v n xs hown a m c news hl hnews h1 h63 hbytes hbase
  refine ⟨v', w', hr, h2, h3, ?_⟩
  rcases hown.2 with ⟨rfl, rfl⟩ | ⟨g, cap, cur, rfl, hbg, hg, hnc, hcm, hcs, htake⟩
  · have hown' : w.ownsRow w.heap.size e size (.slice none 0 0) 0 xs := ⟨hown.1, .inl ⟨rfl, rfl⟩⟩
    obtain ⟨v2, w2, hr2, h4, _⟩ := run_append_own (P := P) w w.heap.size t ty e i z size bytes ht hi hz hsize hby hzs hsz _ 0 xs hown' a m c news hl hnews h1 h63 hbytes (Nat.le_refl _)
    rw [hr] at hr2
    cases hr2
    exact .inr ⟨fun b hb => (h4.lt b hb).1, fun k hk => h3.block k hk (by simp [Value.ownBlock])⟩
  · subst hsize
    subst hby
    by_cases hroom : n + m ≤ cap
    · have hfit : n * i.size + news.length ≤ cur.size := by rw [hl, hcs, ← Nat.add_mul]; exact Nat.mul_le_mul_right _ hroom
      have hr2 := run_append_room (P := P) w t ty e i ht hi g n cap cur hg a m c news hl hnews h1 hroom hfit
      rw [hr] at hr2
      cases hr2
      exact .inl rfl
    · have holds : ∀ j u, xs[j]? = some u → w.cell? ((⟨g, 0, none⟩ : Addr).add j) = some u := hown.cells (g := g) rfl
      have hr2 := run_append_grow (P := P) w t ty e i z ht hi hz ⟨g, 0, none⟩ n cap xs hown.1 holds a m c news hl hnews (by omega) (by simp only [maxLen] at h63; omega) (growslice_fits (by omega) hbytes)
      rw [hr] at hr2
      cases hr2
      exact .inr ⟨fun b hb => by simp [Value.ownBlock] at hb; omega, fun k hk => alloc_old w.drew _ hk⟩

def Ib (I : Im) (v : Value) (n : Nat) : Im :=
  match v.ownBlock with
  | some g => upd I g n
  | none => I

theorem own_cells {e : TypeId} {sz n g : Nat} {v : Value} {us : List Value} (h : w.ownsRow 0 e sz v n us) (hg : v.ownBlock = some g) {o : Nat} (ho : o < us.length) : w.cell? ⟨g, o, none⟩ = us[o]? := by
  have := h.cells hg o (us[o]) (List.getElem?_eq_getElem ho)
  have had : (⟨g, 0, none⟩ : Addr).add o = ⟨g, o, none⟩ := by unfold Addr.add; split <;> simp_all
  rw [had] at this
  rw [this, List.getElem?_eq_getElem ho]

theorem Rel.appended (R : Rel E σ a w I β) {k : Key} {e : TypeId} {sz : Nat} {xs ys : List D} (hk : σ.obj k = some (.row e sz xs)) {v v' : Value} {us news : List Value} (hv : β.row k xs.length = some v) (hown : w.ownsRow 0 e sz v xs.length us) (hus : RepL w I xs us)
    (hnews : RepL w I ys news) (hs : allSz sz ys) (hy : ys ≠ []) {w' : World} (h2 : w'.ownsRow 0 e sz v' (xs.length + ys.length) (us ++ news)) (h3 : w.grownBy w' v.ownBlock)
    (h4 : v'.ownBlock = v.ownBlock ∨ (∀ b, v'.ownBlock = some b → w.heap.size ≤ b) ∧ ∀ k, k < w.heap.size → w'.heap[k]? = w.heap[k]?) :
    Rel E (σ.setO k (.row e sz (xs ++ ys))) a w' (Ib I v' ((xs.length + ys.length) * sz)) { β with row := upd β.row k (fun j => if j = xs.length + ys.length then some v' else β.row k j) } ∧ Ext w I w' (Ib I v' ((xs.length + ys.length) * sz)) ∧ ∀ i c, look σ.L i = some (.var c) → w'.heap[β.blk (.l i)]? = w.heap[β.blk (.l i)]? := by
  have hr := R.ob.rel k _ hk
  obtain ⟨h0, v0, us0, g1, g2, g3, g4, g5, g6⟩ := hr
  rw [hv] at g1
  cases g1
  have hyl : 0 < ys.length := List.length_pos_iff.2 hy
  have hul := hown.1
  have hI' : ∀ b, v'.ownBlock ≠ some b → Ib I v' ((xs.length + ys.length) * sz) b = I b := fun b hb => by
    unfold Ib
    cases hg : v'.ownBlock with
    | some g => exact upd_ne _ _ (fun e => hb (by rw [hg, e]))
    | none => rfl
  have hIo : ∀ b, v'.ownBlock = some b → Ib I v' ((xs.length + ys.length) * sz) b = (xs.length + ys.length) * sz := fun b hb => by
    unfold Ib
    rw [hb]
    exact upd_eq _ _ _
  have hblk : ∀ b, b < w.heap.size → v.ownBlock ≠ some b → w'.heap[b]? = w.heap[b]? := fun b hb hn => h3.block b hb (fun e => hn e.symm)
  have hXk : ∀ b, v.ownBlock = some b → ∃ o, σ.obj k = some o ∧ own β k o = some b := fun b hb => ⟨_, hk, by simp only [own, hv, Option.bind_some, hb]⟩
  have fr : Fr w I (fun b => ∃ o, σ.obj k = some o ∧ own β k o = some b) w' (Ib I v' ((xs.length + ys.length) * sz)) :=
    ⟨h3.os, h3.tape, h3.output, h3.size, fun b hb hx => by
      have hvb : v.ownBlock ≠ some b := fun e => hx (hXk b e)
      refine ⟨hblk b hb hvb, hI' b (fun e => ?_)⟩
      rcases h4 with h4 | h4
      · exact hvb (h4 ▸ e)
      · have := h4.1 b e; omega⟩
  have e1 : Ext w I w' (Ib I v' ((xs.length + ys.length) * sz)) := Ext.of_fr R.ob.new fr (fun b ⟨o, ho, hob⟩ => by
    rw [hk] at ho
    cases ho
    simp only [own, hv, Option.bind_some] at hob
    have hIb := g5 b hob
    have hbl := (hown.lt b hob).2
    by_cases hq : v'.ownBlock = some b
    · rw [hIo b hq, hIb]
      refine ⟨Nat.mul_le_mul_right _ (by omega), fun o ho => ?_⟩
      rw [own_cells h2 hq (by rw [List.length_append]; omega), own_cells hown hob (by omega), List.getElem?_append_left (by omega)]
    · rw [hI' b hq]
      refine ⟨Nat.le_refl _, fun o ho => ?_⟩
      rcases h4 with h4 | h4
      · exact absurd (h4.trans hob) hq
      · exact World.cell?_of_block (w := w) (a := ⟨b, o, none⟩) (h4.2 b hbl))
  have hlen : (xs ++ ys).length = xs.length + ys.length := List.length_append
  refine ⟨?_, e1, fun i c hi => hblk _ (R.var_lt hi) (fun hv2 => ?_)⟩
  rotate_left
  · obtain ⟨o2, ho2, hb2⟩ := hXk _ hv2
    have := R.ob.sep (.l i) k (.var c) o2 _ hi ho2 rfl hb2
    subst this
    have hi' : σ.obj (.l i) = some (.var c) := hi
    rw [hk] at hi'
    cases hi'
  refine R.step e1 fr (Be.row_upd β k _) (.inr ⟨?_, _, hk⟩) ⟨h0, v', us ++ news, ?_, ?_, (hus.append hnews).ext e1, ?_, ?_, ?_⟩ ?_ (fun _ k' hk' => by simp [Ob.keys] at hk') (fun b hb => ?_)
  · rintro k' rfl
    refine ⟨rfl, fun n u hu => ?_⟩
    simp only [upd_eq]
    rw [if_neg ?_]
    · exact hu
    · rintro rfl
      rw [g6 _ (by omega)] at hu
      cases hu
  · simp only [upd_eq, hlen, if_true]
  · rw [hlen]; exact h2
  · intro x hx
    rcases List.mem_append.1 hx with hx | hx
    · exact g4 x hx
    · exact hs x hx
  · intro b hb
    rw [hlen]; exact hIo b hb
  · intro j hj
    rw [hlen] at hj
    simp only [upd_eq]
    rw [if_neg (by omega)]
    exact g6 j (by omega)
  · intro b hb
    simp only [own, upd_eq, hlen, if_true, Option.bind_some] at hb
    rcases h4 with h4 | h4
    · exact .inl (hXk b (h4 ▸ hb))
    · exact .inr (h4.1 b hb)
  · have hnb : v'.ownBlock ≠ some b := fun e => by have := (h2.lt b e).2; omega
    rw [hI' b hnb]
    exact R.ob.new b (Nat.le_trans h3.size hb)

/-- Nothing is appended. -/
theorem Rel.same_row (R : Rel E σ a w I β) {k : Key} {o : Ob} (hk : σ.obj k = some o) : Rel E (σ.setO k o) a w I β := by
  refine R.step (Ext.refl w I) (Fr.refl w I _) (fun _ _ => ⟨rfl, rfl⟩) (.inr ⟨Keep.refl _ β, o, hk⟩) (R.ob.rel k o hk) (fun b hb => .inl ⟨o, hk, hb⟩) (fun hf => ?_) R.ob.new
  cases k with
  | l i => exact hf.elim
  | f i => exact R.nf i o hk

theorem run_append_none {t ty e : TypeId} {i : TypeInfo} (ht : P.underlying t = some (.slice e)) (hi : P.info? e = some i) {A A' : Option Addr} {n cap c : Nat} (hn : n ≤ cap) :
    (Builtin.append_ #[t, t] ty #[.slice A n cap, .slice A' 0 c]).run P w = .ok (.slice A n cap) w := by
  cases A <;> cases A' <;> simp [Builtin.append_, run_underlying ht, sizeOf, run_typeInfo w hi, Builtin.lenOf, hn, Builtin.firstCells, loadCells, loadCellsFrom, storeCells]

def opApp (y : Ty) (σ : St) (dst : Option Tmp) (t : TypeId) (s x : T) (K : St → Prop) : Prop :=
  match y.ky t, x with
  | some (.sl e), .d (.sl ys) => match y.Y e with
    | some r => 0 < r.sz ∧ allSz r.sz ys ∧ (y.Z e).isSome = true ∧ match s with
      | .rw k n => match σ.obj k with
        | some (.row e' sz xs) => e' = e ∧ sz = r.sz ∧ n = xs.length ∧ n + ys.length ≤ 9223372036854775807 ∧ (n + ys.length) * r.by_ ≤ 140737488355328 ∧
          K ((σ.setO k (.row e sz (xs ++ ys))).put dst (.rw k (n + ys.length)))
        | _ => False
      | .nl => match dst with
        | some i => σ.cleanB i = true ∧ ys.length ≤ 9223372036854775807 ∧ ys.length * r.by_ ≤ 140737488355328 ∧
          K (((σ.setO (.l i) (.row e r.sz [])).setO (.l i) (.row e r.sz ys)).put dst (.rw (.l i) ys.length))
        | none => False
      | _ => False
    | none => False
  | _, _ => False

theorem app_row (hY : TyOk P y) (R : Rel E σ a w I β) {o : Oper} {t : TypeId} {s x : Operand} (ho : o.op = .call { callee := .builtin .append, args := #[s, x], argTypes := #[t, t] }) (hd : ∀ i, o.dst = some i → i < E.n)
    {e : TypeId} {r : Yr} (hk : y.ky t = some (.sl e)) (hr : y.Y e = some r) (h0 : 0 < r.sz) (hz : (y.Z e).isSome = true) {ys : List D} (hs : allSz r.sz ys) (hx : RepD w I (.sl ys) (a.eval x))
    {k : Key} {xs : List D} (hkk : σ.obj k = some (.row e r.sz xs)) (hv : β.row k xs.length = some (a.eval s)) (hb1 : xs.length + ys.length ≤ 9223372036854775807) (hb2 : (xs.length + ys.length) * r.by_ ≤ 140737488355328) {K : St → Prop} {Q : Exit → Act → World → Prop}
    (h : K ((σ.setO k (.row e r.sz (xs ++ ys))).put o.dst (.rw k (xs.length + ys.length)))) : o.wp P a w (Kz E w I σ β false K) Q := by
  obtain ⟨inf, i1, i2, i3⟩ := hY.info e r hr
  obtain ⟨z, hz⟩ := Option.isSome_iff_exists.1 hz
  obtain ⟨inf', zv, j1, j2, j3, j4⟩ := hY.zero e z hz
  rw [i1] at j1
  cases j1
  obtain ⟨A, c, news, sz, ex, hle, hrl, hsz, hseg⟩ := repD_sl hx
  obtain ⟨_, v0, us, g1, g2, g3, g4, g5, g6⟩ := R.ob.rel k _ hkk
  rw [hv] at g1
  cases g1
  have hrun : ∀ {v' w'}, (Builtin.append_ #[t, t] o.type #[a.eval s, a.eval x]).run P w = .ok v' w' → Kz E w I σ β false K (a.put o.dst v') w' → o.wp P a w (Kz E w I σ β false K) Q := by
    intro v' w' h1 h2
    unfold Oper.wp execOp
    simp only [ho, resolve, invoke, builtin, Sem.run_bind, Sem.run_pure, Result.andThen_ok, List.map_toArray, List.map_cons, List.map_nil, h1]
    exact h2
  by_cases hy : ys = []
  · subst hy
    obtain ⟨A0, n0, c0, e0, hn0⟩ : ∃ A0 n0 c0, a.eval s = .slice A0 n0 c0 ∧ n0 ≤ c0 := by
      rcases g2.2 with ⟨e1, e2⟩ | ⟨g, cap, cur, e1, _, _, e2, _⟩
      · exact ⟨none, 0, 0, e1, Nat.le_refl _⟩
      · exact ⟨_, _, _, e1, e2⟩
    have h1 : (Builtin.append_ #[t, t] o.type #[a.eval s, a.eval x]).run P w = .ok (a.eval s) w := by
      rw [e0, ex]
      exact run_append_none (hY.ky hk) i1 hn0
    refine hrun h1 ⟨_, I, β, ?_, h, Ext.refl w I, fun j c hj => ⟨fun _ => rfl, c, (by cases o.dst <;> exact Rel.var_set' hkk (by simp) hj), rfl⟩⟩
    rw [List.append_nil]
    exact (R.same_row hkk).put hd (x := .rw k (xs.length + 0)) hv
  · obtain ⟨ad, rfl, hsg⟩ := hseg.resolve_left hy
    have hnl := hrl.len
    rw [sizes_const hs] at hnl
    have hzs : zv.cells.size = r.sz := by
      have := (j4 w I).1.len
      simp at this
      omega
    obtain ⟨v', w', h1, h2, h3, h4⟩ := run_append_own2 (P := P) (w := w) 0 t o.type e inf zv r.sz r.by_ (hY.ky hk) i1 j2 i2 i3 hzs h0 (a.eval s) xs.length us g2 ad ys.length c news hnl (fun j u hj => by
      have := (hsg.2 j u hj).1
      unfold Addr.add
      split
      · rename_i hj0
        subst hj0
        rw [Nat.add_zero] at this
        rw [show ad = ⟨ad.block, ad.off, none⟩ by rw [← hsg.1]]
        exact this
      · exact this) hrl.one (by unfold maxLen; omega) hb2 (Nat.zero_le _)
    rw [← ex] at h1
    obtain ⟨R2, e2, v2⟩ := R.appended hkk hv g2 g3 hrl hs hy h2 h3 h4
    refine hrun h1 ⟨_, _, _, R2.put hd (x := .rw k (xs.length + ys.length)) ?_, h, e2, fun j c hj => ⟨fun _ => v2 j c hj, c, (by cases o.dst <;> exact Rel.var_set' hkk (by simp) hj), rfl⟩⟩
    simp only [RelT, upd_eq, if_true]

theorem app_ok (hY : TyOk P y) (R : Rel E σ a w I β) {o : Oper} {t : TypeId} {s x : Operand} (ho : o.op = .call { callee := .builtin .append, args := #[s, x], argTypes := #[t, t] }) (hd : ∀ i, o.dst = some i → i < E.n) {K : St → Prop} {Q : Exit → Act → World → Prop}
    (h : opApp y σ o.dst t (σ.ev s) (σ.frz (σ.ev x)) K) : o.wp P a w (Kz E w I σ β false K) Q := by
  have hs := R.ev s
  have hx := R.frz (R.ev x)
  generalize σ.frz (σ.ev x) = xx at h hx
  generalize σ.ev s = ss at h hs
  unfold opApp at h
  split at h
  · rename_i e ys hk
    split at h
    · rename_i r hr
      obtain ⟨h0, h1, hz, h⟩ := h
      split at h
      · rename_i k n
        split at h
        · rename_i e' sz xs hkk
          obtain ⟨rfl, rfl, rfl, b1, b2, h⟩ := h
          exact app_row hY R ho hd hk hr h0 hz h1 hx hkk hs b1 b2 h
        · exact h.elim
      · split at h
        · rename_i i hi
          obtain ⟨hc, b1, b2, h⟩ := h
          simp only [RelT] at hs
          have R2 := R.ghost (R.clean hc) e h0
          have hcl := R.clean hc
          refine Oper.wp_mono (K := Kz E w I _ _ false K) ?_ (app_row (k := .l i) hY R2 ho hd hk hr h0 hz h1 hx (xs := []) (by simp [St.obj, St.setO, look_cons]) ?_ (by simpa using b1) (by simpa using b2) ?_)
          · rintro a' w' ⟨σ', I', β', q1, q2, q3, q4⟩
            refine ⟨σ', I', β', q1, q2, q3, fun j c hj => q4 j c ?_⟩
            simp only [St.setO, look_cons]
            rw [if_neg (fun e => (hcl.2 (.l j) _ hj).2 (by rw [e]))]
            exact hj
          · simp only [upd_eq, hist, List.length_nil, if_true, hs]
          · simpa using h
        · exact h.elim
      · exact h.elim
    · exact h.elim
  · exact h.elim

/-! ### make -/
def opMake (y : Ty) (σ : St) (dst : Option Tmp) (ty : TypeId) (l c : T) (K : St → Prop) : Prop :=
  match dst, y.ky ty, l, c with
  | some i, some (.sl e), .d (.i .i64 n), .d (.i .i64 m) => match y.Y e, y.Z e with
    | some r, some z => m = n ∧ 0 ≤ n ∧ n ≤ 9223372036854775807 ∧ (r.by_ : Int) * n ≤ 281474976710656 ∧ 0 < r.sz ∧ σ.cleanB i = true ∧ K ((σ.setO (.l i) (.mr e r.sz (List.replicate n.toNat z))).put (some i) (.rf (.l i) n.toNat))
    | _, _ => False
  | _, _, _, _ => False
end Go.Proofs.Ytmclamindmnigaa.Ax

