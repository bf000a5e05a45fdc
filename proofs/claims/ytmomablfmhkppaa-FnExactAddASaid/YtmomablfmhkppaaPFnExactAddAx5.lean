-- The functions of a law as plain Lean functions, each with its contract: written by a program of this session.
import Derived.Test.YtmomablfmhkppaaPFnExactAddAx0
namespace Go.Proofs.Ytmomablfmhkppaa.PFnExactAddA
open Go.RowKit Go.Proofs.YtmomablfmhkppaaW.PrintWords Go.Proofs.YtmomablfmhkppaaW.PrintLast Go.Proofs.YtmomablfmhkppaaW.PrintMore
attribute [local go_sem] max2_int min2_int max_two min_two max_three min_three max_four min_four   -- for this text's walks alone
set_option linter.unusedVariables false
set_option linter.unusedSimpArgs false

def impl_Term_75.cf (x y : S70) : Int := if Op.bytesLess x.f0.toList y.f0.toList = true then -1 else if (x.f0.toList == y.f0.toList) = true then 0 else 1
instance impl_Term_75.inh : Inhabited S70 := ⟨z70⟩
def impl_Term_75.sorted (l : List S70) : List S70 := (Go.Sort.pdq (ltOf impl_Term_75.cf) l.toArray 0 l.toArray.size (Go.Lib.bitLen l.toArray.size) true true).toList
def impl_Term_75.f (l0 : List S70) : Option (List S70) := if l0.length < 4611686018427387904 then some (impl_Term_75.sorted l0) else none
def impl_Term_75.enc (x : S70) : List Value := [.string x.f0, .int .i64 x.f1]
theorem impl_Term_75.less_eq : ∀ (x y : List UInt8), Op.bytesLess x y = decide (x < y)
 | [], [] => by simp [Op.bytesLess]
 | _ :: _, [] => by simp [Op.bytesLess]
 | [], _ :: _ => by simp [Op.bytesLess]
 | a :: x, b :: y => by
  rw [Op.bytesLess, impl_Term_75.less_eq x y]
  simp only [List.cons_lt_cons_iff]
  by_cases h1 : a < b <;> by_cases h2 : a = b <;> by_cases h3 : x < y <;> simp [h1, h2, h3]
theorem impl_Term_75.lt_eq (x y : S70) : ltOf impl_Term_75.cf x y = decide (x.f0.toList < y.f0.toList) := by
 unfold ltOf impl_Term_75.cf
 rw [impl_Term_75.less_eq]
 by_cases h : x.f0.toList < y.f0.toList
 ·simp [h]
 ·by_cases h2 : x.f0.toList = y.f0.toList
  ·simp [h2, List.lt_irrefl]
  ·simp [h, h2]
theorem impl_Term_75.swo : Go.Sort.SWO (ltOf impl_Term_75.cf) where
 irrefl x := by simp [impl_Term_75.lt_eq, List.lt_irrefl]
 trans x y z h1 h2 := by
  simp only [impl_Term_75.lt_eq, decide_eq_true_eq] at *
  exact List.lt_trans h1 h2
 ntrans x y z h1 h2 := by
  simp only [impl_Term_75.lt_eq, decide_eq_false_iff_not, List.not_lt] at *
  exact List.le_trans h2 h1
theorem impl_Term_75.nan (x : ByteArray) (w : World) : Calls Try.prog 97 #[.string x] w fun e w' => e = .returned (.bool false) ∧ w' = w := by
 go_enter Try.func97, Try.ntmps97
 go_wp2
 go_ret
 exact ⟨by simp, rfl⟩
set_option maxRecDepth 100000 in
set_option maxHeartbeats 2000000 in
theorem impl_Term_75.compare (x y : S70) (w : World) : Calls Try.prog 77 #[.string x.f0, .string y.f0] w fun e w' => e = .returned (.int .i64 (impl_Term_75.cf x y)) ∧ w' = w := by
 unfold impl_Term_75.cf
 cases c : Op.bytesLess x.f0.toList y.f0.toList with
 | true =>
  go_enter Try.func77, Try.ntmps77
  go_wp2_with (go_at_call 97; refine (impl_Term_75.nan _ _).mono ?_; rintro e w' ⟨rfl, rfl⟩)
  go_ret
  exact ⟨rfl, rfl⟩
 | false =>
  cases d : (x.f0.toList == y.f0.toList) with
  | true =>
   go_enter Try.func77, Try.ntmps77
   go_wp2_with (go_at_call 97; refine (impl_Term_75.nan _ _).mono ?_; rintro e w' ⟨rfl, rfl⟩)
   go_ret
   exact ⟨rfl, rfl⟩
  | false =>
   go_enter Try.func77, Try.ntmps77
   go_wp2_with (go_at_call 97; refine (impl_Term_75.nan _ _).mono ?_; rintro e w' ⟨rfl, rfl⟩)
   go_ret
   exact ⟨rfl, rfl⟩
set_option maxHeartbeats 2000000 in
theorem impl_Term_75.closure (x y : S70) (W : World) : Calls Try.prog 76 #[.agg #[.string x.f0, .int .i64 x.f1], .agg #[.string y.f0, .int .i64 y.f1]] W fun e w' => e = .returned (.int .i64 (impl_Term_75.cf x y)) ∧ ∃ q os', w' = Go.Sort.grow (W.drewN q) os' := by
 have hcon := fun W' => impl_Term_75.compare x y W'
 generalize impl_Term_75.cf x y = r at hcon ⊢
 go_enter Try.func76, Try.ntmps76
 go_wp2_with (go_at_call 77; refine (hcon _).mono ?_; rintro e w' ⟨rfl, rfl⟩)
 go_ret
 exact ⟨rfl, 0, _, by rw [Go.Sort.alloc_eq_grow, Go.Sort.alloc_eq_grow, Go.Sort.grow_grow]; rfl⟩
theorem impl_Term_75.flat_get (l : List S70) (j : Nat) (hj : j < l.length) : ((Go.Sort.flatK impl_Term_75.enc 2 l.toArray).toList.drop (j * 2)).take 2 = impl_Term_75.enc l[j] := by
 have hs : (Go.Sort.flatK impl_Term_75.enc 2 l.toArray).toList.length = l.length * 2 := by simp
 apply List.ext_getElem?
 intro i
 by_cases hi : i < 2
 ·rw [List.getElem?_take_of_lt hi, List.getElem?_drop]
  have h1 : j * 2 + i < (Go.Sort.flatK impl_Term_75.enc 2 l.toArray).toList.length := by rw [hs]; omega
  rw [List.getElem?_eq_getElem h1]
  have h2 := Go.Sort.get_flatK impl_Term_75.enc 2 l.toArray (j * 2 + i) (by simp; omega)
  have h3 : (j * 2 + i) / 2 = j := by omega
  have h4 : (j * 2 + i) % 2 = i := by omega
  rw [h3, h4] at h2
  have h5 : (Go.Sort.flatK impl_Term_75.enc 2 l.toArray)[j * 2 + i]! = (Go.Sort.flatK impl_Term_75.enc 2 l.toArray).toList[j * 2 + i] := by
   rw [getElem!_pos _ _ (by simpa using h1)]
   simp
  have h6 : l.toArray[j]! = l[j] := by
   rw [getElem!_pos _ _ (by simpa using hj)]
   simp
  rw [← h5, h2, h6]
  have : i = 0 ∨ i = 1 := by omega
  rcases this with rfl | rfl <;> rfl
 ·rw [List.getElem?_eq_none (by rw [List.length_take]; omega), List.getElem?_eq_none (by simp [impl_Term_75.enc]; omega)]
theorem impl_Term_75.inner_eq {w : World} {base : Nat} {ok : Nat → Prop} {l : List S70} {inner : List Value} (h : Reps (k70.M w base ok) 2 l inner) : inner = (Go.Sort.flatK impl_Term_75.enc 2 l.toArray).toList := by
 have hs : (Go.Sort.flatK impl_Term_75.enc 2 l.toArray).toList.length = l.length * 2 := by simp
 apply List.ext_getElem?
 intro t
 by_cases ht : t < l.length * 2
 ·have hj : t / 2 < l.length := by omega
  have h1 := k70_openM (h.2 (t / 2) _ (List.getElem?_eq_getElem hj))
  have h2 := impl_Term_75.flat_get l (t / 2) hj
  have e : t = t / 2 * 2 + t % 2 := by omega
  have f : ∀ L : List Value, L[t]? = ((L.drop (t / 2 * 2)).take 2)[t % 2]? := fun L => by
   rw [List.getElem?_take_of_lt (by omega), List.getElem?_drop, ← e]
  rw [f inner, f (Go.Sort.flatK impl_Term_75.enc 2 l.toArray).toList, h1, h2]
  rfl
 ·rw [List.getElem?_eq_none (by rw [h.1]; omega), List.getElem?_eq_none (by omega)]
theorem impl_Term_75.reps (w : World) (base : Nat) (ok : Nat → Prop) (l : List S70) : Reps (k70.M w base ok) 2 l (Go.Sort.flatK impl_Term_75.enc 2 l.toArray).toList := by
 refine ⟨by simp, fun j p hj => ?_⟩
 obtain ⟨hl, rfl⟩ := List.getElem?_eq_some_iff.1 hj
 rw [impl_Term_75.flat_get l j hl]
 exact k70_mkM w base ok _
set_option maxHeartbeats 2000000 in
theorem impl_Term_75.calls (P0_ : Nat → Prop) (u9000_ : Value) (l0 : List S70) (r : List S70) (w0 w : World) (hB : Below w0.heap.size w0 w) (ho0 : Kd.R k70 70 w w0.heap.size P0_ u9000_ l0) (h : impl_Term_75.f l0 = some r) :
  Calls Try.prog 75 #[u9000_, .func (.func 76) #[] #[]] w fun e w' => e = .returned (.tuple #[]) ∧ Kd.R k70 70 w' w0.heap.size (fun k_ => (P0_ k_ ∨ w.heap.size ≤ k_)) u9000_ r ∧ Below w0.heap.size w0 w' ∧ Kept w w' (fun k_ => P0_ k_) := by
 unfold impl_Term_75.f at h
 by_cases hlen : l0.length < 4611686018427387904
 ·rw [if_pos hlen] at h
  obtain rfl := Option.some.inj h
  have hsorts := Go.Sort.pdq_sorts (ltOf impl_Term_75.cf) impl_Term_75.swo l0.toArray 0 l0.toArray.size (Go.Lib.bitLen l0.toArray.size) true true (Nat.zero_le _) (Nat.le_refl _) (Or.inl rfl)
  have hsz : (impl_Term_75.sorted l0).length = l0.length := by
   have := hsorts.1.1
   unfold impl_Term_75.sorted
   simpa using this
  obtain ⟨hP,inner,ho,hr⟩ := ho0
  obtain ⟨hl,ho⟩ := ho
  replace hl : inner.length = l0.length * 2 := hl
  rcases ho with ⟨rfl,hn⟩|⟨g,cap,cur,rfl,hg,hh,hc1,hc2,hc3,hc4⟩
  ·have e0 : l0 = [] := List.length_eq_zero_iff.1 hn
   subst e0
   have e1 : impl_Term_75.sorted [] = [] := List.length_eq_zero_iff.1 hsz
   rw [e1]
   refine (AnyF.slices_SortFunc_none Try.sortT none 0 _ w).mono ?_
   rintro e w' ⟨he,rfl⟩
   exact ⟨he,Kd.R_nil _ _ _ _ _,hB,Kept.refl _ _⟩
  ·replace hc3 : cur.size = cap * 2 := hc3
   replace hc4 : cur.toList.take (l0.length * 2) = inner := hc4
   have hin := impl_Term_75.inner_eq hr
   have hgl : g < w.heap.size := (Array.getElem?_eq_some_iff.1 hh).1
   have hH : Go.Sort.HoldsK impl_Term_75.enc 2 w g 0 l0.toArray := by
    intro j hj
    have hj' : j < l0.length * 2 := by simpa using hj
    refine ⟨?_,by rw [Nat.zero_add];exact blk_frozen hh j⟩
    rw [Nat.zero_add,blk_cell hh j]
    have e1 : inner[j]? = cur[j]? := by
     rw [← hc4,List.getElem?_take_of_lt hj',Array.getElem?_toList]
    rw [← e1,hin,Array.getElem?_toList,Array.getElem?_eq_getElem hj,getElem!_pos (Go.Sort.flatK impl_Term_75.enc 2 l0.toArray) j hj]
    rfl
   refine (AnyQ.slices_SortFunc_eq Try.sortT 2 (fun _ => by kernel_rfl) (fun _ => by kernel_rfl) impl_Term_75.enc (fun _ => rfl) (fun x v hv => by simp [impl_Term_75.enc] at hv;rcases hv with rfl|rfl <;> rfl) impl_Term_75.cf impl_Term_75.swo 76 #[] g 0 cap l0.toArray w (enters_of Try.func76 (by kernel_rfl) rfl) (fun _ _ _ _ x y => impl_Term_75.closure x y _) hH hgl (by simpa using hlen)).mono ?_
   rintro e w' ⟨he,m,os,rfl⟩
   have hS : impl_Term_75.sorted l0 = (Go.Sort.pdq (ltOf impl_Term_75.cf) l0.toArray 0 l0.toArray.size (Go.Lib.bitLen l0.toArray.size) true true).toList := rfl
   generalize hd : Go.Sort.pdq (ltOf impl_Term_75.cf) l0.toArray 0 l0.toArray.size (Go.Lib.bitLen l0.toArray.size) true true = d at hS hsorts
   have hds : d.size = l0.length := by
    have := hsorts.1.1
    simpa using this
   have hblk : ∀ k,k < w.heap.size → (sortWorldK impl_Term_75.enc 2 w g 0 m d os).heap[k]? = (w.heap.modify g (Go.Sort.onCells (Go.Sort.putCells id 0 (Go.Sort.flatK impl_Term_75.enc 2 d))))[k]? := fun k hk => by
    show ((w.heap.modify g _) ++ os)[k]? = _
    rw [Array.getElem?_append_left (by simpa using hk)]
   have hother : ∀ k,k < w.heap.size → k ≠ g → (sortWorldK impl_Term_75.enc 2 w g 0 m d os).heap[k]? = w.heap[k]? := fun k hk hne => by
    rw [hblk k hk,Array.getElem?_modify,if_neg (fun h => hne h.symm)]
   have hsize : w.heap.size ≤ (sortWorldK impl_Term_75.enc 2 w g 0 m d os).heap.size := by
    show _ ≤ ((w.heap.modify g _) ++ os).size
    simp
   have hown : (sortWorldK impl_Term_75.enc 2 w g 0 m d os).heap[g]? = some (.cells (Go.Sort.putCells id 0 (Go.Sort.flatK impl_Term_75.enc 2 d) cur) 70 (0,0)) := by
    rw [hblk g hgl,Array.getElem?_modify,if_pos rfl,hh]
    rfl
   have htake : (Go.Sort.putCells id 0 (Go.Sort.flatK impl_Term_75.enc 2 d) cur).toList.take (l0.length * 2) = (Go.Sort.flatK impl_Term_75.enc 2 d).toList := by
    have hF : (Go.Sort.flatK impl_Term_75.enc 2 d).size = l0.length * 2 := by simp [hds]
    apply List.ext_getElem?
    intro t
    by_cases ht : t < l0.length * 2
    ·have htc : t < cur.size := by rw [hc3];omega
     rw [List.getElem?_take_of_lt ht,Array.getElem?_toList,Array.getElem?_toList]
     unfold Go.Sort.putCells
     rw [Array.getElem?_mapIdx,Array.getElem?_eq_getElem htc,Option.map_some,if_pos ⟨by omega,by omega⟩,Nat.sub_zero,Array.getElem?_eq_getElem (by omega),getElem!_pos _ _ (by omega)]
     rfl
    ·rw [List.getElem?_eq_none (by rw [List.length_take];omega),List.getElem?_eq_none (by simp;omega)]
   have hBn : Below w0.heap.size w0 (sortWorldK impl_Term_75.enc 2 w g 0 m d os) := ⟨hB.os,hB.tape,hB.output,Nat.le_trans hB.size hsize,fun k hk => (hother k (Nat.lt_of_lt_of_le hk hB.size) (by omega)).trans (hB.block k hk)⟩
   refine ⟨he,?_,hBn,hsize,fun k hk hn => hother k hk (fun e => hn (by rw [e];exact hP g rfl))⟩
   refine ⟨fun k hk => .inl (hP k hk),(Go.Sort.flatK impl_Term_75.enc 2 d).toList,⟨?_,.inr ⟨g,cap,_,by rw [hsz],hg,hown,by omega,hc2,?_,?_⟩⟩,?_⟩
   ·show (Go.Sort.flatK impl_Term_75.enc 2 d).toList.length = (impl_Term_75.sorted l0).length * 2
    rw [hsz]
    simp [hds]
   ·show (Go.Sort.putCells id 0 (Go.Sort.flatK impl_Term_75.enc 2 d) cur).size = cap * 2
    simpa [Go.Sort.putCells] using hc3
   ·show (Go.Sort.putCells id 0 (Go.Sort.flatK impl_Term_75.enc 2 d) cur).toList.take ((impl_Term_75.sorted l0).length * 2) = _
    rw [hsz]
    exact htake
   ·have := impl_Term_75.reps (sortWorldK impl_Term_75.enc 2 w g 0 m d os) w0.heap.size (fun k => ((P0_ k ∨ w.heap.size ≤ k) ∧ some k ≠ (Value.slice (some ⟨g,0,none⟩) l0.length cap).ownBlock)) (impl_Term_75.sorted l0)
    rw [hS,Array.toArray_toList] at this
    rw [hS]
    exact this
 ·rw [if_neg hlen] at h
  exact absurd h (by simp)
end Go.Proofs.Ytmomablfmhkppaa.PFnExactAddA
