/- Contracts of functions that the claim reaches, over data without addresses, and what follows of them (text P21). No conditions beside those that each theorem names. -/
import Derived.Test.YtmmdgciefehbcaaGreatDoorP20
import Derived.Test.YtmmdgciefehbcaaGreatDoorSrl
import Derived.Sort.OwnSorted
import Derived.Lib.OwnBridge
import Derived.Lib.RowBridge
set_option linter.unusedVariables false
set_option linter.unusedSimpArgs false
namespace Go.Proofs.YtmmdgciefehbcaaGreatDoor.Ax
open Go.RowKit Go.Shelf Go.Sort
/-- The bytes of texts, sorted. -/
abbrev srt (ss : List (List UInt8)) : List (List UInt8) := ss.mergeSort fun x y => decide (x ≤ y)
theorem sortRow (w : World) (v : Value) (n : Nat) (ss : List (List UInt8)) (h : w.ownsRow 0 9 1 v n (ss.map encStr)) (hn : n < 4611686018427387904) :
    Calls Tryz.prog 103 #[v] w fun e w' => e = .returned (.tuple #[]) ∧ w'.ownsRow 0 9 1 v n ((srt ss).map encStr) ∧ w.grownBy w' v.ownBlock := by
  have hl : ss.length = n := by simpa using h.1
  rcases h.2 with ⟨rfl, rfl⟩ | ⟨g, cap, cur, rfl, hb, hg, h1, h2, h3, h4⟩
  · obtain rfl : ss = [] := List.length_eq_zero_iff.1 hl
    refine (Any.slices_Sort_string_none Tryz.sortT none 0 w).mono ?_
    rintro e w' ⟨rfl, rfl⟩
    exact ⟨rfl, by simpa using World.ownsRow_nil w' 0 9 1, ⟨rfl, rfl, rfl, Nat.le_refl _, fun _ _ _ => rfl⟩⟩
  · have hH : Holds encStr w g 0 ss.toArray := holds_of_block hg (by rw [hl]; simpa using h4)
    have hlt : g < w.heap.size := (Array.getElem?_eq_some_iff.1 hg).1
    have hs := Any.slices_Sort_string Tryz.sortT g 0 cap ss w hH hlt (by omega)
    rw [hl] at hs
    refine hs.mono ?_
    rintro e w' ⟨rfl, nn, os, rfl⟩
    subst hl
    exact ⟨rfl, ownsRow_sorted (by simp) hb hg h1 h2 h3, grownBy_sorted _⟩
theorem compactRow (w : World) (v : Value) (n : Nat) (ss : List (List UInt8)) (h : w.ownsRow 0 9 1 v n (ss.map encStr)) (hn : n < 4611686018427387904) :
    Calls Tryz.prog 105 #[v] w fun e w' => ∃ v', e = .returned v' ∧ w'.ownsRow 0 9 1 v' (Lib.compact ss).length ((Lib.compact ss).map encStr) ∧ w.grownBy w' v.ownBlock ∧ v'.ownBlock = v.ownBlock := by
  have hl : ss.length = n := by simpa using h.1
  rcases h.2 with ⟨rfl, rfl⟩ | ⟨g, cap, cur, rfl, hb, hg, h1, h2, h3, h4⟩
  · obtain rfl : ss = [] := List.length_eq_zero_iff.1 hl
    refine (Any.slices_Compact_string_empty Tryz.compactT none 0 w).mono ?_
    rintro e w' ⟨rfl, rfl⟩
    exact ⟨_, rfl, World.ownsRow_nil w' 0 9 1, ⟨rfl, rfl, rfl, Nat.le_refl _, fun _ _ _ => rfl⟩, rfl⟩
  · have hH : Holds encStr w g 0 ss.toArray := holds_of_block hg (by rw [hl]; simpa using h4)
    have hs := Any.slices_Compact_string Tryz.compactT g 0 cap ss w hH (by omega) (by omega)
    have hle := Lib.compact_length_le ss
    rw [hl] at hs
    refine hs.mono ?_
    rintro e w' ⟨rfl, q, rfl⟩
    have hc := Lib.ownsRow_putRow (q := q) (k := (Lib.compact ss).length) (ys := Lib.compact ss ++ List.replicate (n - (Lib.compact ss).length) []) h (by simp; omega) (by omega)
    rw [List.take_left] at hc
    have hgr := grownBy_sorted (w := w) (g := g) (n := q) (os := #[]) (Lib.compact ss ++ List.replicate (n - (Lib.compact ss).length) []).toArray
    rw [grow_empty] at hgr
    exact ⟨_, rfl, hc, hgr, rfl⟩
set_option maxHeartbeats 4000000 in
set_option maxRecDepth 100000 in
theorem clipNil (w : World) : Calls Tryz.prog 104 #[.slice none 0 0] w fun e w' => e = .returned (.slice none 0 0) ∧ w' = w := by
  go_enter Tryz.func104, Tryz.ntmps104
  go_wp2
  go_ret
  exact ⟨rfl, rfl⟩
set_option maxHeartbeats 4000000 in
set_option maxRecDepth 100000 in
theorem clipSome (w : World) (g n cap : Nat) (h : n ≤ cap) (hc : cap ≤ maxLen) : Calls Tryz.prog 104 #[.slice (some ⟨g, 0, none⟩) n cap] w fun e w' => e = .returned (.slice (some ⟨g, 0, none⟩) n n) ∧ w' = w := by
  go_enter Tryz.func104, Tryz.ntmps104
  go_wp2
  go_ret
  exact ⟨rfl, rfl⟩
theorem clipRow (w : World) (v : Value) (n : Nat) (us : List Value) (h : w.ownsRow 0 9 1 v n us) : Calls Tryz.prog 104 #[v] w fun e w' => w' = w ∧ ∃ v', e = .returned v' ∧ ((v = .slice none 0 0 ∧ v' = .slice none 0 0 ∧ n = 0) ∨ ∃ g cap, v = .slice (some ⟨g, 0, none⟩) n cap ∧ v' = .slice (some ⟨g, 0, none⟩) n n) := by
  rcases h.2 with ⟨rfl, rfl⟩ | ⟨g, cap, cur, rfl, hb, hg, h1, h2, h3, h4⟩
  · refine (clipNil w).mono ?_
    rintro e w' ⟨rfl, rfl⟩
    exact ⟨rfl, _, rfl, .inl ⟨rfl, rfl, rfl⟩⟩
  · refine (clipSome w g n cap h1 h2).mono ?_
    rintro e w' ⟨rfl, rfl⟩
    exact ⟨rfl, _, rfl, .inr ⟨g, cap, rfl, rfl⟩⟩
def bts (b : ByteArray) : List UInt8 := b.data.toList
def unb (l : List UInt8) : ByteArray := ⟨l.toArray⟩
/-- Sorted, each once. -/
def ordN (ss : List ByteArray) : List ByteArray := (Lib.compact (srt (ss.map bts))).map unb
theorem encStr_bts (ss : List ByteArray) : (ss.map bts).map encStr = ss.map Value.string := by
  rw [List.map_map]
  exact List.map_congr_left fun b _ => rfl
theorem unb_enc (l : List (List UInt8)) : (l.map unb).map Value.string = l.map encStr := by
  rw [List.map_map]; rfl
theorem repL_strs {w : World} {I : Im} : ∀ {ss : List ByteArray} {us : List Value}, RepL w I (strs ss) us → us = ss.map Value.string
  | [], us, h => by simpa [strs, RepL] using h
  | x :: r, us, h => by
    simp only [strs, List.map_cons, RepL] at h
    obtain ⟨p, q, rfl, h1, h2⟩ := h
    simp only [RepC] at h1
    rw [h1, repL_strs h2]; rfl
theorem repL_strs' {w : World} {I : Im} : ∀ (ss : List ByteArray), RepL w I (strs ss) (ss.map Value.string)
  | [] => by simp [strs, RepL]
  | x :: r => by
    simp only [strs, List.map_cons, RepL]
    exact ⟨[.string x], _, rfl, by simp [RepC], repL_strs' r⟩
theorem sizes_strs (ss : List ByteArray) : sizes (strs ss) = ss.length := by
  rw [sizes_const (sz := 1) (strs_sz ss), strs_len, Nat.mul_one]
theorem grownBy_trans {w w1 w2 : World} {r : Option Nat} (h : w.grownBy w1 r) (g : w1.grownBy w2 r) : w.grownBy w2 r :=
  ⟨g.os.trans h.os, g.tape.trans h.tape, g.output.trans h.output, Nat.le_trans h.size g.size, fun k hk hne => (g.block k (Nat.lt_of_lt_of_le hk h.size) hne).trans (h.block k hk hne)⟩
theorem turned_of {w w2 : World} {v v2 v3 : Value} {ss : List ByteArray} (h2 : w2.ownsRow 0 9 1 v2 (Lib.compact (srt (ss.map bts))).length ((Lib.compact (srt (ss.map bts))).map encStr)) (g2 : w.grownBy w2 v.ownBlock) (o2 : v2.ownBlock = v.ownBlock)
    (hc : (v2 = .slice none 0 0 ∧ v3 = .slice none 0 0 ∧ (Lib.compact (srt (ss.map bts))).length = 0) ∨ ∃ g cap, v2 = .slice (some ⟨g, 0, none⟩) (Lib.compact (srt (ss.map bts))).length cap ∧ v3 = .slice (some ⟨g, 0, none⟩) (Lib.compact (srt (ss.map bts))).length (Lib.compact (srt (ss.map bts))).length) :
    Turned w v w2 v3 (strs (ordN ss)) ((ordN ss).map Value.string) := by
  refine ⟨g2, by rw [sizes_strs, List.length_map], ?_⟩
  have hlen : (strs (ordN ss)).length = (Lib.compact (srt (ss.map bts))).length := by rw [strs_len, ordN, List.length_map]
  rcases hc with ⟨rfl, rfl, h0⟩ | ⟨g, cap, rfl, rfl⟩
  · exact .inl ⟨rfl, List.length_eq_zero_iff.1 (by rw [hlen, h0])⟩
  · refine .inr ⟨g, (Lib.compact (srt (ss.map bts))).length, by rw [← o2]; rfl, by rw [hlen], by rw [hlen]; exact Nat.le_refl _, fun j u hj => ?_⟩
    have hj' : ((Lib.compact (srt (ss.map bts))).map encStr)[j]? = some u := by rw [← unb_enc]; exact hj
    have := own_cells h2 rfl (o := j) (List.getElem?_eq_some_iff.1 hj').1
    rw [this]; exact hj'
set_option maxHeartbeats 4000000 in
set_option maxRecDepth 100000 in
theorem ordered_c (w : World) (I : Im) (v : Value) (us : List Value) (ss : List ByteArray) (h : w.ownsRow 0 9 1 v (strs ss).length us) (hr : RepL w I (strs ss) us) (hn : ss.length < 4611686018427387904) :
    Calls Tryz.prog 90 #[v] w fun e w' => ∃ v', e = .returned v' ∧ Turned w v w' v' (strs (ordN ss)) ((ordN ss).map Value.string) := by
  rw [strs_len, repL_strs hr, ← encStr_bts] at h
  generalize hL : ss.map bts = L at h
  have hs := sortRow w v _ L h hn
  have X : Aside (ss.map bts = L ∧ ss.length < 4611686018427387904) := ⟨hL, hn⟩
  clear hr h hL hn
  go_enter Tryz.func90, Tryz.ntmps90
  go_wp2_with (first
    | (go_at_call 103; refine hs.mono ?_; rintro e w1 ⟨rfl, h1, g1⟩
       have hcp := compactRow w1 v _ _ h1 X.out.2
       have X1 : Aside (w.grownBy w1 v.ownBlock) := g1
       clear h1 g1 hs)
    | (go_at_call 105; refine hcp.mono ?_; rintro e w2 ⟨v2, rfl, h2, g2, o2⟩
       have hcl := clipRow w2 v2 _ _ h2
       have X2 : Aside (w2.ownsRow 0 9 1 v2 (Lib.compact (srt L)).length ((Lib.compact (srt L)).map encStr) ∧ w.grownBy w2 v.ownBlock ∧ v2.ownBlock = v.ownBlock) := ⟨h2, grownBy_trans X1.out g2, o2⟩
       clear h2 g2 o2 hcp)
    | (go_at_call 104; refine hcl.mono ?_; rintro e w3 ⟨rfl, v3, rfl, h3⟩
       have X3 : Aside _ := h3
       clear h3 hcl))
  go_ret
  obtain ⟨rfl, _⟩ := X.out
  exact ⟨_, rfl, turned_of X2.out.1 X2.out.2.1 X2.out.2.2 X3.out⟩
end Go.Proofs.YtmmdgciefehbcaaGreatDoor.Ax
