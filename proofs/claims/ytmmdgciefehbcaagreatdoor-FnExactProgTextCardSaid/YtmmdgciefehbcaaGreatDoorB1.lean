/- Contracts of functions that the claim reaches, over data without addresses, and what follows of them (text B1). No conditions beside those that each theorem names. -/
import Derived.Test.YtmmdgciefehbcaaGreatDoorBil
import Derived.Lib.Builder
import Derived.Shelf.RegionOpenPlain
import Derived.Lib.Walk
import Derived.WalkKit
import Derived.Laws.Externs
import Derived.Laws.IdiomCopy
import Derived.Test.YtmmdgciefehbcaaGreatDoorP1
set_option linter.unusedVariables false
namespace Go.Proofs.YtmmdgciefehbcaaGreatDoor.Ax
open Go.RowKit
theorem bj : ∃ j, Go.Proofs.Tryz.prog.info? 47 = some j ∧ j.size = 2 := by
  have h : (Go.Proofs.Tryz.prog.info? 47).map (·.size) = some 2 := by kernel_rfl
  exact Option.map_eq_some_iff.1 h
theorem bl : liesAt Go.Proofs.Tryz.prog Go.Proofs.Tryz.prog.depth 47 (2 / Go.Proofs.Tryz.prog.cellsOf 47) 0 47 1 = true := by kernel_rfl
set_option maxHeartbeats 1000000 in
set_option maxRecDepth 100000 in
theorem copyUsed (b : Nat) (w : World) (h0 : w.cell? ⟨b, 0, none⟩ = some (.pointer (some ⟨b, 0, none⟩))) :
    Calls Go.Proofs.Tryz.prog 41 #[.pointer (some ⟨b, 0, none⟩)] w fun e w' => e = .returned (.tuple #[]) ∧ w' = w := by
  obtain ⟨j, hj, _⟩ := bj
  go_enter Go.Proofs.Tryz.func41, Go.Proofs.Tryz.ntmps41
  go_wp2
  rw [Lib.run_neq_ptr_same w _ Go.Proofs.Tryz.underlying44 hj]
  go_wp2
  go_end0
  exact ⟨rfl, rfl⟩
set_option maxHeartbeats 1000000 in
set_option maxRecDepth 100000 in
theorem copyFresh (b : Nat) (w : World) (h0 : w.cell? ⟨b, 0, none⟩ = some (.pointer none)) (hsh : w.shape? b = some (47, 2)) (hfz : w.frozen? ⟨b, 0, none⟩ = false) :
    Calls Go.Proofs.Tryz.prog 41 #[.pointer (some ⟨b, 0, none⟩)] w fun e w' => e = .returned (.tuple #[]) ∧ w' = w.setCell ⟨b, 0, none⟩ (.pointer (some ⟨b, 0, none⟩)) := by
  obtain ⟨j, hj, hjs⟩ := bj
  go_enter Go.Proofs.Tryz.func41, Go.Proofs.Tryz.ntmps41
  go_wp2
  rw [Lib.run_to_unsafe w ⟨b, 0, none⟩ Go.Proofs.Tryz.underlying44 Go.Proofs.Tryz.underlying98 hj (by rw [hjs]; decide) hsh (Nat.zero_lt_succ 1)]
  simp only [Result.andThen]
  rw [Oper.upon_value]
  go_wp2
  rw [run_callFunc_extern Go.Proofs.Tryz.func69 (by kernel_rfl) (by kernel_rfl) (by kernel_rfl) (e := Extern.AbiNoEscape.same) (by kernel_rfl)]
  rw [Lib.run_noEscape]
  simp only [Result.andThen]
  rw [Oper.upon_value]
  go_wp2
  rw [Lib.run_from_unsafe w ⟨b, 0, none⟩ Go.Proofs.Tryz.underlying98 Go.Proofs.Tryz.underlying44 hj hsh bl]
  simp only [Result.andThen]
  rw [Oper.upon_value]
  go_wp2
  go_end0
  exact ⟨rfl, rfl⟩
theorem copyCheck_c (w : World) (b : Nat) (p v : Value) (h : w.heap[b]? = some (.cells #[p, v] 47 (0, 0))) (hp : p = .pointer none ∨ p = .pointer (some ⟨b, 0, none⟩)) :
    Calls Go.Proofs.Tryz.prog 41 #[.pointer (some ⟨b, 0, none⟩)] w fun e w' => e = .returned (.tuple #[]) ∧ (w' = w ∨ w' = w.setCell ⟨b, 0, none⟩ (.pointer (some ⟨b, 0, none⟩))) := by
  rcases hp with rfl | rfl
  · exact (copyFresh b w (bld_cells h).1 (by simp [World.shape?, h]) (by simp [World.frozen?, h])).mono fun _ _ ⟨h1, h2⟩ => ⟨h1, .inr h2⟩
  · exact (copyUsed b w (bld_cells h).1).mono fun _ _ ⟨h1, h2⟩ => ⟨h1, .inl h2⟩
end Go.Proofs.YtmmdgciefehbcaaGreatDoor.Ax
