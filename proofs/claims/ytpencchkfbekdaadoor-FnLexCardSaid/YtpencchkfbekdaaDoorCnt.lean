/- The library's strings.Contains at a text of one byte: its text is the one that the shelf's contract speaks of. No conditions. -/
import Derived.Shelf.Strings.Search3
import Derived.Test.YtpencchkfbekdaaDoorProg
import Derived.Test.YtpencchkfbekdaaDoorWMore
namespace Go.Proofs
open Go.Shelf
def Tryd.containsT_ren : Go.Shelf.Ren := ⟨fun | 144 => 64 | 143 => 68 | 219 => 75 | 217 => 81 | 225 => 82 | 224 => 83 | 267 => 84 | 266 => 87 | 314 => 88 | n => n, fun | 9 => 9 | 4 => 4 | 3 => 3 | 5 => 5 | 46 => 82 | 146 => 101 | 51 => 96 | n => n, fun | 1 => 1 | n => n⟩
theorem Tryd.containsT : Go.Proofs.Lays.n144 Tryd.prog Tryd.containsT_ren := {
  mixed := by kernel_rfl
  f143 := Tryd.func68.trans (congrArg some (by kernel_rfl))
  f144 := Tryd.func64.trans (congrArg some (by kernel_rfl))
  f217 := Tryd.func81.trans (congrArg some (by kernel_rfl))
  f219 := Tryd.func75.trans (congrArg some (by kernel_rfl))
  f224 := Tryd.func83.trans (congrArg some (by kernel_rfl))
  f225 := Tryd.func82.trans (congrArg some (by kernel_rfl))
  f266 := Tryd.func87.trans (congrArg some (by kernel_rfl))
  f267 := Tryd.func84.trans (congrArg some (by kernel_rfl))
  f314 := Tryd.func88.trans (congrArg some (by kernel_rfl))
  t3 := Tryd.underlying3
  a3 := Tryd.isAgg3
  z3 := Tryd.sizeOf3
  v3 := Tryd.zeroValue3
  t4 := Tryd.underlying4
  a4 := Tryd.isAgg4
  z4 := Tryd.sizeOf4
  v4 := Tryd.zeroValue4
  t5 := Tryd.underlying5
  a5 := Tryd.isAgg5
  z5 := Tryd.sizeOf5
  v5 := Tryd.zeroValue5
  t9 := Tryd.underlying9
  a9 := Tryd.isAgg9
  z9 := Tryd.sizeOf9
  v9 := Tryd.zeroValue9
  t46 := Tryd.underlying82
  a46 := Tryd.isAgg82
  z46 := Tryd.sizeOf82
  v46 := Tryd.zeroValue82
  t51 := Tryd.underlying96
  a51 := Tryd.isAgg96
  z51 := Tryd.sizeOf96
  v51 := Tryd.zeroValue96
  t146 := Tryd.underlying101
  a146 := Tryd.isAgg101
  z146 := Tryd.sizeOf101
  v146 := Tryd.zeroValue101
  g1 := by kernel_rfl }
end Go.Proofs
namespace Go.Proofs.YtpencchkfbekdaaDoorW.PrintWords
open Go.RowKit
theorem contains_calls (s p : ByteArray) (w : World) (h : p.size = 1) :
    Calls Tryd.prog 64 #[.string s, .string p] w fun e w' => e = .returned (.bool (decide (0 ≤ Go.Lib.indexByte s.data.toList (p.data.toList.getD 0 0)))) ∧ Drawn0 w w' := by
  obtain ⟨c, rfl⟩ : ∃ c, p = (⟨#[c]⟩ : ByteArray) := by
    obtain ⟨⟨l⟩⟩ := p
    have hl : l.length = 1 := by simpa [ByteArray.size] using h
    match l, hl with
    | [c], _ => exact ⟨c, rfl⟩
  refine (Go.Proofs.Any.strings_Contains_one Go.Proofs.Tryd.containsT s c w).mono ?_
  rintro e w' ⟨rfl, rfl⟩
  exact ⟨rfl, Drawn0.refl _⟩
end Go.Proofs.YtpencchkfbekdaaDoorW.PrintWords
