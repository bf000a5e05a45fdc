/- The library's strings.Join: its text is the one that the shelf's contract speaks of; the contract at a read row of strings. No conditions. -/
import Derived.Shelf.Strings.OnBuilder
import Derived.Test.YtpencchkfbekdaaDoorProg
import Derived.Test.YtpencchkfbekdaaDoorWMore
namespace Go.Proofs
open Go.Shelf
def Tryd.joinT_ren : Go.Shelf.Ren := ⟨fun | 156 => 38 | 165 => 55 | 166 => 56 | 169 => 57 | 240 => 66 | 241 => 67 | 276 => 73 | 277 => 74 | n => n, fun | 31 => 49 | 9 => 9 | 3 => 3 | 4 => 4 | 0 => 0 | 20 => 20 | 72 => 66 | 76 => 70 | 70 => 64 | 37 => 34 | 75 => 69 | 127 => 81 | 164 => 90 | 5 => 5 | 80 => 72 | n => n, fun | n => n⟩
theorem Tryd.joinT : Go.Proofs.Lays.n156 Tryd.prog Tryd.joinT_ren := {
  mixed := by kernel_rfl
  f156 := Tryd.func38.trans (congrArg some (by kernel_rfl))
  f165 := Tryd.func55.trans (congrArg some (by kernel_rfl))
  f166 := Tryd.func56.trans (congrArg some (by kernel_rfl))
  f169 := Tryd.func57.trans (congrArg some (by kernel_rfl))
  f240 := Tryd.func66.trans (congrArg some (by kernel_rfl))
  f241 := Tryd.func67.trans (congrArg some (by kernel_rfl))
  f276 := Tryd.func73.trans (congrArg some (by kernel_rfl))
  f277 := Tryd.func74.trans (congrArg some (by kernel_rfl))
  t0 := Tryd.underlying0
  a0 := Tryd.isAgg0
  z0 := Tryd.sizeOf0
  v0 := Tryd.zeroValue0
  t3 := Tryd.underlying3
  a3 := Tryd.isAgg3
  z3 := Tryd.sizeOf3
  v3 := Tryd.zeroValue3
  t4 := Tryd.underlying4
  a4 := Tryd.isAgg4
  z4 := Tryd.sizeOf4
  v4 := Tryd.zeroValue4
  t9 := Tryd.underlying9
  a9 := Tryd.isAgg9
  z9 := Tryd.sizeOf9
  v9 := Tryd.zeroValue9
  t20 := Tryd.underlying20
  a20 := Tryd.isAgg20
  z20 := Tryd.sizeOf20
  v20 := Tryd.zeroValue20
  t31 := Tryd.underlying49
  a31 := Tryd.isAgg49
  z31 := Tryd.sizeOf49
  v31 := Tryd.zeroValue49
  t37 := Tryd.underlying34
  a37 := Tryd.isAgg34
  z37 := Tryd.sizeOf34
  v37 := Tryd.zeroValue34
  t70 := Tryd.underlying64
  a70 := Tryd.isAgg64
  z70 := Tryd.sizeOf64
  v70 := Tryd.zeroValue64
  t72 := Tryd.underlying66
  a72 := Tryd.isAgg66
  z72 := Tryd.sizeOf66
  v72 := Tryd.zeroValue66
  t75 := Tryd.underlying69
  a75 := Tryd.isAgg69
  z75 := Tryd.sizeOf69
  v75 := Tryd.zeroValue69
  t76 := Tryd.underlying70
  a76 := Tryd.isAgg70
  z76 := Tryd.sizeOf70
  v76 := Tryd.zeroValue70
  t127 := Tryd.underlying81
  a127 := Tryd.isAgg81
  z127 := Tryd.sizeOf81
  v127 := Tryd.zeroValue81
  t164 := Tryd.underlying90
  a164 := Tryd.isAgg90
  z164 := Tryd.sizeOf90
  v164 := Tryd.zeroValue90 }
theorem Tryd.joinX : Builder.Extra Tryd.prog Tryd.joinT_ren := {
  sizeBuilder := by kernel_rfl
  liesBuilder := by kernel_rfl
  t5 := Tryd.underlying5
  a5 := Tryd.isAgg5
  z5 := Tryd.sizeOf5
  v5 := Tryd.zeroValue5
  infoByte := by kernel_rfl
  cellsByte := by kernel_rfl
  sizeByte := by kernel_rfl
  neB5 := by decide }
end Go.Proofs
namespace Go.Proofs.YtpencchkfbekdaaDoorW.PrintWords
open Go.RowKit
theorem join_calls (A : Option Addr) (c : Nat) (xs : List ByteArray) (sep : ByteArray) (w : World) (h : Kd.C Kd.string w A xs.length xs) (hc : xs.length ≤ c)
    (hlen : (Go.Lib.join (xs.map (·.data.toList)) sep.data.toList).length ≤ 140737488355328) (hN : xs.length ≤ 140737488355328) :
    Calls Tryd.prog 38 #[.slice A xs.length c, .string sep] w fun e w' => e = .returned (.string ⟨(Go.Lib.join (xs.map (·.data.toList)) sep.data.toList).toArray⟩) ∧ Below w.heap.size w w' := by
  cases hx : xs with
  | nil =>
    refine (Go.Proofs.Any.strings_Join_none Go.Proofs.Tryd.joinT Go.Proofs.Tryd.joinX A c sep w).mono ?_
    rintro e w' ⟨rfl, rfl⟩
    exact ⟨rfl, Below.refl _ _⟩
  | cons x r =>
    obtain ⟨ad, rfl, hcell⟩ := h.2.2 (by rw [hx]; simp)
    have cell : ∀ (j : Nat) y, xs[j]? = some y → w.cell? (ad.add j) = some (.string y) := fun j y hy => by
      obtain ⟨cs, hl, hk, hu⟩ := hcell j y hy
      have hk' : cs = [.string y] := hk
      have := hu 0 (.string y) (by rw [hk']; rfl)
      have e1 : j * Kd.string.sz + 0 = j := by
        have : Kd.string.sz = 1 := rfl
        rw [this]
        omega
      rwa [e1] at this
    have c0 := cell 0 x (by rw [hx]; rfl)
    obtain ⟨bk, o, spot⟩ := ad
    have hspot : spot = none := by simpa [Addr.add] using World.cell?_spot c0
    subst hspot
    have hbk : bk < w.heap.size := World.block_lt_of_cell? w _ c0
    have := Go.Proofs.Any.strings_Join Go.Proofs.Tryd.joinT Go.Proofs.Tryd.joinX bk o c xs sep w (fun j y hy => by
      have q := cell j y hy
      by_cases e : j = 0
      · subst e
        simpa [Addr.add] using q
      · simpa [Addr.add, e] using q) hbk hN hc hlen
    rw [hx] at this
    exact this
end Go.Proofs.YtpencchkfbekdaaDoorW.PrintWords
