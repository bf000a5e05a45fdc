/-
  No cell of these rows narrows 'for every input' (looked for: loops, veiled, ifaces, maps, wideKeys, modest, calm, conditions, laid).
  DERIVED. THE GIVEN ROWS OF THIS SEAT. 6 by the template 'for every input the law returns true; each argument reads behind the call as it read before'; 0 by the template 'total and deterministic' (their statements: YtelklalagebdgaaTotals.lean).
  GIVEN WITH THE SEED: the statements are not yours to turn. If you find one false, say at which input.
  Laid BY PROGRAM, IN A SANDBOX (cutbox-rows.mjs): the forced cells as the released guide's own fill.sh prints them over the translation d86cabab85d7aedd… (all of the seat's roots in one cut). By AI agents, Wed Nov 11 2026. No macro, syntax, notation, axiom, sorry.
-/
import Derived.Test.YtelklalagebdgaaChecked
import GoSem.Claim
import GoSem.ClaimJoined
import GoSem.ClaimMapViews
import Derived.JoinedTies
import Derived.KernelRfl
namespace Go.Proofs.Ytelklalagebdgaa
/- THE CELL 'sum', in the pinned program and in every row, IS THE sha256 OF THE DUMP (.gsa) THAT YtelklalagebdgaaProg.lean LOADS. Nothing in Lean hashes anything: it is a label: what it is worth is what the hold of that sum in a sandbox is worth. -/
noncomputable def Try.pinned : Pinned := { name := "ytelklalagebdgaa", sum := "d86cabab85d7aeddd57cbd3f48bdbf354bb0545806f220e19c0d961a7470dfc0", checked := Try.checked }
namespace Rows
def none {H : Type} : Left H := { results := [], args := [] }

/-- 'laws.FnBoxes': WHATEVER THE INPUT: true; the input reads as it did. -/
def fnBoxesSpec : ChangeSpec := { name := "fnBoxes", fn := fun _ => fun
  | [d] => { results := [.lit (.bool true)], args := [d] }
  | _ => none }
def fnBoxesRow : OpenClaim := { program := "ytelklalagebdgaa", sum := "d86cabab85d7aeddd57cbd3f48bdbf354bb0545806f220e19c0d961a7470dfc0", func := "loop.example/g00476/laws.FnBoxes", spec := "fnBoxes", unfollowed := true, recurses := true, apart := false }
def FnBoxesSaid : Prop := fnBoxesRow.holds Try.pinned (OpenSpec.ofChange fnBoxesSpec)

/-- ITS FALSE NEIGHBOUR: 'it returns false'. Refute it at one input. -/
def fnBoxesWrong : ChangeSpec := { name := "fnBoxes", fn := fun _ => fun
  | [d] => { results := [.lit (.bool false)], args := [d] }
  | _ => none }
def FnBoxesWrongFalsely : Prop := fnBoxesRow.holds Try.pinned (OpenSpec.ofChange fnBoxesWrong)

/-- 'laws.FnDists': WHATEVER THE INPUT: true; the input reads as it did. -/
def fnDistsSpec : ChangeSpec := { name := "fnDists", fn := fun _ => fun
  | [d] => { results := [.lit (.bool true)], args := [d] }
  | _ => none }
def fnDistsRow : OpenClaim := { program := "ytelklalagebdgaa", sum := "d86cabab85d7aeddd57cbd3f48bdbf354bb0545806f220e19c0d961a7470dfc0", func := "loop.example/g00476/laws.FnDists", spec := "fnDists", unfollowed := true, recurses := true, apart := false }
def FnDistsSaid : Prop := fnDistsRow.holds Try.pinned (OpenSpec.ofChange fnDistsSpec)

/-- ITS FALSE NEIGHBOUR: 'it returns false'. Refute it at one input. -/
def fnDistsWrong : ChangeSpec := { name := "fnDists", fn := fun _ => fun
  | [d] => { results := [.lit (.bool false)], args := [d] }
  | _ => none }
def FnDistsWrongFalsely : Prop := fnDistsRow.holds Try.pinned (OpenSpec.ofChange fnDistsWrong)

/-- 'laws.FnBoxesBent': WHATEVER THE INPUT: true; the input reads as it did. -/
def fnBoxesBentSpec : ChangeSpec := { name := "fnBoxesBent", fn := fun _ => fun
  | [d] => { results := [.lit (.bool true)], args := [d] }
  | _ => none }
def fnBoxesBentRow : OpenClaim := { program := "ytelklalagebdgaa", sum := "d86cabab85d7aeddd57cbd3f48bdbf354bb0545806f220e19c0d961a7470dfc0", func := "loop.example/g00476/laws.FnBoxesBent", spec := "fnBoxesBent", unfollowed := true, recurses := true, apart := false }
def FnBoxesBentSaid : Prop := fnBoxesBentRow.holds Try.pinned (OpenSpec.ofChange fnBoxesBentSpec)

/-- ITS FALSE NEIGHBOUR: 'it returns false'. Refute it at one input. -/
def fnBoxesBentWrong : ChangeSpec := { name := "fnBoxesBent", fn := fun _ => fun
  | [d] => { results := [.lit (.bool false)], args := [d] }
  | _ => none }
def FnBoxesBentWrongFalsely : Prop := fnBoxesBentRow.holds Try.pinned (OpenSpec.ofChange fnBoxesBentWrong)

/-- 'laws.FnMeets': WHATEVER THE INPUT: true; the input reads as it did. -/
def fnMeetsSpec : ChangeSpec := { name := "fnMeets", fn := fun _ => fun
  | [d] => { results := [.lit (.bool true)], args := [d] }
  | _ => none }
def fnMeetsRow : OpenClaim := { program := "ytelklalagebdgaa", sum := "d86cabab85d7aeddd57cbd3f48bdbf354bb0545806f220e19c0d961a7470dfc0", func := "loop.example/g00476/laws.FnMeets", spec := "fnMeets", unfollowed := true, recurses := true, apart := false }
def FnMeetsSaid : Prop := fnMeetsRow.holds Try.pinned (OpenSpec.ofChange fnMeetsSpec)

/-- ITS FALSE NEIGHBOUR: 'it returns false'. Refute it at one input. -/
def fnMeetsWrong : ChangeSpec := { name := "fnMeets", fn := fun _ => fun
  | [d] => { results := [.lit (.bool false)], args := [d] }
  | _ => none }
def FnMeetsWrongFalsely : Prop := fnMeetsRow.holds Try.pinned (OpenSpec.ofChange fnMeetsWrong)

/-- 'laws.FnAffs': WHATEVER THE INPUT: true; the input reads as it did. -/
def fnAffsSpec : ChangeSpec := { name := "fnAffs", fn := fun _ => fun
  | [d] => { results := [.lit (.bool true)], args := [d] }
  | _ => none }
def fnAffsRow : OpenClaim := { program := "ytelklalagebdgaa", sum := "d86cabab85d7aeddd57cbd3f48bdbf354bb0545806f220e19c0d961a7470dfc0", func := "loop.example/g00476/laws.FnAffs", spec := "fnAffs", unfollowed := true, recurses := true, apart := false }
def FnAffsSaid : Prop := fnAffsRow.holds Try.pinned (OpenSpec.ofChange fnAffsSpec)

/-- ITS FALSE NEIGHBOUR: 'it returns false'. Refute it at one input. -/
def fnAffsWrong : ChangeSpec := { name := "fnAffs", fn := fun _ => fun
  | [d] => { results := [.lit (.bool false)], args := [d] }
  | _ => none }
def FnAffsWrongFalsely : Prop := fnAffsRow.holds Try.pinned (OpenSpec.ofChange fnAffsWrong)

/-- 'laws.FnAffsBent': WHATEVER THE INPUT: true; the input reads as it did. -/
def fnAffsBentSpec : ChangeSpec := { name := "fnAffsBent", fn := fun _ => fun
  | [d] => { results := [.lit (.bool true)], args := [d] }
  | _ => none }
def fnAffsBentRow : OpenClaim := { program := "ytelklalagebdgaa", sum := "d86cabab85d7aeddd57cbd3f48bdbf354bb0545806f220e19c0d961a7470dfc0", func := "loop.example/g00476/laws.FnAffsBent", spec := "fnAffsBent", unfollowed := true, recurses := true, apart := false }
def FnAffsBentSaid : Prop := fnAffsBentRow.holds Try.pinned (OpenSpec.ofChange fnAffsBentSpec)

/-- ITS FALSE NEIGHBOUR: 'it returns false'. Refute it at one input. -/
def fnAffsBentWrong : ChangeSpec := { name := "fnAffsBent", fn := fun _ => fun
  | [d] => { results := [.lit (.bool false)], args := [d] }
  | _ => none }
def FnAffsBentWrongFalsely : Prop := fnAffsBentRow.holds Try.pinned (OpenSpec.ofChange fnAffsBentWrong)

/- THE SECOND FORM. 'bulk': how many values and letters a reading holds, each counted each time it is reached (what is shared counts as often as it is met; a slice's spare places count too). A statement '..UptoSaid' is the law's where the arguments, and the package variables that the reading takes, are together of bulk at most 1048576: NARROWER than '..Said'. Prove '..Said' where nothing that the law and all that it calls make is longer than what came in: it says more and counts as full. Else prove '..UptoSaid'. A law counts once. -/
mutual
def uptoBulk {H : Type} : DataW H → Nat
  | .lit (.string bytes) => bytes.length + 1
  | .lit _ => 1
  | .nil => 1
  | .ptr d => uptoBulk d + 1
  | .slice elems spare => uptoBulkAll elems + uptoBulkAll spare + 1
  | .agg parts => uptoBulkAll parts + 1
  | .iface _ d => uptoBulk d + 1
  | .map entries => uptoBulkEntries entries + 1
  | .held _ => 1
def uptoBulkAll {H : Type} : List (DataW H) → Nat
  | [] => 0
  | d :: r => uptoBulk d + uptoBulkAll r
def uptoBulkEntries {H : Type} : List (Lit × DataW H) → Nat
  | [] => 0
  | x :: r => uptoBulkEntry x + uptoBulkEntries r
def uptoBulkEntry {H : Type} : Lit × DataW H → Nat
  | (.string bytes, d) => bytes.length + uptoBulk d + 1
  | (_, d) => uptoBulk d + 1
 end
def uptoSmall : (H : Type) → List (DataW H) → Bool := fun _ ds => decide (uptoBulkAll ds ≤ 1048576)
def OpenSpec.upto (s : _root_.Go.ChangeSpec) : _root_.Go.OpenSpec := { _root_.Go.OpenSpec.ofChange s with cond := some uptoSmall }

/-- 'laws.FnBoxes', WHERE WHAT IT READS IS OF BULK AT MOST 1048576: true; the input reads as it did. -/
def fnBoxesUptoRow : OpenClaim := { program := "ytelklalagebdgaa", sum := "d86cabab85d7aeddd57cbd3f48bdbf354bb0545806f220e19c0d961a7470dfc0", func := "loop.example/g00476/laws.FnBoxes", spec := "fnBoxes", unfollowed := true, recurses := true, apart := false, narrowed := true }
def FnBoxesUptoSaid : Prop := fnBoxesUptoRow.holds Try.pinned (OpenSpec.upto fnBoxesSpec)

/-- 'laws.FnDists', WHERE WHAT IT READS IS OF BULK AT MOST 1048576: true; the input reads as it did. -/
def fnDistsUptoRow : OpenClaim := { program := "ytelklalagebdgaa", sum := "d86cabab85d7aeddd57cbd3f48bdbf354bb0545806f220e19c0d961a7470dfc0", func := "loop.example/g00476/laws.FnDists", spec := "fnDists", unfollowed := true, recurses := true, apart := false, narrowed := true }
def FnDistsUptoSaid : Prop := fnDistsUptoRow.holds Try.pinned (OpenSpec.upto fnDistsSpec)

/-- 'laws.FnBoxesBent', WHERE WHAT IT READS IS OF BULK AT MOST 1048576: true; the input reads as it did. -/
def fnBoxesBentUptoRow : OpenClaim := { program := "ytelklalagebdgaa", sum := "d86cabab85d7aeddd57cbd3f48bdbf354bb0545806f220e19c0d961a7470dfc0", func := "loop.example/g00476/laws.FnBoxesBent", spec := "fnBoxesBent", unfollowed := true, recurses := true, apart := false, narrowed := true }
def FnBoxesBentUptoSaid : Prop := fnBoxesBentUptoRow.holds Try.pinned (OpenSpec.upto fnBoxesBentSpec)

/-- 'laws.FnMeets', WHERE WHAT IT READS IS OF BULK AT MOST 1048576: true; the input reads as it did. -/
def fnMeetsUptoRow : OpenClaim := { program := "ytelklalagebdgaa", sum := "d86cabab85d7aeddd57cbd3f48bdbf354bb0545806f220e19c0d961a7470dfc0", func := "loop.example/g00476/laws.FnMeets", spec := "fnMeets", unfollowed := true, recurses := true, apart := false, narrowed := true }
def FnMeetsUptoSaid : Prop := fnMeetsUptoRow.holds Try.pinned (OpenSpec.upto fnMeetsSpec)

/-- 'laws.FnAffs', WHERE WHAT IT READS IS OF BULK AT MOST 1048576: true; the input reads as it did. -/
def fnAffsUptoRow : OpenClaim := { program := "ytelklalagebdgaa", sum := "d86cabab85d7aeddd57cbd3f48bdbf354bb0545806f220e19c0d961a7470dfc0", func := "loop.example/g00476/laws.FnAffs", spec := "fnAffs", unfollowed := true, recurses := true, apart := false, narrowed := true }
def FnAffsUptoSaid : Prop := fnAffsUptoRow.holds Try.pinned (OpenSpec.upto fnAffsSpec)

/-- 'laws.FnAffsBent', WHERE WHAT IT READS IS OF BULK AT MOST 1048576: true; the input reads as it did. -/
def fnAffsBentUptoRow : OpenClaim := { program := "ytelklalagebdgaa", sum := "d86cabab85d7aeddd57cbd3f48bdbf354bb0545806f220e19c0d961a7470dfc0", func := "loop.example/g00476/laws.FnAffsBent", spec := "fnAffsBent", unfollowed := true, recurses := true, apart := false, narrowed := true }
def FnAffsBentUptoSaid : Prop := fnAffsBentUptoRow.holds Try.pinned (OpenSpec.upto fnAffsBentSpec)

end Rows
end Go.Proofs.Ytelklalagebdgaa
