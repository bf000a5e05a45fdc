/-
  NARROWER THAN 'FOR EVERY INPUT', by the rows' own cells (each row's printed sentence says how): FnExactSameExp: loops · FnExactExpOk: loops · FnExactSameStmt: loops · FnExactStmtOk: loops · FnExactArrAt: loops.
  DERIVED. THE GIVEN ROWS OF THIS SEAT. 7 by the template 'for every input the law returns true; each argument reads behind the call as it read before'; 0 by the template 'total and deterministic' (their statements: YtmmdgciefehbcaaTotals.lean).
  GIVEN WITH THE SEED: the statements are not yours to turn. If you find one false, say at which input.
  Laid BY PROGRAM, IN A SANDBOX (cutbox-rows.mjs): the forced cells as the released guide's own fill.sh prints them over the translation c086f82c755ce41f… (all of the seat's roots in one cut). By AI agents, Wed Nov 11 2026. No macro, syntax, notation, axiom, sorry.
-/
import Derived.Test.YtmmdgciefehbcaaChecked
import GoSem.Claim
import GoSem.ClaimJoined
import GoSem.ClaimMapViews
import Derived.JoinedTies
import Derived.KernelRfl
namespace Go.Proofs.Ytmmdgciefehbcaa
/- THE CELL 'sum', in the pinned program and in every row, IS THE sha256 OF THE DUMP (.gsa) THAT YtmmdgciefehbcaaProg.lean LOADS. Nothing in Lean hashes anything: it is a label: what it is worth is what the hold of that sum in a sandbox is worth. -/
noncomputable def Try.pinned : Pinned := { name := "ytmmdgciefehbcaa", sum := "c086f82c755ce41fd2714aa4fb60decd592a025707b07ef1e98fe4dcb4c96cbb", checked := Try.checked }
namespace Rows
def none {H : Type} : Left H := { results := [], args := [] }

/-- 'laws.FnExactSameExp': WHATEVER THE INPUT: true; the input reads as it did. -/
def fnExactSameExpSpec : ChangeSpec := { name := "fnExactSameExp", fn := fun _ => fun
  | [d1, d2] => { results := [.lit (.bool true)], args := [d1, d2] }
  | _ => none }
def fnExactSameExpRow : OpenClaim := { program := "ytmmdgciefehbcaa", sum := "c086f82c755ce41fd2714aa4fb60decd592a025707b07ef1e98fe4dcb4c96cbb", func := "loop.example/g00476/laws.FnExactSameExp", spec := "fnExactSameExp", unfollowed := true, recurses := true, loops := true, apart := false }
def FnExactSameExpSaid : Prop := fnExactSameExpRow.holds Try.pinned (OpenSpec.ofChange fnExactSameExpSpec)

/-- ITS FALSE NEIGHBOUR: 'it returns false'. Refute it at one input. -/
def fnExactSameExpWrong : ChangeSpec := { name := "fnExactSameExp", fn := fun _ => fun
  | [d1, d2] => { results := [.lit (.bool false)], args := [d1, d2] }
  | _ => none }
def FnExactSameExpWrongFalsely : Prop := fnExactSameExpRow.holds Try.pinned (OpenSpec.ofChange fnExactSameExpWrong)

/-- 'laws.FnExactSameSto': WHATEVER THE INPUT: true; the input reads as it did. -/
def fnExactSameStoSpec : ChangeSpec := { name := "fnExactSameSto", fn := fun _ => fun
  | [d1, d2] => { results := [.lit (.bool true)], args := [d1, d2] }
  | _ => none }
def fnExactSameStoRow : OpenClaim := { program := "ytmmdgciefehbcaa", sum := "c086f82c755ce41fd2714aa4fb60decd592a025707b07ef1e98fe4dcb4c96cbb", func := "loop.example/g00476/laws.FnExactSameSto", spec := "fnExactSameSto", unfollowed := true, recurses := true, apart := false }
def FnExactSameStoSaid : Prop := fnExactSameStoRow.holds Try.pinned (OpenSpec.ofChange fnExactSameStoSpec)

/-- ITS FALSE NEIGHBOUR: 'it returns false'. Refute it at one input. -/
def fnExactSameStoWrong : ChangeSpec := { name := "fnExactSameSto", fn := fun _ => fun
  | [d1, d2] => { results := [.lit (.bool false)], args := [d1, d2] }
  | _ => none }
def FnExactSameStoWrongFalsely : Prop := fnExactSameStoRow.holds Try.pinned (OpenSpec.ofChange fnExactSameStoWrong)

/-- 'laws.FnExactExpOk': WHATEVER THE INPUT: true; the input reads as it did. -/
def fnExactExpOkSpec : ChangeSpec := { name := "fnExactExpOk", fn := fun _ => fun
  | [d] => { results := [.lit (.bool true)], args := [d] }
  | _ => none }
def fnExactExpOkRow : OpenClaim := { program := "ytmmdgciefehbcaa", sum := "c086f82c755ce41fd2714aa4fb60decd592a025707b07ef1e98fe4dcb4c96cbb", func := "loop.example/g00476/laws.FnExactExpOk", spec := "fnExactExpOk", recurses := true, loops := true, apart := false }
def FnExactExpOkSaid : Prop := fnExactExpOkRow.holds Try.pinned (OpenSpec.ofChange fnExactExpOkSpec)

/-- ITS FALSE NEIGHBOUR: 'it returns false'. Refute it at one input. -/
def fnExactExpOkWrong : ChangeSpec := { name := "fnExactExpOk", fn := fun _ => fun
  | [d] => { results := [.lit (.bool false)], args := [d] }
  | _ => none }
def FnExactExpOkWrongFalsely : Prop := fnExactExpOkRow.holds Try.pinned (OpenSpec.ofChange fnExactExpOkWrong)

/-- 'laws.FnExactSameStmt': WHATEVER THE INPUT: true; the input reads as it did. -/
def fnExactSameStmtSpec : ChangeSpec := { name := "fnExactSameStmt", fn := fun _ => fun
  | [d1, d2] => { results := [.lit (.bool true)], args := [d1, d2] }
  | _ => none }
def fnExactSameStmtRow : OpenClaim := { program := "ytmmdgciefehbcaa", sum := "c086f82c755ce41fd2714aa4fb60decd592a025707b07ef1e98fe4dcb4c96cbb", func := "loop.example/g00476/laws.FnExactSameStmt", spec := "fnExactSameStmt", unfollowed := true, recurses := true, loops := true, apart := false }
def FnExactSameStmtSaid : Prop := fnExactSameStmtRow.holds Try.pinned (OpenSpec.ofChange fnExactSameStmtSpec)

/-- ITS FALSE NEIGHBOUR: 'it returns false'. Refute it at one input. -/
def fnExactSameStmtWrong : ChangeSpec := { name := "fnExactSameStmt", fn := fun _ => fun
  | [d1, d2] => { results := [.lit (.bool false)], args := [d1, d2] }
  | _ => none }
def FnExactSameStmtWrongFalsely : Prop := fnExactSameStmtRow.holds Try.pinned (OpenSpec.ofChange fnExactSameStmtWrong)

/-- 'laws.FnExactStmtOk': WHATEVER THE INPUT: true; the input reads as it did. -/
def fnExactStmtOkSpec : ChangeSpec := { name := "fnExactStmtOk", fn := fun _ => fun
  | [d] => { results := [.lit (.bool true)], args := [d] }
  | _ => none }
def fnExactStmtOkRow : OpenClaim := { program := "ytmmdgciefehbcaa", sum := "c086f82c755ce41fd2714aa4fb60decd592a025707b07ef1e98fe4dcb4c96cbb", func := "loop.example/g00476/laws.FnExactStmtOk", spec := "fnExactStmtOk", recurses := true, loops := true, apart := false }
def FnExactStmtOkSaid : Prop := fnExactStmtOkRow.holds Try.pinned (OpenSpec.ofChange fnExactStmtOkSpec)

/-- ITS FALSE NEIGHBOUR: 'it returns false'. Refute it at one input. -/
def fnExactStmtOkWrong : ChangeSpec := { name := "fnExactStmtOk", fn := fun _ => fun
  | [d] => { results := [.lit (.bool false)], args := [d] }
  | _ => none }
def FnExactStmtOkWrongFalsely : Prop := fnExactStmtOkRow.holds Try.pinned (OpenSpec.ofChange fnExactStmtOkWrong)

/-- 'laws.FnExactArrAt': WHATEVER THE INPUT: true; the input reads as it did. -/
def fnExactArrAtSpec : ChangeSpec := { name := "fnExactArrAt", fn := fun _ => fun
  | [d1, d2] => { results := [.lit (.bool true)], args := [d1, d2] }
  | _ => none }
def fnExactArrAtRow : OpenClaim := { program := "ytmmdgciefehbcaa", sum := "c086f82c755ce41fd2714aa4fb60decd592a025707b07ef1e98fe4dcb4c96cbb", func := "loop.example/g00476/laws.FnExactArrAt", spec := "fnExactArrAt", unfollowed := true, recurses := true, loops := true, apart := false }
def FnExactArrAtSaid : Prop := fnExactArrAtRow.holds Try.pinned (OpenSpec.ofChange fnExactArrAtSpec)

/-- ITS FALSE NEIGHBOUR: 'it returns false'. Refute it at one input. -/
def fnExactArrAtWrong : ChangeSpec := { name := "fnExactArrAt", fn := fun _ => fun
  | [d1, d2] => { results := [.lit (.bool false)], args := [d1, d2] }
  | _ => none }
def FnExactArrAtWrongFalsely : Prop := fnExactArrAtRow.holds Try.pinned (OpenSpec.ofChange fnExactArrAtWrong)

/-- 'laws.FnAsts': WHATEVER THE INPUT: true; the input reads as it did. -/
def fnAstsSpec : ChangeSpec := { name := "fnAsts", fn := fun _ => fun
  | [d] => { results := [.lit (.bool true)], args := [d] }
  | _ => none }
def fnAstsRow : OpenClaim := { program := "ytmmdgciefehbcaa", sum := "c086f82c755ce41fd2714aa4fb60decd592a025707b07ef1e98fe4dcb4c96cbb", func := "loop.example/g00476/laws.FnAsts", spec := "fnAsts", unfollowed := true, recurses := true, apart := false }
def FnAstsSaid : Prop := fnAstsRow.holds Try.pinned (OpenSpec.ofChange fnAstsSpec)

/-- ITS FALSE NEIGHBOUR: 'it returns false'. Refute it at one input. -/
def fnAstsWrong : ChangeSpec := { name := "fnAsts", fn := fun _ => fun
  | [d] => { results := [.lit (.bool false)], args := [d] }
  | _ => none }
def FnAstsWrongFalsely : Prop := fnAstsRow.holds Try.pinned (OpenSpec.ofChange fnAstsWrong)

/- THE SECOND FORM. 'bulk': how many values and letters a reading holds, each counted each time it is reached (what is shared counts as often as it is met; a slice's spare places count too). A statement '..UptoSaid' is the law's where the arguments, and the package variables that the reading takes, are together of bulk at most 1048576: NARROWER than '..Said'. Prove '..Said' where nothing that the law and all that it calls make is longer than what came in: it says more and counts as full. Else prove '..UptoSaid'. A law counts once. -/
mutual
def uptoBulk {H : Type} : DataW H → Nat
  | .lit (.string bytes) => bytes.length + 1
  | .lit _ => 1
  | .nil => 1
  | .ptr d => uptoBulk d + 1
  | .slice elems spare => uptoBulkAll elems + uptoBulkAll spare + 1
  | .agg parts => uptoBulkAll parts + 1
  | .iface _ d => uptoBulk d + 1
  | .map entries => uptoBulkEntries entries + 1
  | .held _ => 1
def uptoBulkAll {H : Type} : List (DataW H) → Nat
  | [] => 0
  | d :: r => uptoBulk d + uptoBulkAll r
def uptoBulkEntries {H : Type} : List (Lit × DataW H) → Nat
  | [] => 0
  | x :: r => uptoBulkEntry x + uptoBulkEntries r
def uptoBulkEntry {H : Type} : Lit × DataW H → Nat
  | (.string bytes, d) => bytes.length + uptoBulk d + 1
  | (_, d) => uptoBulk d + 1
 end
def uptoSmall : (H : Type) → List (DataW H) → Bool := fun _ ds => decide (uptoBulkAll ds ≤ 1048576)
def OpenSpec.upto (s : _root_.Go.ChangeSpec) : _root_.Go.OpenSpec := { _root_.Go.OpenSpec.ofChange s with cond := some uptoSmall }

/-- 'laws.FnExactSameExp', WHERE WHAT IT READS IS OF BULK AT MOST 1048576: true; the input reads as it did. -/
def fnExactSameExpUptoRow : OpenClaim := { program := "ytmmdgciefehbcaa", sum := "c086f82c755ce41fd2714aa4fb60decd592a025707b07ef1e98fe4dcb4c96cbb", func := "loop.example/g00476/laws.FnExactSameExp", spec := "fnExactSameExp", unfollowed := true, recurses := true, loops := true, apart := false, narrowed := true }
def FnExactSameExpUptoSaid : Prop := fnExactSameExpUptoRow.holds Try.pinned (OpenSpec.upto fnExactSameExpSpec)

/-- 'laws.FnExactSameSto', WHERE WHAT IT READS IS OF BULK AT MOST 1048576: true; the input reads as it did. -/
def fnExactSameStoUptoRow : OpenClaim := { program := "ytmmdgciefehbcaa", sum := "c086f82c755ce41fd2714aa4fb60decd592a025707b07ef1e98fe4dcb4c96cbb", func := "loop.example/g00476/laws.FnExactSameSto", spec := "fnExactSameSto", unfollowed := true, recurses := true, apart := false, narrowed := true }
def FnExactSameStoUptoSaid : Prop := fnExactSameStoUptoRow.holds Try.pinned (OpenSpec.upto fnExactSameStoSpec)

/-- 'laws.FnExactExpOk', WHERE WHAT IT READS IS OF BULK AT MOST 1048576: true; the input reads as it did. -/
def fnExactExpOkUptoRow : OpenClaim := { program := "ytmmdgciefehbcaa", sum := "c086f82c755ce41fd2714aa4fb60decd592a025707b07ef1e98fe4dcb4c96cbb", func := "loop.example/g00476/laws.FnExactExpOk", spec := "fnExactExpOk", recurses := true, loops := true, apart := false, narrowed := true }
def FnExactExpOkUptoSaid : Prop := fnExactExpOkUptoRow.holds Try.pinned (OpenSpec.upto fnExactExpOkSpec)

/-- 'laws.FnExactSameStmt', WHERE WHAT IT READS IS OF BULK AT MOST 1048576: true; the input reads as it did. -/
def fnExactSameStmtUptoRow : OpenClaim := { program := "ytmmdgciefehbcaa", sum := "c086f82c755ce41fd2714aa4fb60decd592a025707b07ef1e98fe4dcb4c96cbb", func := "loop.example/g00476/laws.FnExactSameStmt", spec := "fnExactSameStmt", unfollowed := true, recurses := true, loops := true, apart := false, narrowed := true }
def FnExactSameStmtUptoSaid : Prop := fnExactSameStmtUptoRow.holds Try.pinned (OpenSpec.upto fnExactSameStmtSpec)

/-- 'laws.FnExactStmtOk', WHERE WHAT IT READS IS OF BULK AT MOST 1048576: true; the input reads as it did. -/
def fnExactStmtOkUptoRow : OpenClaim := { program := "ytmmdgciefehbcaa", sum := "c086f82c755ce41fd2714aa4fb60decd592a025707b07ef1e98fe4dcb4c96cbb", func := "loop.example/g00476/laws.FnExactStmtOk", spec := "fnExactStmtOk", recurses := true, loops := true, apart := false, narrowed := true }
def FnExactStmtOkUptoSaid : Prop := fnExactStmtOkUptoRow.holds Try.pinned (OpenSpec.upto fnExactStmtOkSpec)

/-- 'laws.FnExactArrAt', WHERE WHAT IT READS IS OF BULK AT MOST 1048576: true; the input reads as it did. -/
def fnExactArrAtUptoRow : OpenClaim := { program := "ytmmdgciefehbcaa", sum := "c086f82c755ce41fd2714aa4fb60decd592a025707b07ef1e98fe4dcb4c96cbb", func := "loop.example/g00476/laws.FnExactArrAt", spec := "fnExactArrAt", unfollowed := true, recurses := true, loops := true, apart := false, narrowed := true }
def FnExactArrAtUptoSaid : Prop := fnExactArrAtUptoRow.holds Try.pinned (OpenSpec.upto fnExactArrAtSpec)

/-- 'laws.FnAsts', WHERE WHAT IT READS IS OF BULK AT MOST 1048576: true; the input reads as it did. -/
def fnAstsUptoRow : OpenClaim := { program := "ytmmdgciefehbcaa", sum := "c086f82c755ce41fd2714aa4fb60decd592a025707b07ef1e98fe4dcb4c96cbb", func := "loop.example/g00476/laws.FnAsts", spec := "fnAsts", unfollowed := true, recurses := true, apart := false, narrowed := true }
def FnAstsUptoSaid : Prop := fnAstsUptoRow.holds Try.pinned (OpenSpec.upto fnAstsSpec)

end Rows
end Go.Proofs.Ytmmdgciefehbcaa
