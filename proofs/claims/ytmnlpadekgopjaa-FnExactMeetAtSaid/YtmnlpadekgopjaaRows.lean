/-
  No cell of these rows narrows 'for every input' (looked for: loops, veiled, ifaces, maps, wideKeys, modest, calm, conditions, laid).
  DERIVED. THE GIVEN ROWS OF THIS SEAT. 9 by the template 'for every input the law returns true; each argument reads behind the call as it read before'; 0 by the template 'total and deterministic' (their statements: YtmnlpadekgopjaaTotals.lean).
  GIVEN WITH THE SEED: the statements are not yours to turn. If you find one false, say at which input.
  Laid BY PROGRAM, IN A SANDBOX (cutbox-rows.mjs): the forced cells as the released guide's own fill.sh prints them over the translation 6be2bc790daa179f… (all of the seat's roots in one cut). By AI agents, Wed Nov 11 2026. No macro, syntax, notation, axiom, sorry.
-/
import Derived.Test.YtmnlpadekgopjaaChecked
import GoSem.Claim
import GoSem.ClaimJoined
import GoSem.ClaimMapViews
import Derived.JoinedTies
import Derived.KernelRfl
namespace Go.Proofs.Ytmnlpadekgopjaa
/- THE CELL 'sum', in the pinned program and in every row, IS THE sha256 OF THE DUMP (.gsa) THAT YtmnlpadekgopjaaProg.lean LOADS. Nothing in Lean hashes anything: it is a label: what it is worth is what the hold of that sum in a sandbox is worth. -/
noncomputable def Try.pinned : Pinned := { name := "ytmnlpadekgopjaa", sum := "6be2bc790daa179fb110bba493d349f901f622ace1397526bb1d8d867e437302", checked := Try.checked }
namespace Rows
def none {H : Type} : Left H := { results := [], args := [] }

/-- 'laws.FnExactRounds': WHATEVER THE INPUT: true; the input reads as it did. -/
def fnExactRoundsSpec : ChangeSpec := { name := "fnExactRounds", fn := fun _ => fun
  | [d] => { results := [.lit (.bool true)], args := [d] }
  | _ => none }
def fnExactRoundsRow : OpenClaim := { program := "ytmnlpadekgopjaa", sum := "6be2bc790daa179fb110bba493d349f901f622ace1397526bb1d8d867e437302", func := "loop.example/g00476/laws.FnExactRounds", spec := "fnExactRounds", unfollowed := true, recurses := true, apart := false }
def FnExactRoundsSaid : Prop := fnExactRoundsRow.holds Try.pinned (OpenSpec.ofChange fnExactRoundsSpec)

/-- ITS FALSE NEIGHBOUR: 'it returns false'. Refute it at one input. -/
def fnExactRoundsWrong : ChangeSpec := { name := "fnExactRounds", fn := fun _ => fun
  | [d] => { results := [.lit (.bool false)], args := [d] }
  | _ => none }
def FnExactRoundsWrongFalsely : Prop := fnExactRoundsRow.holds Try.pinned (OpenSpec.ofChange fnExactRoundsWrong)

/-- 'laws.FnExactLeast': WHATEVER THE INPUT: true; the input reads as it did. -/
def fnExactLeastSpec : ChangeSpec := { name := "fnExactLeast", fn := fun _ => fun
  | [d1, d2] => { results := [.lit (.bool true)], args := [d1, d2] }
  | _ => none }
def fnExactLeastRow : OpenClaim := { program := "ytmnlpadekgopjaa", sum := "6be2bc790daa179fb110bba493d349f901f622ace1397526bb1d8d867e437302", func := "loop.example/g00476/laws.FnExactLeast", spec := "fnExactLeast", unfollowed := true, recurses := true, apart := false }
def FnExactLeastSaid : Prop := fnExactLeastRow.holds Try.pinned (OpenSpec.ofChange fnExactLeastSpec)

/-- ITS FALSE NEIGHBOUR: 'it returns false'. Refute it at one input. -/
def fnExactLeastWrong : ChangeSpec := { name := "fnExactLeast", fn := fun _ => fun
  | [d1, d2] => { results := [.lit (.bool false)], args := [d1, d2] }
  | _ => none }
def FnExactLeastWrongFalsely : Prop := fnExactLeastRow.holds Try.pinned (OpenSpec.ofChange fnExactLeastWrong)

/-- 'laws.FnExactMost': WHATEVER THE INPUT: true; the input reads as it did. -/
def fnExactMostSpec : ChangeSpec := { name := "fnExactMost", fn := fun _ => fun
  | [d1, d2] => { results := [.lit (.bool true)], args := [d1, d2] }
  | _ => none }
def fnExactMostRow : OpenClaim := { program := "ytmnlpadekgopjaa", sum := "6be2bc790daa179fb110bba493d349f901f622ace1397526bb1d8d867e437302", func := "loop.example/g00476/laws.FnExactMost", spec := "fnExactMost", unfollowed := true, recurses := true, apart := false }
def FnExactMostSaid : Prop := fnExactMostRow.holds Try.pinned (OpenSpec.ofChange fnExactMostSpec)

/-- ITS FALSE NEIGHBOUR: 'it returns false'. Refute it at one input. -/
def fnExactMostWrong : ChangeSpec := { name := "fnExactMost", fn := fun _ => fun
  | [d1, d2] => { results := [.lit (.bool false)], args := [d1, d2] }
  | _ => none }
def FnExactMostWrongFalsely : Prop := fnExactMostRow.holds Try.pinned (OpenSpec.ofChange fnExactMostWrong)

/-- 'laws.FnExactInArr': WHATEVER THE INPUT: true; the input reads as it did. -/
def fnExactInArrSpec : ChangeSpec := { name := "fnExactInArr", fn := fun _ => fun
  | [d1, d2, d3] => { results := [.lit (.bool true)], args := [d1, d2, d3] }
  | _ => none }
def fnExactInArrRow : OpenClaim := { program := "ytmnlpadekgopjaa", sum := "6be2bc790daa179fb110bba493d349f901f622ace1397526bb1d8d867e437302", func := "loop.example/g00476/laws.FnExactInArr", spec := "fnExactInArr", unfollowed := true, recurses := true, apart := false }
def FnExactInArrSaid : Prop := fnExactInArrRow.holds Try.pinned (OpenSpec.ofChange fnExactInArrSpec)

/-- ITS FALSE NEIGHBOUR: 'it returns false'. Refute it at one input. -/
def fnExactInArrWrong : ChangeSpec := { name := "fnExactInArr", fn := fun _ => fun
  | [d1, d2, d3] => { results := [.lit (.bool false)], args := [d1, d2, d3] }
  | _ => none }
def FnExactInArrWrongFalsely : Prop := fnExactInArrRow.holds Try.pinned (OpenSpec.ofChange fnExactInArrWrong)

/-- 'laws.FnExactRngMeet': WHATEVER THE INPUT: true; the input reads as it did. -/
def fnExactRngMeetSpec : ChangeSpec := { name := "fnExactRngMeet", fn := fun _ => fun
  | [d1, d2, d3] => { results := [.lit (.bool true)], args := [d1, d2, d3] }
  | _ => none }
def fnExactRngMeetRow : OpenClaim := { program := "ytmnlpadekgopjaa", sum := "6be2bc790daa179fb110bba493d349f901f622ace1397526bb1d8d867e437302", func := "loop.example/g00476/laws.FnExactRngMeet", spec := "fnExactRngMeet", unfollowed := true, recurses := true, apart := false }
def FnExactRngMeetSaid : Prop := fnExactRngMeetRow.holds Try.pinned (OpenSpec.ofChange fnExactRngMeetSpec)

/-- ITS FALSE NEIGHBOUR: 'it returns false'. Refute it at one input. -/
def fnExactRngMeetWrong : ChangeSpec := { name := "fnExactRngMeet", fn := fun _ => fun
  | [d1, d2, d3] => { results := [.lit (.bool false)], args := [d1, d2, d3] }
  | _ => none }
def FnExactRngMeetWrongFalsely : Prop := fnExactRngMeetRow.holds Try.pinned (OpenSpec.ofChange fnExactRngMeetWrong)

/-- 'laws.FnExactGcdMeet': WHATEVER THE INPUT: true; the input reads as it did. -/
def fnExactGcdMeetSpec : ChangeSpec := { name := "fnExactGcdMeet", fn := fun _ => fun
  | [d1, d2] => { results := [.lit (.bool true)], args := [d1, d2] }
  | _ => none }
def fnExactGcdMeetRow : OpenClaim := { program := "ytmnlpadekgopjaa", sum := "6be2bc790daa179fb110bba493d349f901f622ace1397526bb1d8d867e437302", func := "loop.example/g00476/laws.FnExactGcdMeet", spec := "fnExactGcdMeet", apart := false }
def FnExactGcdMeetSaid : Prop := fnExactGcdMeetRow.holds Try.pinned (OpenSpec.ofChange fnExactGcdMeetSpec)

/-- ITS FALSE NEIGHBOUR: 'it returns false'. Refute it at one input. -/
def fnExactGcdMeetWrong : ChangeSpec := { name := "fnExactGcdMeet", fn := fun _ => fun
  | [d1, d2] => { results := [.lit (.bool false)], args := [d1, d2] }
  | _ => none }
def FnExactGcdMeetWrongFalsely : Prop := fnExactGcdMeetRow.holds Try.pinned (OpenSpec.ofChange fnExactGcdMeetWrong)

/-- 'laws.FnExactMeetAt': WHATEVER THE INPUT: true; the input reads as it did. -/
def fnExactMeetAtSpec : ChangeSpec := { name := "fnExactMeetAt", fn := fun _ => fun
  | [d1, d2, d3, d4, d5, d6] => { results := [.lit (.bool true)], args := [d1, d2, d3, d4, d5, d6] }
  | _ => none }
def fnExactMeetAtRow : OpenClaim := { program := "ytmnlpadekgopjaa", sum := "6be2bc790daa179fb110bba493d349f901f622ace1397526bb1d8d867e437302", func := "loop.example/g00476/laws.FnExactMeetAt", spec := "fnExactMeetAt", unfollowed := true, recurses := true, apart := false }
def FnExactMeetAtSaid : Prop := fnExactMeetAtRow.holds Try.pinned (OpenSpec.ofChange fnExactMeetAtSpec)

/-- ITS FALSE NEIGHBOUR: 'it returns false'. Refute it at one input. -/
def fnExactMeetAtWrong : ChangeSpec := { name := "fnExactMeetAt", fn := fun _ => fun
  | [d1, d2, d3, d4, d5, d6] => { results := [.lit (.bool false)], args := [d1, d2, d3, d4, d5, d6] }
  | _ => none }
def FnExactMeetAtWrongFalsely : Prop := fnExactMeetAtRow.holds Try.pinned (OpenSpec.ofChange fnExactMeetAtWrong)

/-- 'laws.FnExactAddA': WHATEVER THE INPUT: true; the input reads as it did. -/
def fnExactAddASpec : ChangeSpec := { name := "fnExactAddA", fn := fun _ => fun
  | [d1, d2] => { results := [.lit (.bool true)], args := [d1, d2] }
  | _ => none }
def fnExactAddARow : OpenClaim := { program := "ytmnlpadekgopjaa", sum := "6be2bc790daa179fb110bba493d349f901f622ace1397526bb1d8d867e437302", func := "loop.example/g00476/laws.FnExactAddA", spec := "fnExactAddA", unfollowed := true, recurses := true, apart := false }
def FnExactAddASaid : Prop := fnExactAddARow.holds Try.pinned (OpenSpec.ofChange fnExactAddASpec)

/-- ITS FALSE NEIGHBOUR: 'it returns false'. Refute it at one input. -/
def fnExactAddAWrong : ChangeSpec := { name := "fnExactAddA", fn := fun _ => fun
  | [d1, d2] => { results := [.lit (.bool false)], args := [d1, d2] }
  | _ => none }
def FnExactAddAWrongFalsely : Prop := fnExactAddARow.holds Try.pinned (OpenSpec.ofChange fnExactAddAWrong)

/-- 'laws.FnExactSubA': WHATEVER THE INPUT: true; the input reads as it did. -/
def fnExactSubASpec : ChangeSpec := { name := "fnExactSubA", fn := fun _ => fun
  | [d1, d2] => { results := [.lit (.bool true)], args := [d1, d2] }
  | _ => none }
def fnExactSubARow : OpenClaim := { program := "ytmnlpadekgopjaa", sum := "6be2bc790daa179fb110bba493d349f901f622ace1397526bb1d8d867e437302", func := "loop.example/g00476/laws.FnExactSubA", spec := "fnExactSubA", unfollowed := true, recurses := true, apart := false }
def FnExactSubASaid : Prop := fnExactSubARow.holds Try.pinned (OpenSpec.ofChange fnExactSubASpec)

/-- ITS FALSE NEIGHBOUR: 'it returns false'. Refute it at one input. -/
def fnExactSubAWrong : ChangeSpec := { name := "fnExactSubA", fn := fun _ => fun
  | [d1, d2] => { results := [.lit (.bool false)], args := [d1, d2] }
  | _ => none }
def FnExactSubAWrongFalsely : Prop := fnExactSubARow.holds Try.pinned (OpenSpec.ofChange fnExactSubAWrong)

/- THE SECOND FORM. 'bulk': how many values and letters a reading holds, each counted each time it is reached (what is shared counts as often as it is met; a slice's spare places count too). A statement '..UptoSaid' is the law's where the arguments, and the package variables that the reading takes, are together of bulk at most 1048576: NARROWER than '..Said'. Prove '..Said' where nothing that the law and all that it calls make is longer than what came in: it says more and counts as full. Else prove '..UptoSaid'. A law counts once. -/
mutual
def uptoBulk {H : Type} : DataW H → Nat
  | .lit (.string bytes) => bytes.length + 1
  | .lit _ => 1
  | .nil => 1
  | .ptr d => uptoBulk d + 1
  | .slice elems spare => uptoBulkAll elems + uptoBulkAll spare + 1
  | .agg parts => uptoBulkAll parts + 1
  | .iface _ d => uptoBulk d + 1
  | .map entries => uptoBulkEntries entries + 1
  | .held _ => 1
def uptoBulkAll {H : Type} : List (DataW H) → Nat
  | [] => 0
  | d :: r => uptoBulk d + uptoBulkAll r
def uptoBulkEntries {H : Type} : List (Lit × DataW H) → Nat
  | [] => 0
  | x :: r => uptoBulkEntry x + uptoBulkEntries r
def uptoBulkEntry {H : Type} : Lit × DataW H → Nat
  | (.string bytes, d) => bytes.length + uptoBulk d + 1
  | (_, d) => uptoBulk d + 1
 end
def uptoSmall : (H : Type) → List (DataW H) → Bool := fun _ ds => decide (uptoBulkAll ds ≤ 1048576)
def OpenSpec.upto (s : _root_.Go.ChangeSpec) : _root_.Go.OpenSpec := { _root_.Go.OpenSpec.ofChange s with cond := some uptoSmall }

/-- 'laws.FnExactRounds', WHERE WHAT IT READS IS OF BULK AT MOST 1048576: true; the input reads as it did. -/
def fnExactRoundsUptoRow : OpenClaim := { program := "ytmnlpadekgopjaa", sum := "6be2bc790daa179fb110bba493d349f901f622ace1397526bb1d8d867e437302", func := "loop.example/g00476/laws.FnExactRounds", spec := "fnExactRounds", unfollowed := true, recurses := true, apart := false, narrowed := true }
def FnExactRoundsUptoSaid : Prop := fnExactRoundsUptoRow.holds Try.pinned (OpenSpec.upto fnExactRoundsSpec)

/-- 'laws.FnExactLeast', WHERE WHAT IT READS IS OF BULK AT MOST 1048576: true; the input reads as it did. -/
def fnExactLeastUptoRow : OpenClaim := { program := "ytmnlpadekgopjaa", sum := "6be2bc790daa179fb110bba493d349f901f622ace1397526bb1d8d867e437302", func := "loop.example/g00476/laws.FnExactLeast", spec := "fnExactLeast", unfollowed := true, recurses := true, apart := false, narrowed := true }
def FnExactLeastUptoSaid : Prop := fnExactLeastUptoRow.holds Try.pinned (OpenSpec.upto fnExactLeastSpec)

/-- 'laws.FnExactMost', WHERE WHAT IT READS IS OF BULK AT MOST 1048576: true; the input reads as it did. -/
def fnExactMostUptoRow : OpenClaim := { program := "ytmnlpadekgopjaa", sum := "6be2bc790daa179fb110bba493d349f901f622ace1397526bb1d8d867e437302", func := "loop.example/g00476/laws.FnExactMost", spec := "fnExactMost", unfollowed := true, recurses := true, apart := false, narrowed := true }
def FnExactMostUptoSaid : Prop := fnExactMostUptoRow.holds Try.pinned (OpenSpec.upto fnExactMostSpec)

/-- 'laws.FnExactInArr', WHERE WHAT IT READS IS OF BULK AT MOST 1048576: true; the input reads as it did. -/
def fnExactInArrUptoRow : OpenClaim := { program := "ytmnlpadekgopjaa", sum := "6be2bc790daa179fb110bba493d349f901f622ace1397526bb1d8d867e437302", func := "loop.example/g00476/laws.FnExactInArr", spec := "fnExactInArr", unfollowed := true, recurses := true, apart := false, narrowed := true }
def FnExactInArrUptoSaid : Prop := fnExactInArrUptoRow.holds Try.pinned (OpenSpec.upto fnExactInArrSpec)

/-- 'laws.FnExactRngMeet', WHERE WHAT IT READS IS OF BULK AT MOST 1048576: true; the input reads as it did. -/
def fnExactRngMeetUptoRow : OpenClaim := { program := "ytmnlpadekgopjaa", sum := "6be2bc790daa179fb110bba493d349f901f622ace1397526bb1d8d867e437302", func := "loop.example/g00476/laws.FnExactRngMeet", spec := "fnExactRngMeet", unfollowed := true, recurses := true, apart := false, narrowed := true }
def FnExactRngMeetUptoSaid : Prop := fnExactRngMeetUptoRow.holds Try.pinned (OpenSpec.upto fnExactRngMeetSpec)

/-- 'laws.FnExactGcdMeet', WHERE WHAT IT READS IS OF BULK AT MOST 1048576: true; the input reads as it did. -/
def fnExactGcdMeetUptoRow : OpenClaim := { program := "ytmnlpadekgopjaa", sum := "6be2bc790daa179fb110bba493d349f901f622ace1397526bb1d8d867e437302", func := "loop.example/g00476/laws.FnExactGcdMeet", spec := "fnExactGcdMeet", apart := false, narrowed := true }
def FnExactGcdMeetUptoSaid : Prop := fnExactGcdMeetUptoRow.holds Try.pinned (OpenSpec.upto fnExactGcdMeetSpec)

/-- 'laws.FnExactMeetAt', WHERE WHAT IT READS IS OF BULK AT MOST 1048576: true; the input reads as it did. -/
def fnExactMeetAtUptoRow : OpenClaim := { program := "ytmnlpadekgopjaa", sum := "6be2bc790daa179fb110bba493d349f901f622ace1397526bb1d8d867e437302", func := "loop.example/g00476/laws.FnExactMeetAt", spec := "fnExactMeetAt", unfollowed := true, recurses := true, apart := false, narrowed := true }
def FnExactMeetAtUptoSaid : Prop := fnExactMeetAtUptoRow.holds Try.pinned (OpenSpec.upto fnExactMeetAtSpec)

/-- 'laws.FnExactAddA', WHERE WHAT IT READS IS OF BULK AT MOST 1048576: true; the input reads as it did. -/
def fnExactAddAUptoRow : OpenClaim := { program := "ytmnlpadekgopjaa", sum := "6be2bc790daa179fb110bba493d349f901f622ace1397526bb1d8d867e437302", func := "loop.example/g00476/laws.FnExactAddA", spec := "fnExactAddA", unfollowed := true, recurses := true, apart := false, narrowed := true }
def FnExactAddAUptoSaid : Prop := fnExactAddAUptoRow.holds Try.pinned (OpenSpec.upto fnExactAddASpec)

/-- 'laws.FnExactSubA', WHERE WHAT IT READS IS OF BULK AT MOST 1048576: true; the input reads as it did. -/
def fnExactSubAUptoRow : OpenClaim := { program := "ytmnlpadekgopjaa", sum := "6be2bc790daa179fb110bba493d349f901f622ace1397526bb1d8d867e437302", func := "loop.example/g00476/laws.FnExactSubA", spec := "fnExactSubA", unfollowed := true, recurses := true, apart := false, narrowed := true }
def FnExactSubAUptoSaid : Prop := fnExactSubAUptoRow.holds Try.pinned (OpenSpec.upto fnExactSubASpec)

end Rows
end Go.Proofs.Ytmnlpadekgopjaa
