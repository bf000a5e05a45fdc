/-
  No cell of these rows narrows 'for every input' (looked for: loops, veiled, ifaces, maps, wideKeys, modest, calm, conditions, laid).
  DERIVED. THE GIVEN ROWS OF THIS SEAT. 12 by the template 'for every input the law returns true; each argument reads behind the call as it read before'; 0 by the template 'total and deterministic' (their statements: YtbkoonfdkeeapaaTotals.lean).
  GIVEN WITH THE SEED: the statements are not yours to turn. If you find one false, say at which input.
  Laid BY PROGRAM, IN A SANDBOX (cutbox-rows.mjs): the forced cells as the released guide's own fill.sh prints them over the translation 33fc6b5dff00e6d1… (all of the seat's roots in one cut). By AI agents, Wed Nov 11 2026. No macro, syntax, notation, axiom, sorry.
-/
import Derived.Test.YtbkoonfdkeeapaaChecked
import GoSem.Claim
import GoSem.ClaimJoined
import GoSem.ClaimMapViews
import Derived.JoinedTies
import Derived.KernelRfl
namespace Go.Proofs.Ytbkoonfdkeeapaa
/- THE CELL 'sum', in the pinned program and in every row, IS THE sha256 OF THE DUMP (.gsa) THAT YtbkoonfdkeeapaaProg.lean LOADS. Nothing in Lean hashes anything: it is a label: what it is worth is what the hold of that sum in a sandbox is worth. -/
noncomputable def Try.pinned : Pinned := { name := "ytbkoonfdkeeapaa", sum := "33fc6b5dff00e6d1bb5be8e051d3d4551c9d65614ae62afee78c5a83cbc8bf41", checked := Try.checked }
namespace Rows
def none {H : Type} : Left H := { results := [], args := [] }

/-- 'laws.FnExactConstants': WHATEVER THE INPUT: true; the input reads as it did. -/
def fnExactConstantsSpec : ChangeSpec := { name := "fnExactConstants", fn := fun _ => fun
  | [] => { results := [.lit (.bool true)], args := [] }
  | _ => none }
def fnExactConstantsRow : OpenClaim := { program := "ytbkoonfdkeeapaa", sum := "33fc6b5dff00e6d1bb5be8e051d3d4551c9d65614ae62afee78c5a83cbc8bf41", func := "loop.example/g00476/laws.FnExactConstants", spec := "fnExactConstants", apart := false }
def FnExactConstantsSaid : Prop := fnExactConstantsRow.holds Try.pinned (OpenSpec.ofChange fnExactConstantsSpec)

/-- ITS FALSE NEIGHBOUR: 'it returns false'. Refute it at one input. -/
def fnExactConstantsWrong : ChangeSpec := { name := "fnExactConstants", fn := fun _ => fun
  | [] => { results := [.lit (.bool false)], args := [] }
  | _ => none }
def FnExactConstantsWrongFalsely : Prop := fnExactConstantsRow.holds Try.pinned (OpenSpec.ofChange fnExactConstantsWrong)

/-- 'laws.FnExactWrap': WHATEVER THE INPUT: true; the input reads as it did. -/
def fnExactWrapSpec : ChangeSpec := { name := "fnExactWrap", fn := fun _ => fun
  | [d] => { results := [.lit (.bool true)], args := [d] }
  | _ => none }
def fnExactWrapRow : OpenClaim := { program := "ytbkoonfdkeeapaa", sum := "33fc6b5dff00e6d1bb5be8e051d3d4551c9d65614ae62afee78c5a83cbc8bf41", func := "loop.example/g00476/laws.FnExactWrap", spec := "fnExactWrap", apart := false }
def FnExactWrapSaid : Prop := fnExactWrapRow.holds Try.pinned (OpenSpec.ofChange fnExactWrapSpec)

/-- ITS FALSE NEIGHBOUR: 'it returns false'. Refute it at one input. -/
def fnExactWrapWrong : ChangeSpec := { name := "fnExactWrap", fn := fun _ => fun
  | [d] => { results := [.lit (.bool false)], args := [d] }
  | _ => none }
def FnExactWrapWrongFalsely : Prop := fnExactWrapRow.holds Try.pinned (OpenSpec.ofChange fnExactWrapWrong)

/-- 'laws.FnExactAddW': WHATEVER THE INPUT: true; the input reads as it did. -/
def fnExactAddWSpec : ChangeSpec := { name := "fnExactAddW", fn := fun _ => fun
  | [d1, d2] => { results := [.lit (.bool true)], args := [d1, d2] }
  | _ => none }
def fnExactAddWRow : OpenClaim := { program := "ytbkoonfdkeeapaa", sum := "33fc6b5dff00e6d1bb5be8e051d3d4551c9d65614ae62afee78c5a83cbc8bf41", func := "loop.example/g00476/laws.FnExactAddW", spec := "fnExactAddW", apart := false }
def FnExactAddWSaid : Prop := fnExactAddWRow.holds Try.pinned (OpenSpec.ofChange fnExactAddWSpec)

/-- ITS FALSE NEIGHBOUR: 'it returns false'. Refute it at one input. -/
def fnExactAddWWrong : ChangeSpec := { name := "fnExactAddW", fn := fun _ => fun
  | [d1, d2] => { results := [.lit (.bool false)], args := [d1, d2] }
  | _ => none }
def FnExactAddWWrongFalsely : Prop := fnExactAddWRow.holds Try.pinned (OpenSpec.ofChange fnExactAddWWrong)

/-- 'laws.FnExactMulW': WHATEVER THE INPUT: true; the input reads as it did. -/
def fnExactMulWSpec : ChangeSpec := { name := "fnExactMulW", fn := fun _ => fun
  | [d1, d2] => { results := [.lit (.bool true)], args := [d1, d2] }
  | _ => none }
def fnExactMulWRow : OpenClaim := { program := "ytbkoonfdkeeapaa", sum := "33fc6b5dff00e6d1bb5be8e051d3d4551c9d65614ae62afee78c5a83cbc8bf41", func := "loop.example/g00476/laws.FnExactMulW", spec := "fnExactMulW", apart := false }
def FnExactMulWSaid : Prop := fnExactMulWRow.holds Try.pinned (OpenSpec.ofChange fnExactMulWSpec)

/-- ITS FALSE NEIGHBOUR: 'it returns false'. Refute it at one input. -/
def fnExactMulWWrong : ChangeSpec := { name := "fnExactMulW", fn := fun _ => fun
  | [d1, d2] => { results := [.lit (.bool false)], args := [d1, d2] }
  | _ => none }
def FnExactMulWWrongFalsely : Prop := fnExactMulWRow.holds Try.pinned (OpenSpec.ofChange fnExactMulWWrong)

/-- 'laws.FnExactSubW': WHATEVER THE INPUT: true; the input reads as it did. -/
def fnExactSubWSpec : ChangeSpec := { name := "fnExactSubW", fn := fun _ => fun
  | [d1, d2] => { results := [.lit (.bool true)], args := [d1, d2] }
  | _ => none }
def fnExactSubWRow : OpenClaim := { program := "ytbkoonfdkeeapaa", sum := "33fc6b5dff00e6d1bb5be8e051d3d4551c9d65614ae62afee78c5a83cbc8bf41", func := "loop.example/g00476/laws.FnExactSubW", spec := "fnExactSubW", apart := false }
def FnExactSubWSaid : Prop := fnExactSubWRow.holds Try.pinned (OpenSpec.ofChange fnExactSubWSpec)

/-- ITS FALSE NEIGHBOUR: 'it returns false'. Refute it at one input. -/
def fnExactSubWWrong : ChangeSpec := { name := "fnExactSubW", fn := fun _ => fun
  | [d1, d2] => { results := [.lit (.bool false)], args := [d1, d2] }
  | _ => none }
def FnExactSubWWrongFalsely : Prop := fnExactSubWRow.holds Try.pinned (OpenSpec.ofChange fnExactSubWWrong)

/-- 'laws.FnExactGcd': WHATEVER THE INPUT: true; the input reads as it did. -/
def fnExactGcdSpec : ChangeSpec := { name := "fnExactGcd", fn := fun _ => fun
  | [d1, d2] => { results := [.lit (.bool true)], args := [d1, d2] }
  | _ => none }
def fnExactGcdRow : OpenClaim := { program := "ytbkoonfdkeeapaa", sum := "33fc6b5dff00e6d1bb5be8e051d3d4551c9d65614ae62afee78c5a83cbc8bf41", func := "loop.example/g00476/laws.FnExactGcd", spec := "fnExactGcd", apart := false }
def FnExactGcdSaid : Prop := fnExactGcdRow.holds Try.pinned (OpenSpec.ofChange fnExactGcdSpec)

/-- ITS FALSE NEIGHBOUR: 'it returns false'. Refute it at one input. -/
def fnExactGcdWrong : ChangeSpec := { name := "fnExactGcd", fn := fun _ => fun
  | [d1, d2] => { results := [.lit (.bool false)], args := [d1, d2] }
  | _ => none }
def FnExactGcdWrongFalsely : Prop := fnExactGcdRow.holds Try.pinned (OpenSpec.ofChange fnExactGcdWrong)

/-- 'laws.FnExactNameOk': WHATEVER THE INPUT: true; the input reads as it did. -/
def fnExactNameOkSpec : ChangeSpec := { name := "fnExactNameOk", fn := fun _ => fun
  | [d] => { results := [.lit (.bool true)], args := [d] }
  | _ => none }
def fnExactNameOkRow : OpenClaim := { program := "ytbkoonfdkeeapaa", sum := "33fc6b5dff00e6d1bb5be8e051d3d4551c9d65614ae62afee78c5a83cbc8bf41", func := "loop.example/g00476/laws.FnExactNameOk", spec := "fnExactNameOk", apart := false }
def FnExactNameOkSaid : Prop := fnExactNameOkRow.holds Try.pinned (OpenSpec.ofChange fnExactNameOkSpec)

/-- ITS FALSE NEIGHBOUR: 'it returns false'. Refute it at one input. -/
def fnExactNameOkWrong : ChangeSpec := { name := "fnExactNameOk", fn := fun _ => fun
  | [d] => { results := [.lit (.bool false)], args := [d] }
  | _ => none }
def FnExactNameOkWrongFalsely : Prop := fnExactNameOkRow.holds Try.pinned (OpenSpec.ofChange fnExactNameOkWrong)

/-- 'laws.FnExactCoefOf': WHATEVER THE INPUT: true; the input reads as it did. -/
def fnExactCoefOfSpec : ChangeSpec := { name := "fnExactCoefOf", fn := fun _ => fun
  | [d1, d2] => { results := [.lit (.bool true)], args := [d1, d2] }
  | _ => none }
def fnExactCoefOfRow : OpenClaim := { program := "ytbkoonfdkeeapaa", sum := "33fc6b5dff00e6d1bb5be8e051d3d4551c9d65614ae62afee78c5a83cbc8bf41", func := "loop.example/g00476/laws.FnExactCoefOf", spec := "fnExactCoefOf", apart := false }
def FnExactCoefOfSaid : Prop := fnExactCoefOfRow.holds Try.pinned (OpenSpec.ofChange fnExactCoefOfSpec)

/-- ITS FALSE NEIGHBOUR: 'it returns false'. Refute it at one input. -/
def fnExactCoefOfWrong : ChangeSpec := { name := "fnExactCoefOf", fn := fun _ => fun
  | [d1, d2] => { results := [.lit (.bool false)], args := [d1, d2] }
  | _ => none }
def FnExactCoefOfWrongFalsely : Prop := fnExactCoefOfRow.holds Try.pinned (OpenSpec.ofChange fnExactCoefOfWrong)

/-- 'laws.FnExactBoxOk': WHATEVER THE INPUT: true; the input reads as it did. -/
def fnExactBoxOkSpec : ChangeSpec := { name := "fnExactBoxOk", fn := fun _ => fun
  | [d] => { results := [.lit (.bool true)], args := [d] }
  | _ => none }
def fnExactBoxOkRow : OpenClaim := { program := "ytbkoonfdkeeapaa", sum := "33fc6b5dff00e6d1bb5be8e051d3d4551c9d65614ae62afee78c5a83cbc8bf41", func := "loop.example/g00476/laws.FnExactBoxOk", spec := "fnExactBoxOk", unfollowed := true, recurses := true, apart := false }
def FnExactBoxOkSaid : Prop := fnExactBoxOkRow.holds Try.pinned (OpenSpec.ofChange fnExactBoxOkSpec)

/-- ITS FALSE NEIGHBOUR: 'it returns false'. Refute it at one input. -/
def fnExactBoxOkWrong : ChangeSpec := { name := "fnExactBoxOk", fn := fun _ => fun
  | [d] => { results := [.lit (.bool false)], args := [d] }
  | _ => none }
def FnExactBoxOkWrongFalsely : Prop := fnExactBoxOkRow.holds Try.pinned (OpenSpec.ofChange fnExactBoxOkWrong)

/-- 'laws.FnExactAffOk': WHATEVER THE INPUT: true; the input reads as it did. -/
def fnExactAffOkSpec : ChangeSpec := { name := "fnExactAffOk", fn := fun _ => fun
  | [d] => { results := [.lit (.bool true)], args := [d] }
  | _ => none }
def fnExactAffOkRow : OpenClaim := { program := "ytbkoonfdkeeapaa", sum := "33fc6b5dff00e6d1bb5be8e051d3d4551c9d65614ae62afee78c5a83cbc8bf41", func := "loop.example/g00476/laws.FnExactAffOk", spec := "fnExactAffOk", apart := false }
def FnExactAffOkSaid : Prop := fnExactAffOkRow.holds Try.pinned (OpenSpec.ofChange fnExactAffOkSpec)

/-- ITS FALSE NEIGHBOUR: 'it returns false'. Refute it at one input. -/
def fnExactAffOkWrong : ChangeSpec := { name := "fnExactAffOk", fn := fun _ => fun
  | [d] => { results := [.lit (.bool false)], args := [d] }
  | _ => none }
def FnExactAffOkWrongFalsely : Prop := fnExactAffOkRow.holds Try.pinned (OpenSpec.ofChange fnExactAffOkWrong)

/-- 'laws.FnExactDistOf': WHATEVER THE INPUT: true; the input reads as it did. -/
def fnExactDistOfSpec : ChangeSpec := { name := "fnExactDistOf", fn := fun _ => fun
  | [d1, d2, d3] => { results := [.lit (.bool true)], args := [d1, d2, d3] }
  | _ => none }
def fnExactDistOfRow : OpenClaim := { program := "ytbkoonfdkeeapaa", sum := "33fc6b5dff00e6d1bb5be8e051d3d4551c9d65614ae62afee78c5a83cbc8bf41", func := "loop.example/g00476/laws.FnExactDistOf", spec := "fnExactDistOf", apart := false }
def FnExactDistOfSaid : Prop := fnExactDistOfRow.holds Try.pinned (OpenSpec.ofChange fnExactDistOfSpec)

/-- ITS FALSE NEIGHBOUR: 'it returns false'. Refute it at one input. -/
def fnExactDistOfWrong : ChangeSpec := { name := "fnExactDistOf", fn := fun _ => fun
  | [d1, d2, d3] => { results := [.lit (.bool false)], args := [d1, d2, d3] }
  | _ => none }
def FnExactDistOfWrongFalsely : Prop := fnExactDistOfRow.holds Try.pinned (OpenSpec.ofChange fnExactDistOfWrong)

/-- 'laws.FnExactAffAt': WHATEVER THE INPUT: true; the input reads as it did. -/
def fnExactAffAtSpec : ChangeSpec := { name := "fnExactAffAt", fn := fun _ => fun
  | [d1, d2] => { results := [.lit (.bool true)], args := [d1, d2] }
  | _ => none }
def fnExactAffAtRow : OpenClaim := { program := "ytbkoonfdkeeapaa", sum := "33fc6b5dff00e6d1bb5be8e051d3d4551c9d65614ae62afee78c5a83cbc8bf41", func := "loop.example/g00476/laws.FnExactAffAt", spec := "fnExactAffAt", apart := false }
def FnExactAffAtSaid : Prop := fnExactAffAtRow.holds Try.pinned (OpenSpec.ofChange fnExactAffAtSpec)

/-- ITS FALSE NEIGHBOUR: 'it returns false'. Refute it at one input. -/
def fnExactAffAtWrong : ChangeSpec := { name := "fnExactAffAt", fn := fun _ => fun
  | [d1, d2] => { results := [.lit (.bool false)], args := [d1, d2] }
  | _ => none }
def FnExactAffAtWrongFalsely : Prop := fnExactAffAtRow.holds Try.pinned (OpenSpec.ofChange fnExactAffAtWrong)

/- THE SECOND FORM. 'bulk': how many values and letters a reading holds, each counted each time it is reached (what is shared counts as often as it is met; a slice's spare places count too). A statement '..UptoSaid' is the law's where the arguments, and the package variables that the reading takes, are together of bulk at most 1048576: NARROWER than '..Said'. Prove '..Said' where nothing that the law and all that it calls make is longer than what came in: it says more and counts as full. Else prove '..UptoSaid'. A law counts once. -/
mutual
def uptoBulk {H : Type} : DataW H → Nat
  | .lit (.string bytes) => bytes.length + 1
  | .lit _ => 1
  | .nil => 1
  | .ptr d => uptoBulk d + 1
  | .slice elems spare => uptoBulkAll elems + uptoBulkAll spare + 1
  | .agg parts => uptoBulkAll parts + 1
  | .iface _ d => uptoBulk d + 1
  | .map entries => uptoBulkEntries entries + 1
  | .held _ => 1
def uptoBulkAll {H : Type} : List (DataW H) → Nat
  | [] => 0
  | d :: r => uptoBulk d + uptoBulkAll r
def uptoBulkEntries {H : Type} : List (Lit × DataW H) → Nat
  | [] => 0
  | x :: r => uptoBulkEntry x + uptoBulkEntries r
def uptoBulkEntry {H : Type} : Lit × DataW H → Nat
  | (.string bytes, d) => bytes.length + uptoBulk d + 1
  | (_, d) => uptoBulk d + 1
 end
def uptoSmall : (H : Type) → List (DataW H) → Bool := fun _ ds => decide (uptoBulkAll ds ≤ 1048576)
def OpenSpec.upto (s : _root_.Go.ChangeSpec) : _root_.Go.OpenSpec := { _root_.Go.OpenSpec.ofChange s with cond := some uptoSmall }

/-- 'laws.FnExactConstants', WHERE WHAT IT READS IS OF BULK AT MOST 1048576: true; the input reads as it did. -/
def fnExactConstantsUptoRow : OpenClaim := { program := "ytbkoonfdkeeapaa", sum := "33fc6b5dff00e6d1bb5be8e051d3d4551c9d65614ae62afee78c5a83cbc8bf41", func := "loop.example/g00476/laws.FnExactConstants", spec := "fnExactConstants", apart := false, narrowed := true }
def FnExactConstantsUptoSaid : Prop := fnExactConstantsUptoRow.holds Try.pinned (OpenSpec.upto fnExactConstantsSpec)

/-- 'laws.FnExactWrap', WHERE WHAT IT READS IS OF BULK AT MOST 1048576: true; the input reads as it did. -/
def fnExactWrapUptoRow : OpenClaim := { program := "ytbkoonfdkeeapaa", sum := "33fc6b5dff00e6d1bb5be8e051d3d4551c9d65614ae62afee78c5a83cbc8bf41", func := "loop.example/g00476/laws.FnExactWrap", spec := "fnExactWrap", apart := false, narrowed := true }
def FnExactWrapUptoSaid : Prop := fnExactWrapUptoRow.holds Try.pinned (OpenSpec.upto fnExactWrapSpec)

/-- 'laws.FnExactAddW', WHERE WHAT IT READS IS OF BULK AT MOST 1048576: true; the input reads as it did. -/
def fnExactAddWUptoRow : OpenClaim := { program := "ytbkoonfdkeeapaa", sum := "33fc6b5dff00e6d1bb5be8e051d3d4551c9d65614ae62afee78c5a83cbc8bf41", func := "loop.example/g00476/laws.FnExactAddW", spec := "fnExactAddW", apart := false, narrowed := true }
def FnExactAddWUptoSaid : Prop := fnExactAddWUptoRow.holds Try.pinned (OpenSpec.upto fnExactAddWSpec)

/-- 'laws.FnExactMulW', WHERE WHAT IT READS IS OF BULK AT MOST 1048576: true; the input reads as it did. -/
def fnExactMulWUptoRow : OpenClaim := { program := "ytbkoonfdkeeapaa", sum := "33fc6b5dff00e6d1bb5be8e051d3d4551c9d65614ae62afee78c5a83cbc8bf41", func := "loop.example/g00476/laws.FnExactMulW", spec := "fnExactMulW", apart := false, narrowed := true }
def FnExactMulWUptoSaid : Prop := fnExactMulWUptoRow.holds Try.pinned (OpenSpec.upto fnExactMulWSpec)

/-- 'laws.FnExactSubW', WHERE WHAT IT READS IS OF BULK AT MOST 1048576: true; the input reads as it did. -/
def fnExactSubWUptoRow : OpenClaim := { program := "ytbkoonfdkeeapaa", sum := "33fc6b5dff00e6d1bb5be8e051d3d4551c9d65614ae62afee78c5a83cbc8bf41", func := "loop.example/g00476/laws.FnExactSubW", spec := "fnExactSubW", apart := false, narrowed := true }
def FnExactSubWUptoSaid : Prop := fnExactSubWUptoRow.holds Try.pinned (OpenSpec.upto fnExactSubWSpec)

/-- 'laws.FnExactGcd', WHERE WHAT IT READS IS OF BULK AT MOST 1048576: true; the input reads as it did. -/
def fnExactGcdUptoRow : OpenClaim := { program := "ytbkoonfdkeeapaa", sum := "33fc6b5dff00e6d1bb5be8e051d3d4551c9d65614ae62afee78c5a83cbc8bf41", func := "loop.example/g00476/laws.FnExactGcd", spec := "fnExactGcd", apart := false, narrowed := true }
def FnExactGcdUptoSaid : Prop := fnExactGcdUptoRow.holds Try.pinned (OpenSpec.upto fnExactGcdSpec)

/-- 'laws.FnExactNameOk', WHERE WHAT IT READS IS OF BULK AT MOST 1048576: true; the input reads as it did. -/
def fnExactNameOkUptoRow : OpenClaim := { program := "ytbkoonfdkeeapaa", sum := "33fc6b5dff00e6d1bb5be8e051d3d4551c9d65614ae62afee78c5a83cbc8bf41", func := "loop.example/g00476/laws.FnExactNameOk", spec := "fnExactNameOk", apart := false, narrowed := true }
def FnExactNameOkUptoSaid : Prop := fnExactNameOkUptoRow.holds Try.pinned (OpenSpec.upto fnExactNameOkSpec)

/-- 'laws.FnExactCoefOf', WHERE WHAT IT READS IS OF BULK AT MOST 1048576: true; the input reads as it did. -/
def fnExactCoefOfUptoRow : OpenClaim := { program := "ytbkoonfdkeeapaa", sum := "33fc6b5dff00e6d1bb5be8e051d3d4551c9d65614ae62afee78c5a83cbc8bf41", func := "loop.example/g00476/laws.FnExactCoefOf", spec := "fnExactCoefOf", apart := false, narrowed := true }
def FnExactCoefOfUptoSaid : Prop := fnExactCoefOfUptoRow.holds Try.pinned (OpenSpec.upto fnExactCoefOfSpec)

/-- 'laws.FnExactBoxOk', WHERE WHAT IT READS IS OF BULK AT MOST 1048576: true; the input reads as it did. -/
def fnExactBoxOkUptoRow : OpenClaim := { program := "ytbkoonfdkeeapaa", sum := "33fc6b5dff00e6d1bb5be8e051d3d4551c9d65614ae62afee78c5a83cbc8bf41", func := "loop.example/g00476/laws.FnExactBoxOk", spec := "fnExactBoxOk", unfollowed := true, recurses := true, apart := false, narrowed := true }
def FnExactBoxOkUptoSaid : Prop := fnExactBoxOkUptoRow.holds Try.pinned (OpenSpec.upto fnExactBoxOkSpec)

/-- 'laws.FnExactAffOk', WHERE WHAT IT READS IS OF BULK AT MOST 1048576: true; the input reads as it did. -/
def fnExactAffOkUptoRow : OpenClaim := { program := "ytbkoonfdkeeapaa", sum := "33fc6b5dff00e6d1bb5be8e051d3d4551c9d65614ae62afee78c5a83cbc8bf41", func := "loop.example/g00476/laws.FnExactAffOk", spec := "fnExactAffOk", apart := false, narrowed := true }
def FnExactAffOkUptoSaid : Prop := fnExactAffOkUptoRow.holds Try.pinned (OpenSpec.upto fnExactAffOkSpec)

/-- 'laws.FnExactDistOf', WHERE WHAT IT READS IS OF BULK AT MOST 1048576: true; the input reads as it did. -/
def fnExactDistOfUptoRow : OpenClaim := { program := "ytbkoonfdkeeapaa", sum := "33fc6b5dff00e6d1bb5be8e051d3d4551c9d65614ae62afee78c5a83cbc8bf41", func := "loop.example/g00476/laws.FnExactDistOf", spec := "fnExactDistOf", apart := false, narrowed := true }
def FnExactDistOfUptoSaid : Prop := fnExactDistOfUptoRow.holds Try.pinned (OpenSpec.upto fnExactDistOfSpec)

/-- 'laws.FnExactAffAt', WHERE WHAT IT READS IS OF BULK AT MOST 1048576: true; the input reads as it did. -/
def fnExactAffAtUptoRow : OpenClaim := { program := "ytbkoonfdkeeapaa", sum := "33fc6b5dff00e6d1bb5be8e051d3d4551c9d65614ae62afee78c5a83cbc8bf41", func := "loop.example/g00476/laws.FnExactAffAt", spec := "fnExactAffAt", apart := false, narrowed := true }
def FnExactAffAtUptoSaid : Prop := fnExactAffAtUptoRow.holds Try.pinned (OpenSpec.upto fnExactAffAtSpec)

end Rows
end Go.Proofs.Ytbkoonfdkeeapaa
