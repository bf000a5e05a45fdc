/-
  No cell of these rows narrows 'for every input' (looked for: loops, veiled, ifaces, maps, wideKeys, modest, calm, conditions, laid).
  DERIVED. THE GIVEN ROWS OF THIS SEAT. 5 by the template 'for every input the law returns true; each argument reads behind the call as it read before'; 0 by the template 'total and deterministic' (their statements: YtmomablfmhkppaaTotals.lean).
  GIVEN WITH THE SEED: the statements are not yours to turn. If you find one false, say at which input.
  Laid BY PROGRAM, IN A SANDBOX (cutbox-rows.mjs): the forced cells as the released guide's own fill.sh prints them over the translation 8a719697505ea276… (all of the seat's roots in one cut). By AI agents, Wed Nov 11 2026. No macro, syntax, notation, axiom, sorry.
-/
import Derived.Test.YtmomablfmhkppaaChecked
import GoSem.Claim
import GoSem.ClaimJoined
import GoSem.ClaimMapViews
import Derived.JoinedTies
import Derived.KernelRfl
namespace Go.Proofs.Ytmomablfmhkppaa
/- THE CELL 'sum', in the pinned program and in every row, IS THE sha256 OF THE DUMP (.gsa) THAT YtmomablfmhkppaaProg.lean LOADS. Nothing in Lean hashes anything: it is a label: what it is worth is what the hold of that sum in a sandbox is worth. -/
noncomputable def Try.pinned : Pinned := { name := "ytmomablfmhkppaa", sum := "8a719697505ea27611785379a8339cfd97734b2266a154c9bb825281570fee7a", checked := Try.checked }
namespace Rows
def none {H : Type} : Left H := { results := [], args := [] }

/-- 'laws.FnExactAddA': WHATEVER THE INPUT: true; the input reads as it did. -/
def fnExactAddASpec : ChangeSpec := { name := "fnExactAddA", fn := fun _ => fun
  | [d1, d2] => { results := [.lit (.bool true)], args := [d1, d2] }
  | _ => none }
def fnExactAddARow : OpenClaim := { program := "ytmomablfmhkppaa", sum := "8a719697505ea27611785379a8339cfd97734b2266a154c9bb825281570fee7a", func := "loop.example/g00476/laws.FnExactAddA", spec := "fnExactAddA", unfollowed := true, recurses := true, apart := false }
def FnExactAddASaid : Prop := fnExactAddARow.holds Try.pinned (OpenSpec.ofChange fnExactAddASpec)

/-- ITS FALSE NEIGHBOUR: 'it returns false'. Refute it at one input. -/
def fnExactAddAWrong : ChangeSpec := { name := "fnExactAddA", fn := fun _ => fun
  | [d1, d2] => { results := [.lit (.bool false)], args := [d1, d2] }
  | _ => none }
def FnExactAddAWrongFalsely : Prop := fnExactAddARow.holds Try.pinned (OpenSpec.ofChange fnExactAddAWrong)

/-- 'laws.FnExactSubA': WHATEVER THE INPUT: true; the input reads as it did. -/
def fnExactSubASpec : ChangeSpec := { name := "fnExactSubA", fn := fun _ => fun
  | [d1, d2] => { results := [.lit (.bool true)], args := [d1, d2] }
  | _ => none }
def fnExactSubARow : OpenClaim := { program := "ytmomablfmhkppaa", sum := "8a719697505ea27611785379a8339cfd97734b2266a154c9bb825281570fee7a", func := "loop.example/g00476/laws.FnExactSubA", spec := "fnExactSubA", unfollowed := true, recurses := true, apart := false }
def FnExactSubASaid : Prop := fnExactSubARow.holds Try.pinned (OpenSpec.ofChange fnExactSubASpec)

/-- ITS FALSE NEIGHBOUR: 'it returns false'. Refute it at one input. -/
def fnExactSubAWrong : ChangeSpec := { name := "fnExactSubA", fn := fun _ => fun
  | [d1, d2] => { results := [.lit (.bool false)], args := [d1, d2] }
  | _ => none }
def FnExactSubAWrongFalsely : Prop := fnExactSubARow.holds Try.pinned (OpenSpec.ofChange fnExactSubAWrong)

/-- 'laws.FnAffs': WHATEVER THE INPUT: true; the input reads as it did. -/
def fnAffsSpec : ChangeSpec := { name := "fnAffs", fn := fun _ => fun
  | [d] => { results := [.lit (.bool true)], args := [d] }
  | _ => none }
def fnAffsRow : OpenClaim := { program := "ytmomablfmhkppaa", sum := "8a719697505ea27611785379a8339cfd97734b2266a154c9bb825281570fee7a", func := "loop.example/g00476/laws.FnAffs", spec := "fnAffs", unfollowed := true, recurses := true, apart := false }
def FnAffsSaid : Prop := fnAffsRow.holds Try.pinned (OpenSpec.ofChange fnAffsSpec)

/-- ITS FALSE NEIGHBOUR: 'it returns false'. Refute it at one input. -/
def fnAffsWrong : ChangeSpec := { name := "fnAffs", fn := fun _ => fun
  | [d] => { results := [.lit (.bool false)], args := [d] }
  | _ => none }
def FnAffsWrongFalsely : Prop := fnAffsRow.holds Try.pinned (OpenSpec.ofChange fnAffsWrong)

/-- 'laws.FnAffsBent': WHATEVER THE INPUT: true; the input reads as it did. -/
def fnAffsBentSpec : ChangeSpec := { name := "fnAffsBent", fn := fun _ => fun
  | [d] => { results := [.lit (.bool true)], args := [d] }
  | _ => none }
def fnAffsBentRow : OpenClaim := { program := "ytmomablfmhkppaa", sum := "8a719697505ea27611785379a8339cfd97734b2266a154c9bb825281570fee7a", func := "loop.example/g00476/laws.FnAffsBent", spec := "fnAffsBent", unfollowed := true, recurses := true, apart := false }
def FnAffsBentSaid : Prop := fnAffsBentRow.holds Try.pinned (OpenSpec.ofChange fnAffsBentSpec)

/-- ITS FALSE NEIGHBOUR: 'it returns false'. Refute it at one input. -/
def fnAffsBentWrong : ChangeSpec := { name := "fnAffsBent", fn := fun _ => fun
  | [d] => { results := [.lit (.bool false)], args := [d] }
  | _ => none }
def FnAffsBentWrongFalsely : Prop := fnAffsBentRow.holds Try.pinned (OpenSpec.ofChange fnAffsBentWrong)

/-- 'laws.FnMeets': WHATEVER THE INPUT: true; the input reads as it did. -/
def fnMeetsSpec : ChangeSpec := { name := "fnMeets", fn := fun _ => fun
  | [d] => { results := [.lit (.bool true)], args := [d] }
  | _ => none }
def fnMeetsRow : OpenClaim := { program := "ytmomablfmhkppaa", sum := "8a719697505ea27611785379a8339cfd97734b2266a154c9bb825281570fee7a", func := "loop.example/g00476/laws.FnMeets", spec := "fnMeets", unfollowed := true, recurses := true, apart := false }
def FnMeetsSaid : Prop := fnMeetsRow.holds Try.pinned (OpenSpec.ofChange fnMeetsSpec)

/-- ITS FALSE NEIGHBOUR: 'it returns false'. Refute it at one input. -/
def fnMeetsWrong : ChangeSpec := { name := "fnMeets", fn := fun _ => fun
  | [d] => { results := [.lit (.bool false)], args := [d] }
  | _ => none }
def FnMeetsWrongFalsely : Prop := fnMeetsRow.holds Try.pinned (OpenSpec.ofChange fnMeetsWrong)

/- THE SECOND FORM. 'bulk': how many values and letters a reading holds, each counted each time it is reached (what is shared counts as often as it is met; a slice's spare places count too). A statement '..UptoSaid' is the law's where the arguments, and the package variables that the reading takes, are together of bulk at most 1048576: NARROWER than '..Said'. Prove '..Said' where nothing that the law and all that it calls make is longer than what came in: it says more and counts as full. Else prove '..UptoSaid'. A law counts once. -/
mutual
def uptoBulk {H : Type} : DataW H → Nat
  | .lit (.string bytes) => bytes.length + 1
  | .lit _ => 1
  | .nil => 1
  | .ptr d => uptoBulk d + 1
  | .slice elems spare => uptoBulkAll elems + uptoBulkAll spare + 1
  | .agg parts => uptoBulkAll parts + 1
  | .iface _ d => uptoBulk d + 1
  | .map entries => uptoBulkEntries entries + 1
  | .held _ => 1
def uptoBulkAll {H : Type} : List (DataW H) → Nat
  | [] => 0
  | d :: r => uptoBulk d + uptoBulkAll r
def uptoBulkEntries {H : Type} : List (Lit × DataW H) → Nat
  | [] => 0
  | x :: r => uptoBulkEntry x + uptoBulkEntries r
def uptoBulkEntry {H : Type} : Lit × DataW H → Nat
  | (.string bytes, d) => bytes.length + uptoBulk d + 1
  | (_, d) => uptoBulk d + 1
 end
def uptoSmall : (H : Type) → List (DataW H) → Bool := fun _ ds => decide (uptoBulkAll ds ≤ 1048576)
def OpenSpec.upto (s : _root_.Go.ChangeSpec) : _root_.Go.OpenSpec := { _root_.Go.OpenSpec.ofChange s with cond := some uptoSmall }

/-- 'laws.FnExactAddA', WHERE WHAT IT READS IS OF BULK AT MOST 1048576: true; the input reads as it did. -/
def fnExactAddAUptoRow : OpenClaim := { program := "ytmomablfmhkppaa", sum := "8a719697505ea27611785379a8339cfd97734b2266a154c9bb825281570fee7a", func := "loop.example/g00476/laws.FnExactAddA", spec := "fnExactAddA", unfollowed := true, recurses := true, apart := false, narrowed := true }
def FnExactAddAUptoSaid : Prop := fnExactAddAUptoRow.holds Try.pinned (OpenSpec.upto fnExactAddASpec)

/-- 'laws.FnExactSubA', WHERE WHAT IT READS IS OF BULK AT MOST 1048576: true; the input reads as it did. -/
def fnExactSubAUptoRow : OpenClaim := { program := "ytmomablfmhkppaa", sum := "8a719697505ea27611785379a8339cfd97734b2266a154c9bb825281570fee7a", func := "loop.example/g00476/laws.FnExactSubA", spec := "fnExactSubA", unfollowed := true, recurses := true, apart := false, narrowed := true }
def FnExactSubAUptoSaid : Prop := fnExactSubAUptoRow.holds Try.pinned (OpenSpec.upto fnExactSubASpec)

/-- 'laws.FnAffs', WHERE WHAT IT READS IS OF BULK AT MOST 1048576: true; the input reads as it did. -/
def fnAffsUptoRow : OpenClaim := { program := "ytmomablfmhkppaa", sum := "8a719697505ea27611785379a8339cfd97734b2266a154c9bb825281570fee7a", func := "loop.example/g00476/laws.FnAffs", spec := "fnAffs", unfollowed := true, recurses := true, apart := false, narrowed := true }
def FnAffsUptoSaid : Prop := fnAffsUptoRow.holds Try.pinned (OpenSpec.upto fnAffsSpec)

/-- 'laws.FnAffsBent', WHERE WHAT IT READS IS OF BULK AT MOST 1048576: true; the input reads as it did. -/
def fnAffsBentUptoRow : OpenClaim := { program := "ytmomablfmhkppaa", sum := "8a719697505ea27611785379a8339cfd97734b2266a154c9bb825281570fee7a", func := "loop.example/g00476/laws.FnAffsBent", spec := "fnAffsBent", unfollowed := true, recurses := true, apart := false, narrowed := true }
def FnAffsBentUptoSaid : Prop := fnAffsBentUptoRow.holds Try.pinned (OpenSpec.upto fnAffsBentSpec)

/-- 'laws.FnMeets', WHERE WHAT IT READS IS OF BULK AT MOST 1048576: true; the input reads as it did. -/
def fnMeetsUptoRow : OpenClaim := { program := "ytmomablfmhkppaa", sum := "8a719697505ea27611785379a8339cfd97734b2266a154c9bb825281570fee7a", func := "loop.example/g00476/laws.FnMeets", spec := "fnMeets", unfollowed := true, recurses := true, apart := false, narrowed := true }
def FnMeetsUptoSaid : Prop := fnMeetsUptoRow.holds Try.pinned (OpenSpec.upto fnMeetsSpec)

end Rows
end Go.Proofs.Ytmomablfmhkppaa
