/-
  DERIVED. GIVEN WITH THE SEED: THE CARDS: each row of YtmmdgciefehbcaaDoorRows.lean that lists a variable, with what it lists TIED to the program's text (the seventh form; the later family's looks); each row that meets fmt, with fmt's text TOLD by the authors' own Lean function (tested against real Go, not proved from fmt's source: count such statements apart). THE CARD IS WHAT COUNTS. Prove the row's statement (the work); the ties are given (YtmmdgciefehbcaaDoorTie.lean); close each card by the builder's one call (the guide's Derived/Test/ToyasCard.lean, 'card_holds'). Laid BY PROGRAM, IN A SANDBOX (cutbox-door.mjs). By AI agents, Wed Nov 11 2026. No macro, syntax, notation, axiom, sorry.
-/
import Derived.Test.YtmmdgciefehbcaaDoorRows
import GoSem.ClaimSeven
namespace Go.Proofs.YtmmdgciefehbcaaDoor
namespace Rows

/-- THE TIED CARD OF 'laws.FnExactExpText'. -/
def fnExactExpTextCard : Claim7 := { stood := { row := fnExactExpTextRow, standIns := [], harness := (true, "d6ea6d8a9f69d4f369b9936e7a60169219de133934f43d4a5ad6db8bea9e7e15"), looks := false }, kinds := [], alts := [], laidByText := true, laidKinds := [.data, .data, .data], laidTests := true, laidLooks := .later }
def FnExactExpTextCardSaid : Prop := Claim7.holds Tryd.pinned (.plain (OpenSpec.ofChange fnExactExpTextSpec)) fnExactExpTextCard

/-- THE SECOND FORM's CARD OF 'laws.FnExactExpText'. -/
def fnExactExpTextUptoCard : Claim7 := { stood := { row := fnExactExpTextUptoRow, standIns := [], harness := (true, "d6ea6d8a9f69d4f369b9936e7a60169219de133934f43d4a5ad6db8bea9e7e15"), looks := false }, kinds := [], alts := [], laidByText := true, laidKinds := [.data, .data, .data], laidTests := true, laidLooks := .later }
def FnExactExpTextUptoCardSaid : Prop := Claim7.holds Tryd.pinned (.plain (OpenSpec.upto fnExactExpTextSpec)) fnExactExpTextUptoCard
end Rows
end Go.Proofs.YtmmdgciefehbcaaDoor
