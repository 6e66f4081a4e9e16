/-
  DERIVED. GIVEN WITH THE SEED: THE CARDS: each row of YtmjmnigiegadiaaGreatDoorRows.lean that lists a variable, with what it lists TIED to the program's text (the seventh form; the later family's looks); each row that meets fmt, with fmt's text TOLD by the authors' own Lean function (tested against real Go, not proved from fmt's source: count such statements apart). THE CARD IS WHAT COUNTS. Prove the row's statement (the work); the ties are given (YtmjmnigiegadiaaGreatDoorTie.lean); close each card by the builder's one call (the guide's Derived/Test/ToyasCard.lean, 'card_holds'). Laid BY PROGRAM, IN A SANDBOX (cutbox-door.mjs). By AI agents, Wed Nov 11 2026. No macro, syntax, notation, axiom, sorry.
-/
import Derived.Test.YtmjmnigiegadiaaGreatDoorRows
import GoSem.ClaimSeven
namespace Go.Proofs.YtmjmnigiegadiaaGreatDoor
namespace Rows

/-- THE TIED CARD OF 'patchbaylaw20.LangNames'. -/
def langNamesCard : Claim7 := { stood := { row := langNamesRow, standIns := [], harness := (true, "86a3e7847ee68b645081750a08f82c86ae84568513cb7f4cf56d4cd1005ed5b7"), looks := true }, kinds := [], alts := [], laidByText := true, laidKinds := [.data, .data, .data, .data, .handle, .sentinel, .sentinel, .pinned], laidTests := true, laidLooks := .later }
def LangNamesCardSaid : Prop := Claim7.holds Tryz.pinned (.plain (OpenSpec.ofChange langNamesSpec)) langNamesCard

/-- THE SECOND FORM's CARD OF 'patchbaylaw20.LangNames'. -/
def langNamesUptoCard : Claim7 := { stood := { row := langNamesUptoRow, standIns := [], harness := (true, "86a3e7847ee68b645081750a08f82c86ae84568513cb7f4cf56d4cd1005ed5b7"), looks := true }, kinds := [], alts := [], laidByText := true, laidKinds := [.data, .data, .data, .data, .handle, .sentinel, .sentinel, .pinned], laidTests := true, laidLooks := .later }
def LangNamesUptoCardSaid : Prop := Claim7.holds Tryz.pinned (.plain (OpenSpec.upto langNamesSpec)) langNamesUptoCard
end Rows
end Go.Proofs.YtmjmnigiegadiaaGreatDoor
