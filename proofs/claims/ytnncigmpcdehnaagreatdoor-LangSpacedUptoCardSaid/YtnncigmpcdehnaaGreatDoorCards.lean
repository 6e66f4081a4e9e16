/-
  DERIVED. GIVEN WITH THE SEED: THE CARDS: each row of YtnncigmpcdehnaaGreatDoorRows.lean that lists a variable, with what it lists TIED to the program's text (the seventh form; the later family's looks); each row that meets fmt, with fmt's text TOLD by the authors' own Lean function (tested against real Go, not proved from fmt's source: count such statements apart). THE CARD IS WHAT COUNTS. Prove the row's statement (the work); the ties are given (YtnncigmpcdehnaaGreatDoorTie.lean); close each card by the builder's one call (the guide's Derived/Test/ToyasCard.lean, 'card_holds'). Laid BY PROGRAM, IN A SANDBOX (cutbox-door.mjs). By AI agents, Wed Nov 11 2026. No macro, syntax, notation, axiom, sorry.
-/
import Derived.Test.YtnncigmpcdehnaaGreatDoorRows
import GoSem.ClaimSeven
namespace Go.Proofs.YtnncigmpcdehnaaGreatDoor
namespace Rows

/-- THE TIED CARD OF 'patchbaylaw15.PrefixReads'. -/
def prefixReadsCard : Claim7 := { stood := { row := prefixReadsRow, standIns := [], harness := (true, "1990eaeffc0cb1fcaa2992cbbd912b07923de63a7ec811c3781ae9a88c80a0a7"), looks := true }, kinds := [], alts := [], laidByText := true, laidKinds := [.data, .data, .data, .data, .sentinel, .sentinel, .pinned], laidTests := true, laidLooks := .later }
def PrefixReadsCardSaid : Prop := Claim7.holds Tryz.pinned (.plain (OpenSpec.ofChange prefixReadsSpec)) prefixReadsCard

/-- THE TIED CARD OF 'patchbaylaw15.PrefixMerges'. -/
def prefixMergesCard : Claim7 := { stood := { row := prefixMergesRow, standIns := [], harness := (true, "1990eaeffc0cb1fcaa2992cbbd912b07923de63a7ec811c3781ae9a88c80a0a7"), looks := true }, kinds := [], alts := [], laidByText := true, laidKinds := [.data, .data, .data, .data, .sentinel, .sentinel, .pinned], laidTests := true, laidLooks := .later }
def PrefixMergesCardSaid : Prop := Claim7.holds Tryz.pinned (.plain (OpenSpec.ofChange prefixMergesSpec)) prefixMergesCard

/-- THE TIED CARD OF 'patchbaylaw20.LangReads'. -/
def langReadsCard : Claim7 := { stood := { row := langReadsRow, standIns := [], harness := (true, "1990eaeffc0cb1fcaa2992cbbd912b07923de63a7ec811c3781ae9a88c80a0a7"), looks := true }, kinds := [], alts := [], laidByText := true, laidKinds := [.data, .data, .data, .data, .handle, .sentinel, .sentinel, .pinned], laidTests := true, laidLooks := .later }
def LangReadsCardSaid : Prop := Claim7.holds Tryz.pinned (.plain (OpenSpec.ofChange langReadsSpec)) langReadsCard

/-- THE TIED CARD OF 'patchbaylaw20.LangPrints'. -/
def langPrintsCard : Claim7 := { stood := { row := langPrintsRow, standIns := [], harness := (true, "1990eaeffc0cb1fcaa2992cbbd912b07923de63a7ec811c3781ae9a88c80a0a7"), looks := true }, kinds := [], alts := [], laidByText := true, laidKinds := [.data, .data, .data, .data, .handle, .sentinel, .sentinel, .pinned], laidTests := true, laidLooks := .later }
def LangPrintsCardSaid : Prop := Claim7.holds Tryz.pinned (.plain (OpenSpec.ofChange langPrintsSpec)) langPrintsCard

/-- THE TIED CARD OF 'patchbaylaw20.LangPrintsMatch'. -/
def langPrintsMatchCard : Claim7 := { stood := { row := langPrintsMatchRow, standIns := [], harness := (true, "1990eaeffc0cb1fcaa2992cbbd912b07923de63a7ec811c3781ae9a88c80a0a7"), looks := true }, kinds := [], alts := [], laidByText := true, laidKinds := [.data, .data, .data, .data, .handle, .sentinel, .sentinel, .pinned], laidTests := true, laidLooks := .later }
def LangPrintsMatchCardSaid : Prop := Claim7.holds Tryz.pinned (.plain (OpenSpec.ofChange langPrintsMatchSpec)) langPrintsMatchCard

/-- THE TIED CARD OF 'patchbaylaw20.LangNaming'. -/
def langNamingCard : Claim7 := { stood := { row := langNamingRow, standIns := [], harness := (true, "1990eaeffc0cb1fcaa2992cbbd912b07923de63a7ec811c3781ae9a88c80a0a7"), looks := true }, kinds := [], alts := [], laidByText := true, laidKinds := [.data, .data, .data, .data, .handle, .sentinel, .sentinel, .pinned], laidTests := true, laidLooks := .later }
def LangNamingCardSaid : Prop := Claim7.holds Tryz.pinned (.plain (OpenSpec.ofChange langNamingSpec)) langNamingCard

/-- THE TIED CARD OF 'patchbaylaw20.LangAgain'. -/
def langAgainCard : Claim7 := { stood := { row := langAgainRow, standIns := [], harness := (true, "1990eaeffc0cb1fcaa2992cbbd912b07923de63a7ec811c3781ae9a88c80a0a7"), looks := true }, kinds := [], alts := [], laidByText := true, laidKinds := [.data, .data, .data, .data, .handle, .sentinel, .sentinel, .pinned], laidTests := true, laidLooks := .later }
def LangAgainCardSaid : Prop := Claim7.holds Tryz.pinned (.plain (OpenSpec.ofChange langAgainSpec)) langAgainCard

/-- THE TIED CARD OF 'patchbaylaw20.LangSpaced'. -/
def langSpacedCard : Claim7 := { stood := { row := langSpacedRow, standIns := [], harness := (true, "1990eaeffc0cb1fcaa2992cbbd912b07923de63a7ec811c3781ae9a88c80a0a7"), looks := true }, kinds := [], alts := [], laidByText := true, laidKinds := [.data, .data, .data, .data, .handle, .sentinel, .sentinel, .pinned], laidTests := true, laidLooks := .later }
def LangSpacedCardSaid : Prop := Claim7.holds Tryz.pinned (.plain (OpenSpec.ofChange langSpacedSpec)) langSpacedCard

/-- THE TIED CARD OF 'patchbaylaw20.LangMatches'. -/
def langMatchesCard : Claim7 := { stood := { row := langMatchesRow, standIns := [], harness := (true, "1990eaeffc0cb1fcaa2992cbbd912b07923de63a7ec811c3781ae9a88c80a0a7"), looks := true }, kinds := [], alts := [], laidByText := true, laidKinds := [.data, .data, .data, .data, .handle, .sentinel, .sentinel, .pinned], laidTests := true, laidLooks := .later }
def LangMatchesCardSaid : Prop := Claim7.holds Tryz.pinned (.plain (OpenSpec.ofChange langMatchesSpec)) langMatchesCard

/-- THE TIED CARD OF 'patchbaylaw20.LangBack'. -/
def langBackCard : Claim7 := { stood := { row := langBackRow, standIns := [], harness := (true, "1990eaeffc0cb1fcaa2992cbbd912b07923de63a7ec811c3781ae9a88c80a0a7"), looks := true }, kinds := [], alts := [], laidByText := true, laidKinds := [.data, .data, .data, .data, .handle, .sentinel, .sentinel, .pinned], laidTests := true, laidLooks := .later }
def LangBackCardSaid : Prop := Claim7.holds Tryz.pinned (.plain (OpenSpec.ofChange langBackSpec)) langBackCard

/-- THE TIED CARD OF 'patchbaylaw20.LangNames'. -/
def langNamesCard : Claim7 := { stood := { row := langNamesRow, standIns := [], harness := (true, "1990eaeffc0cb1fcaa2992cbbd912b07923de63a7ec811c3781ae9a88c80a0a7"), looks := true }, kinds := [], alts := [], laidByText := true, laidKinds := [.data, .data, .data, .data, .handle, .sentinel, .sentinel, .pinned], laidTests := true, laidLooks := .later }
def LangNamesCardSaid : Prop := Claim7.holds Tryz.pinned (.plain (OpenSpec.ofChange langNamesSpec)) langNamesCard

/-- THE SECOND FORM's CARD OF 'patchbaylaw15.PrefixReads'. -/
def prefixReadsUptoCard : Claim7 := { stood := { row := prefixReadsUptoRow, standIns := [], harness := (true, "1990eaeffc0cb1fcaa2992cbbd912b07923de63a7ec811c3781ae9a88c80a0a7"), looks := true }, kinds := [], alts := [], laidByText := true, laidKinds := [.data, .data, .data, .data, .sentinel, .sentinel, .pinned], laidTests := true, laidLooks := .later }
def PrefixReadsUptoCardSaid : Prop := Claim7.holds Tryz.pinned (.plain (OpenSpec.upto prefixReadsSpec)) prefixReadsUptoCard

/-- THE SECOND FORM's CARD OF 'patchbaylaw15.PrefixMerges'. -/
def prefixMergesUptoCard : Claim7 := { stood := { row := prefixMergesUptoRow, standIns := [], harness := (true, "1990eaeffc0cb1fcaa2992cbbd912b07923de63a7ec811c3781ae9a88c80a0a7"), looks := true }, kinds := [], alts := [], laidByText := true, laidKinds := [.data, .data, .data, .data, .sentinel, .sentinel, .pinned], laidTests := true, laidLooks := .later }
def PrefixMergesUptoCardSaid : Prop := Claim7.holds Tryz.pinned (.plain (OpenSpec.upto prefixMergesSpec)) prefixMergesUptoCard

/-- THE SECOND FORM's CARD OF 'patchbaylaw20.LangReads'. -/
def langReadsUptoCard : Claim7 := { stood := { row := langReadsUptoRow, standIns := [], harness := (true, "1990eaeffc0cb1fcaa2992cbbd912b07923de63a7ec811c3781ae9a88c80a0a7"), looks := true }, kinds := [], alts := [], laidByText := true, laidKinds := [.data, .data, .data, .data, .handle, .sentinel, .sentinel, .pinned], laidTests := true, laidLooks := .later }
def LangReadsUptoCardSaid : Prop := Claim7.holds Tryz.pinned (.plain (OpenSpec.upto langReadsSpec)) langReadsUptoCard

/-- THE SECOND FORM's CARD OF 'patchbaylaw20.LangPrints'. -/
def langPrintsUptoCard : Claim7 := { stood := { row := langPrintsUptoRow, standIns := [], harness := (true, "1990eaeffc0cb1fcaa2992cbbd912b07923de63a7ec811c3781ae9a88c80a0a7"), looks := true }, kinds := [], alts := [], laidByText := true, laidKinds := [.data, .data, .data, .data, .handle, .sentinel, .sentinel, .pinned], laidTests := true, laidLooks := .later }
def LangPrintsUptoCardSaid : Prop := Claim7.holds Tryz.pinned (.plain (OpenSpec.upto langPrintsSpec)) langPrintsUptoCard

/-- THE SECOND FORM's CARD OF 'patchbaylaw20.LangPrintsMatch'. -/
def langPrintsMatchUptoCard : Claim7 := { stood := { row := langPrintsMatchUptoRow, standIns := [], harness := (true, "1990eaeffc0cb1fcaa2992cbbd912b07923de63a7ec811c3781ae9a88c80a0a7"), looks := true }, kinds := [], alts := [], laidByText := true, laidKinds := [.data, .data, .data, .data, .handle, .sentinel, .sentinel, .pinned], laidTests := true, laidLooks := .later }
def LangPrintsMatchUptoCardSaid : Prop := Claim7.holds Tryz.pinned (.plain (OpenSpec.upto langPrintsMatchSpec)) langPrintsMatchUptoCard

/-- THE SECOND FORM's CARD OF 'patchbaylaw20.LangNaming'. -/
def langNamingUptoCard : Claim7 := { stood := { row := langNamingUptoRow, standIns := [], harness := (true, "1990eaeffc0cb1fcaa2992cbbd912b07923de63a7ec811c3781ae9a88c80a0a7"), looks := true }, kinds := [], alts := [], laidByText := true, laidKinds := [.data, .data, .data, .data, .handle, .sentinel, .sentinel, .pinned], laidTests := true, laidLooks := .later }
def LangNamingUptoCardSaid : Prop := Claim7.holds Tryz.pinned (.plain (OpenSpec.upto langNamingSpec)) langNamingUptoCard

/-- THE SECOND FORM's CARD OF 'patchbaylaw20.LangAgain'. -/
def langAgainUptoCard : Claim7 := { stood := { row := langAgainUptoRow, standIns := [], harness := (true, "1990eaeffc0cb1fcaa2992cbbd912b07923de63a7ec811c3781ae9a88c80a0a7"), looks := true }, kinds := [], alts := [], laidByText := true, laidKinds := [.data, .data, .data, .data, .handle, .sentinel, .sentinel, .pinned], laidTests := true, laidLooks := .later }
def LangAgainUptoCardSaid : Prop := Claim7.holds Tryz.pinned (.plain (OpenSpec.upto langAgainSpec)) langAgainUptoCard

/-- THE SECOND FORM's CARD OF 'patchbaylaw20.LangSpaced'. -/
def langSpacedUptoCard : Claim7 := { stood := { row := langSpacedUptoRow, standIns := [], harness := (true, "1990eaeffc0cb1fcaa2992cbbd912b07923de63a7ec811c3781ae9a88c80a0a7"), looks := true }, kinds := [], alts := [], laidByText := true, laidKinds := [.data, .data, .data, .data, .handle, .sentinel, .sentinel, .pinned], laidTests := true, laidLooks := .later }
def LangSpacedUptoCardSaid : Prop := Claim7.holds Tryz.pinned (.plain (OpenSpec.upto langSpacedSpec)) langSpacedUptoCard

/-- THE SECOND FORM's CARD OF 'patchbaylaw20.LangMatches'. -/
def langMatchesUptoCard : Claim7 := { stood := { row := langMatchesUptoRow, standIns := [], harness := (true, "1990eaeffc0cb1fcaa2992cbbd912b07923de63a7ec811c3781ae9a88c80a0a7"), looks := true }, kinds := [], alts := [], laidByText := true, laidKinds := [.data, .data, .data, .data, .handle, .sentinel, .sentinel, .pinned], laidTests := true, laidLooks := .later }
def LangMatchesUptoCardSaid : Prop := Claim7.holds Tryz.pinned (.plain (OpenSpec.upto langMatchesSpec)) langMatchesUptoCard

/-- THE SECOND FORM's CARD OF 'patchbaylaw20.LangBack'. -/
def langBackUptoCard : Claim7 := { stood := { row := langBackUptoRow, standIns := [], harness := (true, "1990eaeffc0cb1fcaa2992cbbd912b07923de63a7ec811c3781ae9a88c80a0a7"), looks := true }, kinds := [], alts := [], laidByText := true, laidKinds := [.data, .data, .data, .data, .handle, .sentinel, .sentinel, .pinned], laidTests := true, laidLooks := .later }
def LangBackUptoCardSaid : Prop := Claim7.holds Tryz.pinned (.plain (OpenSpec.upto langBackSpec)) langBackUptoCard

/-- THE SECOND FORM's CARD OF 'patchbaylaw20.LangNames'. -/
def langNamesUptoCard : Claim7 := { stood := { row := langNamesUptoRow, standIns := [], harness := (true, "1990eaeffc0cb1fcaa2992cbbd912b07923de63a7ec811c3781ae9a88c80a0a7"), looks := true }, kinds := [], alts := [], laidByText := true, laidKinds := [.data, .data, .data, .data, .handle, .sentinel, .sentinel, .pinned], laidTests := true, laidLooks := .later }
def LangNamesUptoCardSaid : Prop := Claim7.holds Tryz.pinned (.plain (OpenSpec.upto langNamesSpec)) langNamesUptoCard
end Rows
end Go.Proofs.YtnncigmpcdehnaaGreatDoor
