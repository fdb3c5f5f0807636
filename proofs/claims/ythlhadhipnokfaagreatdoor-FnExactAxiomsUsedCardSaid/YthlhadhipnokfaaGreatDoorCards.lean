/-
  DERIVED. GIVEN WITH THE SEED: THE CARDS: each row of YthlhadhipnokfaaGreatDoorRows.lean that lists a variable, with what it lists TIED to the program's text (the seventh form; the later family's looks); each row that meets fmt, with fmt's text TOLD by the authors' own Lean function (tested against real Go, not proved from fmt's source: count such statements apart). THE CARD IS WHAT COUNTS. Prove the row's statement (the work); the ties are given (YthlhadhipnokfaaGreatDoorTie.lean); close each card by the builder's one call (the guide's Derived/Test/ToyasCard.lean, 'card_holds'). Laid BY PROGRAM, IN A SANDBOX (cutbox-door.mjs). By AI agents, Wed Nov 11 2026. No macro, syntax, notation, axiom, sorry.
-/
import Derived.Test.YthlhadhipnokfaaGreatDoorRows
import GoSem.ClaimSeven
namespace Go.Proofs.YthlhadhipnokfaaGreatDoor
namespace Rows

/-- THE TIED CARD OF 'laws.FnExactAncestors'. -/
def fnExactAncestorsCard : Claim7 := { stood := { row := fnExactAncestorsRow, standIns := [], harness := (true, "6fff523f9726d3ba204d95280f9959500f0ed95e9b564ae5a3c573e1cf0bdf8c"), looks := false }, kinds := [], alts := [], laidByText := true, laidKinds := [.data, .data, .data], laidTests := true, laidLooks := .later }
def FnExactAncestorsCardSaid : Prop := Claim7.holds Tryz.pinned (.plain (OpenSpec.ofChange fnExactAncestorsSpec)) fnExactAncestorsCard

/-- THE TIED CARD OF 'laws.FnExactAxiomsUsed'. -/
def fnExactAxiomsUsedCard : Claim7 := { stood := { row := fnExactAxiomsUsedRow, standIns := [], harness := (true, "6fff523f9726d3ba204d95280f9959500f0ed95e9b564ae5a3c573e1cf0bdf8c"), looks := false }, kinds := [], alts := [], laidByText := true, laidKinds := [.data, .data, .data], laidTests := true, laidLooks := .later }
def FnExactAxiomsUsedCardSaid : Prop := Claim7.holds Tryz.pinned (.plain (OpenSpec.ofChange fnExactAxiomsUsedSpec)) fnExactAxiomsUsedCard

/-- THE TIED CARD OF 'laws.FnExactTrimProof'. -/
def fnExactTrimProofCard : Claim7 := { stood := { row := fnExactTrimProofRow, standIns := [], harness := (true, "6fff523f9726d3ba204d95280f9959500f0ed95e9b564ae5a3c573e1cf0bdf8c"), looks := false }, kinds := [], alts := [], laidByText := true, laidKinds := [.data, .data, .data], laidTests := true, laidLooks := .later }
def FnExactTrimProofCardSaid : Prop := Claim7.holds Tryz.pinned (.plain (OpenSpec.ofChange fnExactTrimProofSpec)) fnExactTrimProofCard

/-- THE SECOND FORM's CARD OF 'laws.FnExactAncestors'. -/
def fnExactAncestorsUptoCard : Claim7 := { stood := { row := fnExactAncestorsUptoRow, standIns := [], harness := (true, "6fff523f9726d3ba204d95280f9959500f0ed95e9b564ae5a3c573e1cf0bdf8c"), looks := false }, kinds := [], alts := [], laidByText := true, laidKinds := [.data, .data, .data], laidTests := true, laidLooks := .later }
def FnExactAncestorsUptoCardSaid : Prop := Claim7.holds Tryz.pinned (.plain (OpenSpec.upto fnExactAncestorsSpec)) fnExactAncestorsUptoCard

/-- THE SECOND FORM's CARD OF 'laws.FnExactAxiomsUsed'. -/
def fnExactAxiomsUsedUptoCard : Claim7 := { stood := { row := fnExactAxiomsUsedUptoRow, standIns := [], harness := (true, "6fff523f9726d3ba204d95280f9959500f0ed95e9b564ae5a3c573e1cf0bdf8c"), looks := false }, kinds := [], alts := [], laidByText := true, laidKinds := [.data, .data, .data], laidTests := true, laidLooks := .later }
def FnExactAxiomsUsedUptoCardSaid : Prop := Claim7.holds Tryz.pinned (.plain (OpenSpec.upto fnExactAxiomsUsedSpec)) fnExactAxiomsUsedUptoCard

/-- THE SECOND FORM's CARD OF 'laws.FnExactTrimProof'. -/
def fnExactTrimProofUptoCard : Claim7 := { stood := { row := fnExactTrimProofUptoRow, standIns := [], harness := (true, "6fff523f9726d3ba204d95280f9959500f0ed95e9b564ae5a3c573e1cf0bdf8c"), looks := false }, kinds := [], alts := [], laidByText := true, laidKinds := [.data, .data, .data], laidTests := true, laidLooks := .later }
def FnExactTrimProofUptoCardSaid : Prop := Claim7.holds Tryz.pinned (.plain (OpenSpec.upto fnExactTrimProofSpec)) fnExactTrimProofUptoCard
end Rows
end Go.Proofs.YthlhadhipnokfaaGreatDoor
