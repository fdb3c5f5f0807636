/-
  DERIVED. GIVEN WITH THE SEED: THE CARDS: each row of YtoaifmomhaneiaaGreatDoorRows.lean that lists a variable, with what it lists TIED to the program's text (the seventh form; the later family's looks); each row that meets fmt, with fmt's text TOLD by the authors' own Lean function (tested against real Go, not proved from fmt's source: count such statements apart). THE CARD IS WHAT COUNTS. Prove the row's statement (the work); the ties are given (YtoaifmomhaneiaaGreatDoorTie.lean); close each card by the builder's one call (the guide's Derived/Test/ToyasCard.lean, 'card_holds'). Laid BY PROGRAM, IN A SANDBOX (cutbox-door.mjs). By AI agents, Wed Nov 11 2026. No macro, syntax, notation, axiom, sorry.
-/
import Derived.Test.YtoaifmomhaneiaaGreatDoorRows
import GoSem.ClaimSeven
namespace Go.Proofs.YtoaifmomhaneiaaGreatDoor
namespace Rows

/-- THE TIED CARD OF 'laws.FnExactIsCorrectStep'. -/
def fnExactIsCorrectStepCard : Claim7 := { stood := { row := fnExactIsCorrectStepRow, standIns := [], harness := (true, "91072cfe497c3e58a53c556e0bd5e4bbb0a70d9d1513207670f20a727d342b04"), looks := false }, kinds := [], alts := [], laidByText := true, laidKinds := [.data, .data, .data], laidTests := true, laidLooks := .later }
def FnExactIsCorrectStepCardSaid : Prop := Claim7.holds Tryz.pinned (.plain (OpenSpec.ofChange fnExactIsCorrectStepSpec)) fnExactIsCorrectStepCard

/-- THE TIED CARD OF 'laws.FnExactIsValidProof'. -/
def fnExactIsValidProofCard : Claim7 := { stood := { row := fnExactIsValidProofRow, standIns := [], harness := (true, "91072cfe497c3e58a53c556e0bd5e4bbb0a70d9d1513207670f20a727d342b04"), looks := false }, kinds := [], alts := [], laidByText := true, laidKinds := [.data, .data, .data], laidTests := true, laidLooks := .later }
def FnExactIsValidProofCardSaid : Prop := Claim7.holds Tryz.pinned (.plain (OpenSpec.ofChange fnExactIsValidProofSpec)) fnExactIsValidProofCard

/-- THE TIED CARD OF 'laws.FnExactIsRefutation'. -/
def fnExactIsRefutationCard : Claim7 := { stood := { row := fnExactIsRefutationRow, standIns := [], harness := (true, "91072cfe497c3e58a53c556e0bd5e4bbb0a70d9d1513207670f20a727d342b04"), looks := false }, kinds := [], alts := [], laidByText := true, laidKinds := [.data, .data, .data], laidTests := true, laidLooks := .later }
def FnExactIsRefutationCardSaid : Prop := Claim7.holds Tryz.pinned (.plain (OpenSpec.ofChange fnExactIsRefutationSpec)) fnExactIsRefutationCard

/-- THE TIED CARD OF 'laws.FnExactFirstIncorrect'. -/
def fnExactFirstIncorrectCard : Claim7 := { stood := { row := fnExactFirstIncorrectRow, standIns := [], harness := (true, "91072cfe497c3e58a53c556e0bd5e4bbb0a70d9d1513207670f20a727d342b04"), looks := false }, kinds := [], alts := [], laidByText := true, laidKinds := [.data, .data, .data], laidTests := true, laidLooks := .later }
def FnExactFirstIncorrectCardSaid : Prop := Claim7.holds Tryz.pinned (.plain (OpenSpec.ofChange fnExactFirstIncorrectSpec)) fnExactFirstIncorrectCard

/-- THE TIED CARD OF 'laws.FnExactProofDepth'. -/
def fnExactProofDepthCard : Claim7 := { stood := { row := fnExactProofDepthRow, standIns := [], harness := (true, "91072cfe497c3e58a53c556e0bd5e4bbb0a70d9d1513207670f20a727d342b04"), looks := false }, kinds := [], alts := [], laidByText := true, laidKinds := [.data, .data, .data], laidTests := true, laidLooks := .later }
def FnExactProofDepthCardSaid : Prop := Claim7.holds Tryz.pinned (.plain (OpenSpec.ofChange fnExactProofDepthSpec)) fnExactProofDepthCard

/-- THE TIED CARD OF 'laws.FnExactIsValidSearch'. -/
def fnExactIsValidSearchCard : Claim7 := { stood := { row := fnExactIsValidSearchRow, standIns := [], harness := (true, "91072cfe497c3e58a53c556e0bd5e4bbb0a70d9d1513207670f20a727d342b04"), looks := false }, kinds := [], alts := [], laidByText := true, laidKinds := [.data, .data, .data], laidTests := true, laidLooks := .later }
def FnExactIsValidSearchCardSaid : Prop := Claim7.holds Tryz.pinned (.plain (OpenSpec.ofChange fnExactIsValidSearchSpec)) fnExactIsValidSearchCard

/-- THE TIED CARD OF 'laws.FnExactAncestors'. -/
def fnExactAncestorsCard : Claim7 := { stood := { row := fnExactAncestorsRow, standIns := [], harness := (true, "91072cfe497c3e58a53c556e0bd5e4bbb0a70d9d1513207670f20a727d342b04"), looks := false }, kinds := [], alts := [], laidByText := true, laidKinds := [.data, .data, .data], laidTests := true, laidLooks := .later }
def FnExactAncestorsCardSaid : Prop := Claim7.holds Tryz.pinned (.plain (OpenSpec.ofChange fnExactAncestorsSpec)) fnExactAncestorsCard

/-- THE TIED CARD OF 'laws.FnExactSelectGiven'. -/
def fnExactSelectGivenCard : Claim7 := { stood := { row := fnExactSelectGivenRow, standIns := [], harness := (true, "91072cfe497c3e58a53c556e0bd5e4bbb0a70d9d1513207670f20a727d342b04"), looks := false }, kinds := [], alts := [], laidByText := true, laidKinds := [.data, .data, .data], laidTests := true, laidLooks := .later }
def FnExactSelectGivenCardSaid : Prop := Claim7.holds Tryz.pinned (.plain (OpenSpec.ofChange fnExactSelectGivenSpec)) fnExactSelectGivenCard

/-- THE TIED CARD OF 'laws.FnExactAxiomsUsed'. -/
def fnExactAxiomsUsedCard : Claim7 := { stood := { row := fnExactAxiomsUsedRow, standIns := [], harness := (true, "91072cfe497c3e58a53c556e0bd5e4bbb0a70d9d1513207670f20a727d342b04"), looks := false }, kinds := [], alts := [], laidByText := true, laidKinds := [.data, .data, .data], laidTests := true, laidLooks := .later }
def FnExactAxiomsUsedCardSaid : Prop := Claim7.holds Tryz.pinned (.plain (OpenSpec.ofChange fnExactAxiomsUsedSpec)) fnExactAxiomsUsedCard

/-- THE SECOND FORM's CARD OF 'laws.FnExactIsCorrectStep'. -/
def fnExactIsCorrectStepUptoCard : Claim7 := { stood := { row := fnExactIsCorrectStepUptoRow, standIns := [], harness := (true, "91072cfe497c3e58a53c556e0bd5e4bbb0a70d9d1513207670f20a727d342b04"), looks := false }, kinds := [], alts := [], laidByText := true, laidKinds := [.data, .data, .data], laidTests := true, laidLooks := .later }
def FnExactIsCorrectStepUptoCardSaid : Prop := Claim7.holds Tryz.pinned (.plain (OpenSpec.upto fnExactIsCorrectStepSpec)) fnExactIsCorrectStepUptoCard

/-- THE SECOND FORM's CARD OF 'laws.FnExactIsValidProof'. -/
def fnExactIsValidProofUptoCard : Claim7 := { stood := { row := fnExactIsValidProofUptoRow, standIns := [], harness := (true, "91072cfe497c3e58a53c556e0bd5e4bbb0a70d9d1513207670f20a727d342b04"), looks := false }, kinds := [], alts := [], laidByText := true, laidKinds := [.data, .data, .data], laidTests := true, laidLooks := .later }
def FnExactIsValidProofUptoCardSaid : Prop := Claim7.holds Tryz.pinned (.plain (OpenSpec.upto fnExactIsValidProofSpec)) fnExactIsValidProofUptoCard

/-- THE SECOND FORM's CARD OF 'laws.FnExactIsRefutation'. -/
def fnExactIsRefutationUptoCard : Claim7 := { stood := { row := fnExactIsRefutationUptoRow, standIns := [], harness := (true, "91072cfe497c3e58a53c556e0bd5e4bbb0a70d9d1513207670f20a727d342b04"), looks := false }, kinds := [], alts := [], laidByText := true, laidKinds := [.data, .data, .data], laidTests := true, laidLooks := .later }
def FnExactIsRefutationUptoCardSaid : Prop := Claim7.holds Tryz.pinned (.plain (OpenSpec.upto fnExactIsRefutationSpec)) fnExactIsRefutationUptoCard

/-- THE SECOND FORM's CARD OF 'laws.FnExactFirstIncorrect'. -/
def fnExactFirstIncorrectUptoCard : Claim7 := { stood := { row := fnExactFirstIncorrectUptoRow, standIns := [], harness := (true, "91072cfe497c3e58a53c556e0bd5e4bbb0a70d9d1513207670f20a727d342b04"), looks := false }, kinds := [], alts := [], laidByText := true, laidKinds := [.data, .data, .data], laidTests := true, laidLooks := .later }
def FnExactFirstIncorrectUptoCardSaid : Prop := Claim7.holds Tryz.pinned (.plain (OpenSpec.upto fnExactFirstIncorrectSpec)) fnExactFirstIncorrectUptoCard

/-- THE SECOND FORM's CARD OF 'laws.FnExactProofDepth'. -/
def fnExactProofDepthUptoCard : Claim7 := { stood := { row := fnExactProofDepthUptoRow, standIns := [], harness := (true, "91072cfe497c3e58a53c556e0bd5e4bbb0a70d9d1513207670f20a727d342b04"), looks := false }, kinds := [], alts := [], laidByText := true, laidKinds := [.data, .data, .data], laidTests := true, laidLooks := .later }
def FnExactProofDepthUptoCardSaid : Prop := Claim7.holds Tryz.pinned (.plain (OpenSpec.upto fnExactProofDepthSpec)) fnExactProofDepthUptoCard

/-- THE SECOND FORM's CARD OF 'laws.FnExactIsValidSearch'. -/
def fnExactIsValidSearchUptoCard : Claim7 := { stood := { row := fnExactIsValidSearchUptoRow, standIns := [], harness := (true, "91072cfe497c3e58a53c556e0bd5e4bbb0a70d9d1513207670f20a727d342b04"), looks := false }, kinds := [], alts := [], laidByText := true, laidKinds := [.data, .data, .data], laidTests := true, laidLooks := .later }
def FnExactIsValidSearchUptoCardSaid : Prop := Claim7.holds Tryz.pinned (.plain (OpenSpec.upto fnExactIsValidSearchSpec)) fnExactIsValidSearchUptoCard

/-- THE SECOND FORM's CARD OF 'laws.FnExactAncestors'. -/
def fnExactAncestorsUptoCard : Claim7 := { stood := { row := fnExactAncestorsUptoRow, standIns := [], harness := (true, "91072cfe497c3e58a53c556e0bd5e4bbb0a70d9d1513207670f20a727d342b04"), looks := false }, kinds := [], alts := [], laidByText := true, laidKinds := [.data, .data, .data], laidTests := true, laidLooks := .later }
def FnExactAncestorsUptoCardSaid : Prop := Claim7.holds Tryz.pinned (.plain (OpenSpec.upto fnExactAncestorsSpec)) fnExactAncestorsUptoCard

/-- THE SECOND FORM's CARD OF 'laws.FnExactSelectGiven'. -/
def fnExactSelectGivenUptoCard : Claim7 := { stood := { row := fnExactSelectGivenUptoRow, standIns := [], harness := (true, "91072cfe497c3e58a53c556e0bd5e4bbb0a70d9d1513207670f20a727d342b04"), looks := false }, kinds := [], alts := [], laidByText := true, laidKinds := [.data, .data, .data], laidTests := true, laidLooks := .later }
def FnExactSelectGivenUptoCardSaid : Prop := Claim7.holds Tryz.pinned (.plain (OpenSpec.upto fnExactSelectGivenSpec)) fnExactSelectGivenUptoCard

/-- THE SECOND FORM's CARD OF 'laws.FnExactAxiomsUsed'. -/
def fnExactAxiomsUsedUptoCard : Claim7 := { stood := { row := fnExactAxiomsUsedUptoRow, standIns := [], harness := (true, "91072cfe497c3e58a53c556e0bd5e4bbb0a70d9d1513207670f20a727d342b04"), looks := false }, kinds := [], alts := [], laidByText := true, laidKinds := [.data, .data, .data], laidTests := true, laidLooks := .later }
def FnExactAxiomsUsedUptoCardSaid : Prop := Claim7.holds Tryz.pinned (.plain (OpenSpec.upto fnExactAxiomsUsedSpec)) fnExactAxiomsUsedUptoCard
end Rows
end Go.Proofs.YtoaifmomhaneiaaGreatDoor
