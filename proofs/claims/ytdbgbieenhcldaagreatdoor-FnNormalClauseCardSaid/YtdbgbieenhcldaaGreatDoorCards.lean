/-
  DERIVED. GIVEN WITH THE SEED: THE CARDS: each row of YtdbgbieenhcldaaGreatDoorRows.lean that lists a variable, with what it lists TIED to the program's text (the seventh form; the later family's looks); each row that meets fmt, with fmt's text TOLD by the authors' own Lean function (tested against real Go, not proved from fmt's source: count such statements apart). THE CARD IS WHAT COUNTS. Prove the row's statement (the work); the ties are given (YtdbgbieenhcldaaGreatDoorTie.lean); close each card by the builder's one call (the guide's Derived/Test/ToyasCard.lean, 'card_holds'). Laid BY PROGRAM, IN A SANDBOX (cutbox-door.mjs). By AI agents, Wed Nov 11 2026. No macro, syntax, notation, axiom, sorry.
-/
import Derived.Test.YtdbgbieenhcldaaGreatDoorRows
import GoSem.ClaimSeven
namespace Go.Proofs.YtdbgbieenhcldaaGreatDoor
namespace Rows

/-- THE TIED CARD OF 'laws.FnNormalClause'. -/
def fnNormalClauseCard : Claim7 := { stood := { row := fnNormalClauseRow, standIns := [], harness := (true, "57cd341e708128fd77470a876c26519b6d5375800ac6ee8fb692e492d614d827"), looks := false }, kinds := [], alts := [], laidByText := true, laidKinds := [.data, .data, .data], laidTests := true, laidLooks := .later }
def FnNormalClauseCardSaid : Prop := Claim7.holds Tryz.pinned (.plain (OpenSpec.ofChange fnNormalClauseSpec)) fnNormalClauseCard

/-- THE TIED CARD OF 'laws.FnResolution'. -/
def fnResolutionCard : Claim7 := { stood := { row := fnResolutionRow, standIns := [], harness := (true, "57cd341e708128fd77470a876c26519b6d5375800ac6ee8fb692e492d614d827"), looks := false }, kinds := [], alts := [], laidByText := true, laidKinds := [.data, .data, .data], laidTests := true, laidLooks := .later }
def FnResolutionCardSaid : Prop := Claim7.holds Tryz.pinned (.plain (OpenSpec.ofChange fnResolutionSpec)) fnResolutionCard

/-- THE TIED CARD OF 'laws.FnHyper'. -/
def fnHyperCard : Claim7 := { stood := { row := fnHyperRow, standIns := [], harness := (true, "57cd341e708128fd77470a876c26519b6d5375800ac6ee8fb692e492d614d827"), looks := false }, kinds := [], alts := [], laidByText := true, laidKinds := [.data, .data, .data], laidTests := true, laidLooks := .later }
def FnHyperCardSaid : Prop := Claim7.holds Tryz.pinned (.plain (OpenSpec.ofChange fnHyperSpec)) fnHyperCard

/-- THE SECOND FORM's CARD OF 'laws.FnNormalClause'. -/
def fnNormalClauseUptoCard : Claim7 := { stood := { row := fnNormalClauseUptoRow, standIns := [], harness := (true, "57cd341e708128fd77470a876c26519b6d5375800ac6ee8fb692e492d614d827"), looks := false }, kinds := [], alts := [], laidByText := true, laidKinds := [.data, .data, .data], laidTests := true, laidLooks := .later }
def FnNormalClauseUptoCardSaid : Prop := Claim7.holds Tryz.pinned (.plain (OpenSpec.upto fnNormalClauseSpec)) fnNormalClauseUptoCard

/-- THE SECOND FORM's CARD OF 'laws.FnResolution'. -/
def fnResolutionUptoCard : Claim7 := { stood := { row := fnResolutionUptoRow, standIns := [], harness := (true, "57cd341e708128fd77470a876c26519b6d5375800ac6ee8fb692e492d614d827"), looks := false }, kinds := [], alts := [], laidByText := true, laidKinds := [.data, .data, .data], laidTests := true, laidLooks := .later }
def FnResolutionUptoCardSaid : Prop := Claim7.holds Tryz.pinned (.plain (OpenSpec.upto fnResolutionSpec)) fnResolutionUptoCard

/-- THE SECOND FORM's CARD OF 'laws.FnHyper'. -/
def fnHyperUptoCard : Claim7 := { stood := { row := fnHyperUptoRow, standIns := [], harness := (true, "57cd341e708128fd77470a876c26519b6d5375800ac6ee8fb692e492d614d827"), looks := false }, kinds := [], alts := [], laidByText := true, laidKinds := [.data, .data, .data], laidTests := true, laidLooks := .later }
def FnHyperUptoCardSaid : Prop := Claim7.holds Tryz.pinned (.plain (OpenSpec.upto fnHyperSpec)) fnHyperUptoCard
end Rows
end Go.Proofs.YtdbgbieenhcldaaGreatDoor
