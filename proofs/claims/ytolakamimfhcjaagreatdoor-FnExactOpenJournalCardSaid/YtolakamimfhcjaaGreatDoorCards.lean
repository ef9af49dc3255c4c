/-
  DERIVED. GIVEN WITH THE SEED: THE CARDS: each row of YtolakamimfhcjaaGreatDoorRows.lean that lists a variable, with what it lists TIED to the program's text (the seventh form; the later family's looks); each row that meets fmt, with fmt's text TOLD by the authors' own Lean function (tested against real Go, not proved from fmt's source: count such statements apart). THE CARD IS WHAT COUNTS. Prove the row's statement (the work); the ties are given (YtolakamimfhcjaaGreatDoorTie.lean); close each card by the builder's one call (the guide's Derived/Test/ToyasCard.lean, 'card_holds'). Laid BY PROGRAM, IN A SANDBOX (cutbox-door.mjs). By AI agents, Wed Nov 11 2026. No macro, syntax, notation, axiom, sorry.
-/
import Derived.Test.YtolakamimfhcjaaGreatDoorRows
import GoSem.ClaimSeven
namespace Go.Proofs.YtolakamimfhcjaaGreatDoor
namespace Rows

/-- THE TIED CARD OF 'laws.FnExactOpenJournal'. -/
def fnExactOpenJournalCard : Claim7 := { stood := { row := fnExactOpenJournalRow, standIns := [], harness := (true, "e93ceac5fd380255d8d6ebebb3a9e1caae85bfa9dea3d3d3991dbbed5141cbd0"), looks := true }, kinds := [], alts := [], laidByText := true, laidKinds := [.data, .data, .data, .sentinel, .sentinel], laidTests := true, laidLooks := .later }
def FnExactOpenJournalCardSaid : Prop := Claim7.holds Tryz.pinned (.plain (OpenSpec.ofChange fnExactOpenJournalSpec)) fnExactOpenJournalCard

/-- THE SECOND FORM's CARD OF 'laws.FnExactOpenJournal'. -/
def fnExactOpenJournalUptoCard : Claim7 := { stood := { row := fnExactOpenJournalUptoRow, standIns := [], harness := (true, "e93ceac5fd380255d8d6ebebb3a9e1caae85bfa9dea3d3d3991dbbed5141cbd0"), looks := true }, kinds := [], alts := [], laidByText := true, laidKinds := [.data, .data, .data, .sentinel, .sentinel], laidTests := true, laidLooks := .later }
def FnExactOpenJournalUptoCardSaid : Prop := Claim7.holds Tryz.pinned (.plain (OpenSpec.upto fnExactOpenJournalSpec)) fnExactOpenJournalUptoCard
end Rows
end Go.Proofs.YtolakamimfhcjaaGreatDoor
