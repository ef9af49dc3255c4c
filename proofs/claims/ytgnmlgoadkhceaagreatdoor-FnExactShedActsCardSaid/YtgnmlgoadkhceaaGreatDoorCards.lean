/-
  DERIVED. GIVEN WITH THE SEED: THE CARDS: each row of YtgnmlgoadkhceaaGreatDoorRows.lean that lists a variable, with what it lists TIED to the program's text (the seventh form; the later family's looks); each row that meets fmt, with fmt's text TOLD by the authors' own Lean function (tested against real Go, not proved from fmt's source: count such statements apart). THE CARD IS WHAT COUNTS. Prove the row's statement (the work); the ties are given (YtgnmlgoadkhceaaGreatDoorTie.lean); close each card by the builder's one call (the guide's Derived/Test/ToyasCard.lean, 'card_holds'). Laid BY PROGRAM, IN A SANDBOX (cutbox-door.mjs). By AI agents, Wed Nov 11 2026. No macro, syntax, notation, axiom, sorry.
-/
import Derived.Test.YtgnmlgoadkhceaaGreatDoorRows
import GoSem.ClaimSeven
namespace Go.Proofs.YtgnmlgoadkhceaaGreatDoor
namespace Rows

/-- THE TIED CARD OF 'laws.FnExactOpenJournal'. -/
def fnExactOpenJournalCard : Claim7 := { stood := { row := fnExactOpenJournalRow, standIns := [], harness := (true, "cd4cf8c0f32f6bc6cd6351c72e3a49dbad076282e2b90fad127fa4cad13f0ef8"), looks := true }, kinds := [], alts := [], laidByText := true, laidKinds := [.data, .data, .data, .sentinel, .sentinel], laidTests := true, laidLooks := .later }
def FnExactOpenJournalCardSaid : Prop := Claim7.holds Tryz.pinned (.plain (OpenSpec.ofChange fnExactOpenJournalSpec)) fnExactOpenJournalCard

/-- THE TIED CARD OF 'laws.FnExactNewestSnap'. -/
def fnExactNewestSnapCard : Claim7 := { stood := { row := fnExactNewestSnapRow, standIns := [], harness := (true, "cd4cf8c0f32f6bc6cd6351c72e3a49dbad076282e2b90fad127fa4cad13f0ef8"), looks := true }, kinds := [], alts := [], laidByText := true, laidKinds := [.data, .data, .data, .sentinel, .sentinel], laidTests := true, laidLooks := .later }
def FnExactNewestSnapCardSaid : Prop := Claim7.holds Tryz.pinned (.plain (OpenSpec.ofChange fnExactNewestSnapSpec)) fnExactNewestSnapCard

/-- THE TIED CARD OF 'laws.FnExactShedActs'. -/
def fnExactShedActsCard : Claim7 := { stood := { row := fnExactShedActsRow, standIns := [], harness := (true, "cd4cf8c0f32f6bc6cd6351c72e3a49dbad076282e2b90fad127fa4cad13f0ef8"), looks := true }, kinds := [], alts := [], laidByText := true, laidKinds := [.data, .data, .data, .sentinel, .sentinel], laidTests := true, laidLooks := .later }
def FnExactShedActsCardSaid : Prop := Claim7.holds Tryz.pinned (.plain (OpenSpec.ofChange fnExactShedActsSpec)) fnExactShedActsCard

/-- THE SECOND FORM's CARD OF 'laws.FnExactOpenJournal'. -/
def fnExactOpenJournalUptoCard : Claim7 := { stood := { row := fnExactOpenJournalUptoRow, standIns := [], harness := (true, "cd4cf8c0f32f6bc6cd6351c72e3a49dbad076282e2b90fad127fa4cad13f0ef8"), looks := true }, kinds := [], alts := [], laidByText := true, laidKinds := [.data, .data, .data, .sentinel, .sentinel], laidTests := true, laidLooks := .later }
def FnExactOpenJournalUptoCardSaid : Prop := Claim7.holds Tryz.pinned (.plain (OpenSpec.upto fnExactOpenJournalSpec)) fnExactOpenJournalUptoCard

/-- THE SECOND FORM's CARD OF 'laws.FnExactNewestSnap'. -/
def fnExactNewestSnapUptoCard : Claim7 := { stood := { row := fnExactNewestSnapUptoRow, standIns := [], harness := (true, "cd4cf8c0f32f6bc6cd6351c72e3a49dbad076282e2b90fad127fa4cad13f0ef8"), looks := true }, kinds := [], alts := [], laidByText := true, laidKinds := [.data, .data, .data, .sentinel, .sentinel], laidTests := true, laidLooks := .later }
def FnExactNewestSnapUptoCardSaid : Prop := Claim7.holds Tryz.pinned (.plain (OpenSpec.upto fnExactNewestSnapSpec)) fnExactNewestSnapUptoCard

/-- THE SECOND FORM's CARD OF 'laws.FnExactShedActs'. -/
def fnExactShedActsUptoCard : Claim7 := { stood := { row := fnExactShedActsUptoRow, standIns := [], harness := (true, "cd4cf8c0f32f6bc6cd6351c72e3a49dbad076282e2b90fad127fa4cad13f0ef8"), looks := true }, kinds := [], alts := [], laidByText := true, laidKinds := [.data, .data, .data, .sentinel, .sentinel], laidTests := true, laidLooks := .later }
def FnExactShedActsUptoCardSaid : Prop := Claim7.holds Tryz.pinned (.plain (OpenSpec.upto fnExactShedActsSpec)) fnExactShedActsUptoCard
end Rows
end Go.Proofs.YtgnmlgoadkhceaaGreatDoor
