/-
  DERIVED. GIVEN WITH THE SEED: THE CARDS: each row of YtgnmlgoadkhceaaDoorRows.lean that lists a variable, with what it lists TIED to the program's text (the seventh form; the later family's looks); each row that meets fmt, with fmt's text TOLD by the authors' own Lean function (tested against real Go, not proved from fmt's source: count such statements apart). THE CARD IS WHAT COUNTS. Prove the row's statement (the work); the ties are given (YtgnmlgoadkhceaaDoorTie.lean); close each card by the builder's one call (the guide's Derived/Test/ToyasCard.lean, 'card_holds'). Laid BY PROGRAM, IN A SANDBOX (cutbox-door.mjs). By AI agents, Wed Nov 11 2026. No macro, syntax, notation, axiom, sorry.
-/
import Derived.Test.YtgnmlgoadkhceaaDoorRows
import GoSem.ClaimSeven
namespace Go.Proofs.YtgnmlgoadkhceaaDoor
namespace Rows

/-- THE TIED CARD OF 'laws.FnExactDecimal'. -/
def fnExactDecimalCard : Claim7 := { stood := { row := fnExactDecimalRow, standIns := [], harness := (true, "d0caafd6de98d133bbccf1178ed01912165edc0df0eb58fca103db0739da26ee"), looks := true }, kinds := [], alts := [], laidByText := true, laidKinds := [.data, .data, .data], laidTests := true, laidLooks := .later }
def FnExactDecimalCardSaid : Prop := Claim7.holds Tryd.pinned (.plain (OpenSpec.ofChange fnExactDecimalSpec)) fnExactDecimalCard

/-- THE TIED CARD OF 'laws.FnExactJournalName'. -/
def fnExactJournalNameCard : Claim7 := { stood := { row := fnExactJournalNameRow, standIns := [], harness := (true, "d0caafd6de98d133bbccf1178ed01912165edc0df0eb58fca103db0739da26ee"), looks := true }, kinds := [], alts := [], laidByText := true, laidKinds := [.data, .data, .data], laidTests := true, laidLooks := .later }
def FnExactJournalNameCardSaid : Prop := Claim7.holds Tryd.pinned (.plain (OpenSpec.ofChange fnExactJournalNameSpec)) fnExactJournalNameCard

/-- THE TIED CARD OF 'laws.FnExactSnapName'. -/
def fnExactSnapNameCard : Claim7 := { stood := { row := fnExactSnapNameRow, standIns := [], harness := (true, "d0caafd6de98d133bbccf1178ed01912165edc0df0eb58fca103db0739da26ee"), looks := true }, kinds := [], alts := [], laidByText := true, laidKinds := [.data, .data, .data], laidTests := true, laidLooks := .later }
def FnExactSnapNameCardSaid : Prop := Claim7.holds Tryd.pinned (.plain (OpenSpec.ofChange fnExactSnapNameSpec)) fnExactSnapNameCard

/-- THE TIED CARD OF 'laws.FnExactReadDecimal'. -/
def fnExactReadDecimalCard : Claim7 := { stood := { row := fnExactReadDecimalRow, standIns := [], harness := (true, "d0caafd6de98d133bbccf1178ed01912165edc0df0eb58fca103db0739da26ee"), looks := true }, kinds := [], alts := [], laidByText := true, laidKinds := [.data, .data, .data, .sentinel, .sentinel], laidTests := true, laidLooks := .later }
def FnExactReadDecimalCardSaid : Prop := Claim7.holds Tryd.pinned (.plain (OpenSpec.ofChange fnExactReadDecimalSpec)) fnExactReadDecimalCard

/-- THE TIED CARD OF 'laws.FnNumbers'. -/
def fnNumbersCard : Claim7 := { stood := { row := fnNumbersRow, standIns := [], harness := (true, "d0caafd6de98d133bbccf1178ed01912165edc0df0eb58fca103db0739da26ee"), looks := true }, kinds := [], alts := [], laidByText := true, laidKinds := [.data, .data, .data, .sentinel, .sentinel], laidTests := true, laidLooks := .later }
def FnNumbersCardSaid : Prop := Claim7.holds Tryd.pinned (.plain (OpenSpec.ofChange fnNumbersSpec)) fnNumbersCard

/-- THE TIED CARD OF 'laws.FnExactSnapActs'. -/
def fnExactSnapActsCard : Claim7 := { stood := { row := fnExactSnapActsRow, standIns := [], harness := (true, "d0caafd6de98d133bbccf1178ed01912165edc0df0eb58fca103db0739da26ee"), looks := true }, kinds := [], alts := [], laidByText := true, laidKinds := [.data, .data, .data, .sentinel, .sentinel], laidTests := true, laidLooks := .later }
def FnExactSnapActsCardSaid : Prop := Claim7.holds Tryd.pinned (.plain (OpenSpec.ofChange fnExactSnapActsSpec)) fnExactSnapActsCard

/-- THE SECOND FORM's CARD OF 'laws.FnExactDecimal'. -/
def fnExactDecimalUptoCard : Claim7 := { stood := { row := fnExactDecimalUptoRow, standIns := [], harness := (true, "d0caafd6de98d133bbccf1178ed01912165edc0df0eb58fca103db0739da26ee"), looks := true }, kinds := [], alts := [], laidByText := true, laidKinds := [.data, .data, .data], laidTests := true, laidLooks := .later }
def FnExactDecimalUptoCardSaid : Prop := Claim7.holds Tryd.pinned (.plain (OpenSpec.upto fnExactDecimalSpec)) fnExactDecimalUptoCard

/-- THE SECOND FORM's CARD OF 'laws.FnExactJournalName'. -/
def fnExactJournalNameUptoCard : Claim7 := { stood := { row := fnExactJournalNameUptoRow, standIns := [], harness := (true, "d0caafd6de98d133bbccf1178ed01912165edc0df0eb58fca103db0739da26ee"), looks := true }, kinds := [], alts := [], laidByText := true, laidKinds := [.data, .data, .data], laidTests := true, laidLooks := .later }
def FnExactJournalNameUptoCardSaid : Prop := Claim7.holds Tryd.pinned (.plain (OpenSpec.upto fnExactJournalNameSpec)) fnExactJournalNameUptoCard

/-- THE SECOND FORM's CARD OF 'laws.FnExactSnapName'. -/
def fnExactSnapNameUptoCard : Claim7 := { stood := { row := fnExactSnapNameUptoRow, standIns := [], harness := (true, "d0caafd6de98d133bbccf1178ed01912165edc0df0eb58fca103db0739da26ee"), looks := true }, kinds := [], alts := [], laidByText := true, laidKinds := [.data, .data, .data], laidTests := true, laidLooks := .later }
def FnExactSnapNameUptoCardSaid : Prop := Claim7.holds Tryd.pinned (.plain (OpenSpec.upto fnExactSnapNameSpec)) fnExactSnapNameUptoCard

/-- THE SECOND FORM's CARD OF 'laws.FnExactReadDecimal'. -/
def fnExactReadDecimalUptoCard : Claim7 := { stood := { row := fnExactReadDecimalUptoRow, standIns := [], harness := (true, "d0caafd6de98d133bbccf1178ed01912165edc0df0eb58fca103db0739da26ee"), looks := true }, kinds := [], alts := [], laidByText := true, laidKinds := [.data, .data, .data, .sentinel, .sentinel], laidTests := true, laidLooks := .later }
def FnExactReadDecimalUptoCardSaid : Prop := Claim7.holds Tryd.pinned (.plain (OpenSpec.upto fnExactReadDecimalSpec)) fnExactReadDecimalUptoCard

/-- THE SECOND FORM's CARD OF 'laws.FnNumbers'. -/
def fnNumbersUptoCard : Claim7 := { stood := { row := fnNumbersUptoRow, standIns := [], harness := (true, "d0caafd6de98d133bbccf1178ed01912165edc0df0eb58fca103db0739da26ee"), looks := true }, kinds := [], alts := [], laidByText := true, laidKinds := [.data, .data, .data, .sentinel, .sentinel], laidTests := true, laidLooks := .later }
def FnNumbersUptoCardSaid : Prop := Claim7.holds Tryd.pinned (.plain (OpenSpec.upto fnNumbersSpec)) fnNumbersUptoCard

/-- THE SECOND FORM's CARD OF 'laws.FnExactSnapActs'. -/
def fnExactSnapActsUptoCard : Claim7 := { stood := { row := fnExactSnapActsUptoRow, standIns := [], harness := (true, "d0caafd6de98d133bbccf1178ed01912165edc0df0eb58fca103db0739da26ee"), looks := true }, kinds := [], alts := [], laidByText := true, laidKinds := [.data, .data, .data, .sentinel, .sentinel], laidTests := true, laidLooks := .later }
def FnExactSnapActsUptoCardSaid : Prop := Claim7.holds Tryd.pinned (.plain (OpenSpec.upto fnExactSnapActsSpec)) fnExactSnapActsUptoCard
end Rows
end Go.Proofs.YtgnmlgoadkhceaaDoor
