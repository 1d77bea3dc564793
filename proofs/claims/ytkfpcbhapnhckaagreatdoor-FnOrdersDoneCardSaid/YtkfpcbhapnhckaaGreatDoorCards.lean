/-
  DERIVED. GIVEN WITH THE SEED: THE CARDS: each row of YtkfpcbhapnhckaaGreatDoorRows.lean that lists a variable, with what it lists TIED to the program's text (the seventh form; the later family's looks); each row that meets fmt, with fmt's text TOLD by the authors' own Lean function (tested against real Go, not proved from fmt's source: count such statements apart). THE CARD IS WHAT COUNTS. Prove the row's statement (the work); the ties are given (YtkfpcbhapnhckaaGreatDoorTie.lean); close each card by the builder's one call (the guide's Derived/Test/ToyasCard.lean, 'card_holds'). Laid BY PROGRAM, IN A SANDBOX (cutbox-door.mjs). By AI agents, Wed Nov 11 2026. No macro, syntax, notation, axiom, sorry.
-/
import Derived.Test.YtkfpcbhapnhckaaGreatDoorRows
import GoSem.ClaimSeven
namespace Go.Proofs.YtkfpcbhapnhckaaGreatDoor
namespace Rows

/-- THE TIED CARD OF 'laws.FnOnTime'. -/
def fnOnTimeCard : Claim7 := { stood := { row := fnOnTimeRow, standIns := [], harness := (true, "ef0ad5d3949264e1b0b68224f17f301ec3669d69d31370e3cb32014955e5bde3"), looks := true }, kinds := [], alts := [], laidByText := true, laidKinds := [.data, .pinned], laidTests := true, laidLooks := .later }
def FnOnTimeCardSaid : Prop := Claim7.holds Tryz.pinned (.plain (OpenSpec.ofChange fnOnTimeSpec)) fnOnTimeCard

/-- THE TIED CARD OF 'laws.FnOrdersDone'. -/
def fnOrdersDoneCard : Claim7 := { stood := { row := fnOrdersDoneRow, standIns := [], harness := (true, "ef0ad5d3949264e1b0b68224f17f301ec3669d69d31370e3cb32014955e5bde3"), looks := true }, kinds := [], alts := [], laidByText := true, laidKinds := [.data, .data, .data, .data, .sentinel, .sentinel, .pinned], laidTests := true, laidLooks := .later }
def FnOrdersDoneCardSaid : Prop := Claim7.holds Tryz.pinned (.plain (OpenSpec.ofChange fnOrdersDoneSpec)) fnOrdersDoneCard

/-- THE SECOND FORM's CARD OF 'laws.FnOnTime'. -/
def fnOnTimeUptoCard : Claim7 := { stood := { row := fnOnTimeUptoRow, standIns := [], harness := (true, "ef0ad5d3949264e1b0b68224f17f301ec3669d69d31370e3cb32014955e5bde3"), looks := true }, kinds := [], alts := [], laidByText := true, laidKinds := [.data, .pinned], laidTests := true, laidLooks := .later }
def FnOnTimeUptoCardSaid : Prop := Claim7.holds Tryz.pinned (.plain (OpenSpec.upto fnOnTimeSpec)) fnOnTimeUptoCard

/-- THE SECOND FORM's CARD OF 'laws.FnOrdersDone'. -/
def fnOrdersDoneUptoCard : Claim7 := { stood := { row := fnOrdersDoneUptoRow, standIns := [], harness := (true, "ef0ad5d3949264e1b0b68224f17f301ec3669d69d31370e3cb32014955e5bde3"), looks := true }, kinds := [], alts := [], laidByText := true, laidKinds := [.data, .data, .data, .data, .sentinel, .sentinel, .pinned], laidTests := true, laidLooks := .later }
def FnOrdersDoneUptoCardSaid : Prop := Claim7.holds Tryz.pinned (.plain (OpenSpec.upto fnOrdersDoneSpec)) fnOrdersDoneUptoCard
end Rows
end Go.Proofs.YtkfpcbhapnhckaaGreatDoor
