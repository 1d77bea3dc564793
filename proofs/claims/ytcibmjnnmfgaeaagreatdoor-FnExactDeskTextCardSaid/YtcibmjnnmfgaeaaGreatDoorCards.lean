/-
  DERIVED. GIVEN WITH THE SEED: THE CARDS: each row of YtcibmjnnmfgaeaaGreatDoorRows.lean that lists a variable, with what it lists TIED to the program's text (the seventh form; the later family's looks); each row that meets fmt, with fmt's text TOLD by the authors' own Lean function (tested against real Go, not proved from fmt's source: count such statements apart). THE CARD IS WHAT COUNTS. Prove the row's statement (the work); the ties are given (YtcibmjnnmfgaeaaGreatDoorTie.lean); close each card by the builder's one call (the guide's Derived/Test/ToyasCard.lean, 'card_holds'). Laid BY PROGRAM, IN A SANDBOX (cutbox-door.mjs). By AI agents, Wed Nov 11 2026. No macro, syntax, notation, axiom, sorry.
-/
import Derived.Test.YtcibmjnnmfgaeaaGreatDoorRows
import GoSem.ClaimSeven
namespace Go.Proofs.YtcibmjnnmfgaeaaGreatDoor
namespace Rows

/-- THE TIED CARD OF 'laws.FnExactValidDesk'. -/
def fnExactValidDeskCard : Claim7 := { stood := { row := fnExactValidDeskRow, standIns := [], harness := (true, "92e76ce0a641793f19c467af7c553103b75e46b818cd96ce74adbce7537e9857"), looks := true }, kinds := [], alts := [], laidByText := true, laidKinds := [.data, .data, .data, .data, .sentinel, .sentinel, .pinned], laidTests := true, laidLooks := .later }
def FnExactValidDeskCardSaid : Prop := Claim7.holds Tryz.pinned (.plain (OpenSpec.ofChange fnExactValidDeskSpec)) fnExactValidDeskCard

/-- THE TIED CARD OF 'laws.FnExactDeskText'. -/
def fnExactDeskTextCard : Claim7 := { stood := { row := fnExactDeskTextRow, standIns := [], harness := (true, "92e76ce0a641793f19c467af7c553103b75e46b818cd96ce74adbce7537e9857"), looks := true }, kinds := [], alts := [], laidByText := true, laidKinds := [.data, .data, .data, .data, .sentinel, .sentinel, .pinned], laidTests := true, laidLooks := .later }
def FnExactDeskTextCardSaid : Prop := Claim7.holds Tryz.pinned (.plain (OpenSpec.ofChange fnExactDeskTextSpec)) fnExactDeskTextCard

/-- THE SECOND FORM's CARD OF 'laws.FnExactValidDesk'. -/
def fnExactValidDeskUptoCard : Claim7 := { stood := { row := fnExactValidDeskUptoRow, standIns := [], harness := (true, "92e76ce0a641793f19c467af7c553103b75e46b818cd96ce74adbce7537e9857"), looks := true }, kinds := [], alts := [], laidByText := true, laidKinds := [.data, .data, .data, .data, .sentinel, .sentinel, .pinned], laidTests := true, laidLooks := .later }
def FnExactValidDeskUptoCardSaid : Prop := Claim7.holds Tryz.pinned (.plain (OpenSpec.upto fnExactValidDeskSpec)) fnExactValidDeskUptoCard

/-- THE SECOND FORM's CARD OF 'laws.FnExactDeskText'. -/
def fnExactDeskTextUptoCard : Claim7 := { stood := { row := fnExactDeskTextUptoRow, standIns := [], harness := (true, "92e76ce0a641793f19c467af7c553103b75e46b818cd96ce74adbce7537e9857"), looks := true }, kinds := [], alts := [], laidByText := true, laidKinds := [.data, .data, .data, .data, .sentinel, .sentinel, .pinned], laidTests := true, laidLooks := .later }
def FnExactDeskTextUptoCardSaid : Prop := Claim7.holds Tryz.pinned (.plain (OpenSpec.upto fnExactDeskTextSpec)) fnExactDeskTextUptoCard
end Rows
end Go.Proofs.YtcibmjnnmfgaeaaGreatDoor
