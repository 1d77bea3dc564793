/-
  DERIVED. GIVEN WITH THE SEED: THE CARDS: each row of YtgaoppejnmcnaaaDoorRows.lean that lists a variable, with what it lists TIED to the program's text (the seventh form; the later family's looks); each row that meets fmt, with fmt's text TOLD by the authors' own Lean function (tested against real Go, not proved from fmt's source: count such statements apart). THE CARD IS WHAT COUNTS. Prove the row's statement (the work); the ties are given (YtgaoppejnmcnaaaDoorTie.lean); close each card by the builder's one call (the guide's Derived/Test/ToyasCard.lean, 'card_holds'). Laid BY PROGRAM, IN A SANDBOX (cutbox-door.mjs). By AI agents, Wed Nov 11 2026. No macro, syntax, notation, axiom, sorry.
-/
import Derived.Test.YtgaoppejnmcnaaaDoorRows
import GoSem.ClaimSeven
namespace Go.Proofs.YtgaoppejnmcnaaaDoor
namespace Rows

/-- THE TIED CARD OF 'laws.FnExactRefillWithin'. -/
def fnExactRefillWithinCard : Claim7 := { stood := { row := fnExactRefillWithinRow, standIns := [], harness := (true, "daae793aea33d67532e0c752e39968ba15e23d03249fbe65f8c7f61a7c2db914"), looks := false }, kinds := [], alts := [], laidByText := true, laidKinds := [.data, .pinned], laidTests := true, laidLooks := .later }
def FnExactRefillWithinCardSaid : Prop := Claim7.holds Tryd.pinned (.plain (OpenSpec.ofChange fnExactRefillWithinSpec)) fnExactRefillWithinCard

/-- THE TIED CARD OF 'laws.FnExactJoinStock'. -/
def fnExactJoinStockCard : Claim7 := { stood := { row := fnExactJoinStockRow, standIns := [], harness := (true, "daae793aea33d67532e0c752e39968ba15e23d03249fbe65f8c7f61a7c2db914"), looks := false }, kinds := [], alts := [], laidByText := true, laidKinds := [.data, .pinned], laidTests := true, laidLooks := .later }
def FnExactJoinStockCardSaid : Prop := Claim7.holds Tryd.pinned (.plain (OpenSpec.ofChange fnExactJoinStockSpec)) fnExactJoinStockCard

/-- THE TIED CARD OF 'laws.FnExactPutStock'. -/
def fnExactPutStockCard : Claim7 := { stood := { row := fnExactPutStockRow, standIns := [], harness := (true, "daae793aea33d67532e0c752e39968ba15e23d03249fbe65f8c7f61a7c2db914"), looks := false }, kinds := [], alts := [], laidByText := true, laidKinds := [.data, .pinned], laidTests := true, laidLooks := .later }
def FnExactPutStockCardSaid : Prop := Claim7.holds Tryd.pinned (.plain (OpenSpec.ofChange fnExactPutStockSpec)) fnExactPutStockCard

/-- THE TIED CARD OF 'laws.FnStock'. -/
def fnStockCard : Claim7 := { stood := { row := fnStockRow, standIns := [], harness := (true, "daae793aea33d67532e0c752e39968ba15e23d03249fbe65f8c7f61a7c2db914"), looks := false }, kinds := [], alts := [], laidByText := true, laidKinds := [.data, .pinned], laidTests := true, laidLooks := .later }
def FnStockCardSaid : Prop := Claim7.holds Tryd.pinned (.plain (OpenSpec.ofChange fnStockSpec)) fnStockCard

/-- THE TIED CARD OF 'laws.FnRefills'. -/
def fnRefillsCard : Claim7 := { stood := { row := fnRefillsRow, standIns := [], harness := (true, "daae793aea33d67532e0c752e39968ba15e23d03249fbe65f8c7f61a7c2db914"), looks := false }, kinds := [], alts := [], laidByText := true, laidKinds := [.data, .pinned], laidTests := true, laidLooks := .later }
def FnRefillsCardSaid : Prop := Claim7.holds Tryd.pinned (.plain (OpenSpec.ofChange fnRefillsSpec)) fnRefillsCard

/-- THE SECOND FORM's CARD OF 'laws.FnExactRefillWithin'. -/
def fnExactRefillWithinUptoCard : Claim7 := { stood := { row := fnExactRefillWithinUptoRow, standIns := [], harness := (true, "daae793aea33d67532e0c752e39968ba15e23d03249fbe65f8c7f61a7c2db914"), looks := false }, kinds := [], alts := [], laidByText := true, laidKinds := [.data, .pinned], laidTests := true, laidLooks := .later }
def FnExactRefillWithinUptoCardSaid : Prop := Claim7.holds Tryd.pinned (.plain (OpenSpec.upto fnExactRefillWithinSpec)) fnExactRefillWithinUptoCard

/-- THE SECOND FORM's CARD OF 'laws.FnExactJoinStock'. -/
def fnExactJoinStockUptoCard : Claim7 := { stood := { row := fnExactJoinStockUptoRow, standIns := [], harness := (true, "daae793aea33d67532e0c752e39968ba15e23d03249fbe65f8c7f61a7c2db914"), looks := false }, kinds := [], alts := [], laidByText := true, laidKinds := [.data, .pinned], laidTests := true, laidLooks := .later }
def FnExactJoinStockUptoCardSaid : Prop := Claim7.holds Tryd.pinned (.plain (OpenSpec.upto fnExactJoinStockSpec)) fnExactJoinStockUptoCard

/-- THE SECOND FORM's CARD OF 'laws.FnExactPutStock'. -/
def fnExactPutStockUptoCard : Claim7 := { stood := { row := fnExactPutStockUptoRow, standIns := [], harness := (true, "daae793aea33d67532e0c752e39968ba15e23d03249fbe65f8c7f61a7c2db914"), looks := false }, kinds := [], alts := [], laidByText := true, laidKinds := [.data, .pinned], laidTests := true, laidLooks := .later }
def FnExactPutStockUptoCardSaid : Prop := Claim7.holds Tryd.pinned (.plain (OpenSpec.upto fnExactPutStockSpec)) fnExactPutStockUptoCard

/-- THE SECOND FORM's CARD OF 'laws.FnStock'. -/
def fnStockUptoCard : Claim7 := { stood := { row := fnStockUptoRow, standIns := [], harness := (true, "daae793aea33d67532e0c752e39968ba15e23d03249fbe65f8c7f61a7c2db914"), looks := false }, kinds := [], alts := [], laidByText := true, laidKinds := [.data, .pinned], laidTests := true, laidLooks := .later }
def FnStockUptoCardSaid : Prop := Claim7.holds Tryd.pinned (.plain (OpenSpec.upto fnStockSpec)) fnStockUptoCard

/-- THE SECOND FORM's CARD OF 'laws.FnRefills'. -/
def fnRefillsUptoCard : Claim7 := { stood := { row := fnRefillsUptoRow, standIns := [], harness := (true, "daae793aea33d67532e0c752e39968ba15e23d03249fbe65f8c7f61a7c2db914"), looks := false }, kinds := [], alts := [], laidByText := true, laidKinds := [.data, .pinned], laidTests := true, laidLooks := .later }
def FnRefillsUptoCardSaid : Prop := Claim7.holds Tryd.pinned (.plain (OpenSpec.upto fnRefillsSpec)) fnRefillsUptoCard
end Rows
end Go.Proofs.YtgaoppejnmcnaaaDoor
