/-
  DERIVED. GIVEN WITH THE SEED: THE CARDS: each row of YtipiikjeidiojaaDoorRows.lean that lists a variable, with what it lists TIED to the program's text (the seventh form; the later family's looks); each row that meets fmt, with fmt's text TOLD by the authors' own Lean function (tested against real Go, not proved from fmt's source: count such statements apart). THE CARD IS WHAT COUNTS. Prove the row's statement (the work); the ties are given (YtipiikjeidiojaaDoorTie.lean); close each card by the builder's one call (the guide's Derived/Test/ToyasCard.lean, 'card_holds'). Laid BY PROGRAM, IN A SANDBOX (cutbox-door.mjs). By AI agents, Wed Nov 11 2026. No macro, syntax, notation, axiom, sorry.
-/
import Derived.Test.YtipiikjeidiojaaDoorRows
import GoSem.ClaimSeven
namespace Go.Proofs.YtipiikjeidiojaaDoor
namespace Rows

/-- THE TIED CARD OF 'laws.FnExactWorstDelay'. -/
def fnExactWorstDelayCard : Claim7 := { stood := { row := fnExactWorstDelayRow, standIns := [], harness := (true, "06d0d80baca845a8de5d949ff4f73fd7bf80e54180b8d4136f54fdd90bb9801f"), looks := true }, kinds := [], alts := [], laidByText := true, laidKinds := [.data, .pinned], laidTests := true, laidLooks := .later }
def FnExactWorstDelayCardSaid : Prop := Claim7.holds Tryd.pinned (.plain (OpenSpec.ofChange fnExactWorstDelaySpec)) fnExactWorstDelayCard

/-- THE TIED CARD OF 'laws.FnExactEarliestDue'. -/
def fnExactEarliestDueCard : Claim7 := { stood := { row := fnExactEarliestDueRow, standIns := [], harness := (true, "06d0d80baca845a8de5d949ff4f73fd7bf80e54180b8d4136f54fdd90bb9801f"), looks := true }, kinds := [], alts := [], laidByText := true, laidKinds := [.data, .pinned], laidTests := true, laidLooks := .later }
def FnExactEarliestDueCardSaid : Prop := Claim7.holds Tryd.pinned (.plain (OpenSpec.ofChange fnExactEarliestDueSpec)) fnExactEarliestDueCard

/-- THE TIED CARD OF 'laws.FnExactOnTimeMost'. -/
def fnExactOnTimeMostCard : Claim7 := { stood := { row := fnExactOnTimeMostRow, standIns := [], harness := (true, "06d0d80baca845a8de5d949ff4f73fd7bf80e54180b8d4136f54fdd90bb9801f"), looks := true }, kinds := [], alts := [], laidByText := true, laidKinds := [.data, .pinned], laidTests := true, laidLooks := .later }
def FnExactOnTimeMostCardSaid : Prop := Claim7.holds Tryd.pinned (.plain (OpenSpec.ofChange fnExactOnTimeMostSpec)) fnExactOnTimeMostCard

/-- THE TIED CARD OF 'laws.FnExactSizesOrdered'. -/
def fnExactSizesOrderedCard : Claim7 := { stood := { row := fnExactSizesOrderedRow, standIns := [], harness := (true, "06d0d80baca845a8de5d949ff4f73fd7bf80e54180b8d4136f54fdd90bb9801f"), looks := true }, kinds := [], alts := [], laidByText := true, laidKinds := [.data, .pinned], laidTests := true, laidLooks := .later }
def FnExactSizesOrderedCardSaid : Prop := Claim7.holds Tryd.pinned (.plain (OpenSpec.ofChange fnExactSizesOrderedSpec)) fnExactSizesOrderedCard

/-- THE TIED CARD OF 'laws.FnExactDoneDays'. -/
def fnExactDoneDaysCard : Claim7 := { stood := { row := fnExactDoneDaysRow, standIns := [], harness := (true, "06d0d80baca845a8de5d949ff4f73fd7bf80e54180b8d4136f54fdd90bb9801f"), looks := true }, kinds := [], alts := [], laidByText := true, laidKinds := [.data, .pinned], laidTests := true, laidLooks := .later }
def FnExactDoneDaysCardSaid : Prop := Claim7.holds Tryd.pinned (.plain (OpenSpec.ofChange fnExactDoneDaysSpec)) fnExactDoneDaysCard

/-- THE TIED CARD OF 'laws.FnExactReadOrder'. -/
def fnExactReadOrderCard : Claim7 := { stood := { row := fnExactReadOrderRow, standIns := [], harness := (true, "06d0d80baca845a8de5d949ff4f73fd7bf80e54180b8d4136f54fdd90bb9801f"), looks := true }, kinds := [], alts := [], laidByText := true, laidKinds := [.data, .data, .data, .data, .sentinel, .sentinel, .pinned], laidTests := true, laidLooks := .later }
def FnExactReadOrderCardSaid : Prop := Claim7.holds Tryd.pinned (.plain (OpenSpec.ofChange fnExactReadOrderSpec)) fnExactReadOrderCard

/-- THE SECOND FORM's CARD OF 'laws.FnExactWorstDelay'. -/
def fnExactWorstDelayUptoCard : Claim7 := { stood := { row := fnExactWorstDelayUptoRow, standIns := [], harness := (true, "06d0d80baca845a8de5d949ff4f73fd7bf80e54180b8d4136f54fdd90bb9801f"), looks := true }, kinds := [], alts := [], laidByText := true, laidKinds := [.data, .pinned], laidTests := true, laidLooks := .later }
def FnExactWorstDelayUptoCardSaid : Prop := Claim7.holds Tryd.pinned (.plain (OpenSpec.upto fnExactWorstDelaySpec)) fnExactWorstDelayUptoCard

/-- THE SECOND FORM's CARD OF 'laws.FnExactEarliestDue'. -/
def fnExactEarliestDueUptoCard : Claim7 := { stood := { row := fnExactEarliestDueUptoRow, standIns := [], harness := (true, "06d0d80baca845a8de5d949ff4f73fd7bf80e54180b8d4136f54fdd90bb9801f"), looks := true }, kinds := [], alts := [], laidByText := true, laidKinds := [.data, .pinned], laidTests := true, laidLooks := .later }
def FnExactEarliestDueUptoCardSaid : Prop := Claim7.holds Tryd.pinned (.plain (OpenSpec.upto fnExactEarliestDueSpec)) fnExactEarliestDueUptoCard

/-- THE SECOND FORM's CARD OF 'laws.FnExactOnTimeMost'. -/
def fnExactOnTimeMostUptoCard : Claim7 := { stood := { row := fnExactOnTimeMostUptoRow, standIns := [], harness := (true, "06d0d80baca845a8de5d949ff4f73fd7bf80e54180b8d4136f54fdd90bb9801f"), looks := true }, kinds := [], alts := [], laidByText := true, laidKinds := [.data, .pinned], laidTests := true, laidLooks := .later }
def FnExactOnTimeMostUptoCardSaid : Prop := Claim7.holds Tryd.pinned (.plain (OpenSpec.upto fnExactOnTimeMostSpec)) fnExactOnTimeMostUptoCard

/-- THE SECOND FORM's CARD OF 'laws.FnExactSizesOrdered'. -/
def fnExactSizesOrderedUptoCard : Claim7 := { stood := { row := fnExactSizesOrderedUptoRow, standIns := [], harness := (true, "06d0d80baca845a8de5d949ff4f73fd7bf80e54180b8d4136f54fdd90bb9801f"), looks := true }, kinds := [], alts := [], laidByText := true, laidKinds := [.data, .pinned], laidTests := true, laidLooks := .later }
def FnExactSizesOrderedUptoCardSaid : Prop := Claim7.holds Tryd.pinned (.plain (OpenSpec.upto fnExactSizesOrderedSpec)) fnExactSizesOrderedUptoCard

/-- THE SECOND FORM's CARD OF 'laws.FnExactDoneDays'. -/
def fnExactDoneDaysUptoCard : Claim7 := { stood := { row := fnExactDoneDaysUptoRow, standIns := [], harness := (true, "06d0d80baca845a8de5d949ff4f73fd7bf80e54180b8d4136f54fdd90bb9801f"), looks := true }, kinds := [], alts := [], laidByText := true, laidKinds := [.data, .pinned], laidTests := true, laidLooks := .later }
def FnExactDoneDaysUptoCardSaid : Prop := Claim7.holds Tryd.pinned (.plain (OpenSpec.upto fnExactDoneDaysSpec)) fnExactDoneDaysUptoCard

/-- THE SECOND FORM's CARD OF 'laws.FnExactReadOrder'. -/
def fnExactReadOrderUptoCard : Claim7 := { stood := { row := fnExactReadOrderUptoRow, standIns := [], harness := (true, "06d0d80baca845a8de5d949ff4f73fd7bf80e54180b8d4136f54fdd90bb9801f"), looks := true }, kinds := [], alts := [], laidByText := true, laidKinds := [.data, .data, .data, .data, .sentinel, .sentinel, .pinned], laidTests := true, laidLooks := .later }
def FnExactReadOrderUptoCardSaid : Prop := Claim7.holds Tryd.pinned (.plain (OpenSpec.upto fnExactReadOrderSpec)) fnExactReadOrderUptoCard
end Rows
end Go.Proofs.YtipiikjeidiojaaDoor
