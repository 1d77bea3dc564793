/-
  DERIVED. GIVEN WITH THE SEED: THE CARDS: each row of YtbgjipccepcmkaaDoorRows.lean that lists a variable, with what it lists TIED to the program's text (the seventh form; the later family's looks); each row that meets fmt, with fmt's text TOLD by the authors' own Lean function (tested against real Go, not proved from fmt's source: count such statements apart). THE CARD IS WHAT COUNTS. Prove the row's statement (the work); the ties are given (YtbgjipccepcmkaaDoorTie.lean); close each card by the builder's one call (the guide's Derived/Test/ToyasCard.lean, 'card_holds'). Laid BY PROGRAM, IN A SANDBOX (cutbox-door.mjs). By AI agents, Wed Nov 11 2026. No macro, syntax, notation, axiom, sorry.
-/
import Derived.Test.YtbgjipccepcmkaaDoorRows
import GoSem.ClaimSeven
namespace Go.Proofs.YtbgjipccepcmkaaDoor
namespace Rows

/-- THE TIED CARD OF 'laws.FnExactPricesText'. -/
def fnExactPricesTextCard : Claim7 := { stood := { row := fnExactPricesTextRow, standIns := [], harness := (true, "dd3dc1aeb35ab4cde3b3b4a8c485fac3997d78c29d2929055084e434c48cb046"), looks := false }, kinds := [], alts := [], laidByText := true, laidKinds := [.data, .data, .data], laidTests := true, laidLooks := .later }
def FnExactPricesTextCardSaid : Prop := Claim7.holds Tryd.pinned (.plain (OpenSpec.ofChange fnExactPricesTextSpec)) fnExactPricesTextCard

/-- THE TIED CARD OF 'laws.FnListed'. -/
def fnListedCard : Claim7 := { stood := { row := fnListedRow, standIns := [], harness := (true, "dd3dc1aeb35ab4cde3b3b4a8c485fac3997d78c29d2929055084e434c48cb046"), looks := false }, kinds := [], alts := [], laidByText := true, laidKinds := [.data, .data, .data], laidTests := true, laidLooks := .later }
def FnListedCardSaid : Prop := Claim7.holds Tryd.pinned (.plain (OpenSpec.ofChange fnListedSpec)) fnListedCard

/-- THE SECOND FORM's CARD OF 'laws.FnExactPricesText'. -/
def fnExactPricesTextUptoCard : Claim7 := { stood := { row := fnExactPricesTextUptoRow, standIns := [], harness := (true, "dd3dc1aeb35ab4cde3b3b4a8c485fac3997d78c29d2929055084e434c48cb046"), looks := false }, kinds := [], alts := [], laidByText := true, laidKinds := [.data, .data, .data], laidTests := true, laidLooks := .later }
def FnExactPricesTextUptoCardSaid : Prop := Claim7.holds Tryd.pinned (.plain (OpenSpec.upto fnExactPricesTextSpec)) fnExactPricesTextUptoCard

/-- THE SECOND FORM's CARD OF 'laws.FnListed'. -/
def fnListedUptoCard : Claim7 := { stood := { row := fnListedUptoRow, standIns := [], harness := (true, "dd3dc1aeb35ab4cde3b3b4a8c485fac3997d78c29d2929055084e434c48cb046"), looks := false }, kinds := [], alts := [], laidByText := true, laidKinds := [.data, .data, .data], laidTests := true, laidLooks := .later }
def FnListedUptoCardSaid : Prop := Claim7.holds Tryd.pinned (.plain (OpenSpec.upto fnListedSpec)) fnListedUptoCard
end Rows
end Go.Proofs.YtbgjipccepcmkaaDoor
