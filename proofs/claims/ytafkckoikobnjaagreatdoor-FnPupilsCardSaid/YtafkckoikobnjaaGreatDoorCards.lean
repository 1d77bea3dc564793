/-
  DERIVED. GIVEN WITH THE SEED: THE CARDS: each row of YtafkckoikobnjaaGreatDoorRows.lean that lists a variable, with what it lists TIED to the program's text (the seventh form; the later family's looks); each row that meets fmt, with fmt's text TOLD by the authors' own Lean function (tested against real Go, not proved from fmt's source: count such statements apart). THE CARD IS WHAT COUNTS. Prove the row's statement (the work); the ties are given (YtafkckoikobnjaaGreatDoorTie.lean); close each card by the builder's one call (the guide's Derived/Test/ToyasCard.lean, 'card_holds'). Laid BY PROGRAM, IN A SANDBOX (cutbox-door.mjs). By AI agents, Wed Nov 11 2026. No macro, syntax, notation, axiom, sorry.
-/
import Derived.Test.YtafkckoikobnjaaGreatDoorRows
import GoSem.ClaimSeven
namespace Go.Proofs.YtafkckoikobnjaaGreatDoor
namespace Rows

/-- THE TIED CARD OF 'laws.FnPupils'. -/
def fnPupilsCard : Claim7 := { stood := { row := fnPupilsRow, standIns := [], harness := (true, "03b5950538569bcae040c990bce808f8bdb228694b9454a279cc66fd717f5ea2"), looks := false }, kinds := [], alts := [], laidByText := true, laidKinds := [.data, .data, .data, .data, .pinned], laidTests := true, laidLooks := .later }
def FnPupilsCardSaid : Prop := Claim7.holds Tryz.pinned (.plain (OpenSpec.ofChange fnPupilsSpec)) fnPupilsCard

/-- THE SECOND FORM's CARD OF 'laws.FnPupils'. -/
def fnPupilsUptoCard : Claim7 := { stood := { row := fnPupilsUptoRow, standIns := [], harness := (true, "03b5950538569bcae040c990bce808f8bdb228694b9454a279cc66fd717f5ea2"), looks := false }, kinds := [], alts := [], laidByText := true, laidKinds := [.data, .data, .data, .data, .pinned], laidTests := true, laidLooks := .later }
def FnPupilsUptoCardSaid : Prop := Claim7.holds Tryz.pinned (.plain (OpenSpec.upto fnPupilsSpec)) fnPupilsUptoCard
end Rows
end Go.Proofs.YtafkckoikobnjaaGreatDoor
