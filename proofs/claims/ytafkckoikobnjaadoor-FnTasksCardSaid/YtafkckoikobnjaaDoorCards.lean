/-
  DERIVED. GIVEN WITH THE SEED: THE CARDS: each row of YtafkckoikobnjaaDoorRows.lean that lists a variable, with what it lists TIED to the program's text (the seventh form; the later family's looks); each row that meets fmt, with fmt's text TOLD by the authors' own Lean function (tested against real Go, not proved from fmt's source: count such statements apart). THE CARD IS WHAT COUNTS. Prove the row's statement (the work); the ties are given (YtafkckoikobnjaaDoorTie.lean); close each card by the builder's one call (the guide's Derived/Test/ToyasCard.lean, 'card_holds'). Laid BY PROGRAM, IN A SANDBOX (cutbox-door.mjs). By AI agents, Wed Nov 11 2026. No macro, syntax, notation, axiom, sorry.
-/
import Derived.Test.YtafkckoikobnjaaDoorRows
import GoSem.ClaimSeven
namespace Go.Proofs.YtafkckoikobnjaaDoor
namespace Rows

/-- THE TIED CARD OF 'laws.FnExactPractise'. -/
def fnExactPractiseCard : Claim7 := { stood := { row := fnExactPractiseRow, standIns := [], harness := (true, "64bcc335a00fefcdc7024d2e8cab6da795ac70b5e35b2d7d5856f777aeae8026"), looks := false }, kinds := [], alts := [], laidByText := true, laidKinds := [.data, .pinned], laidTests := true, laidLooks := .later }
def FnExactPractiseCardSaid : Prop := Claim7.holds Tryd.pinned (.plain (OpenSpec.ofChange fnExactPractiseSpec)) fnExactPractiseCard

/-- THE TIED CARD OF 'laws.FnExactAssignPupils'. -/
def fnExactAssignPupilsCard : Claim7 := { stood := { row := fnExactAssignPupilsRow, standIns := [], harness := (true, "64bcc335a00fefcdc7024d2e8cab6da795ac70b5e35b2d7d5856f777aeae8026"), looks := false }, kinds := [], alts := [], laidByText := true, laidKinds := [.data, .pinned], laidTests := true, laidLooks := .later }
def FnExactAssignPupilsCardSaid : Prop := Claim7.holds Tryd.pinned (.plain (OpenSpec.ofChange fnExactAssignPupilsSpec)) fnExactAssignPupilsCard

/-- THE TIED CARD OF 'laws.FnTasks'. -/
def fnTasksCard : Claim7 := { stood := { row := fnTasksRow, standIns := [], harness := (true, "64bcc335a00fefcdc7024d2e8cab6da795ac70b5e35b2d7d5856f777aeae8026"), looks := false }, kinds := [], alts := [], laidByText := true, laidKinds := [.data, .pinned], laidTests := true, laidLooks := .later }
def FnTasksCardSaid : Prop := Claim7.holds Tryd.pinned (.plain (OpenSpec.ofChange fnTasksSpec)) fnTasksCard

/-- THE SECOND FORM's CARD OF 'laws.FnExactPractise'. -/
def fnExactPractiseUptoCard : Claim7 := { stood := { row := fnExactPractiseUptoRow, standIns := [], harness := (true, "64bcc335a00fefcdc7024d2e8cab6da795ac70b5e35b2d7d5856f777aeae8026"), looks := false }, kinds := [], alts := [], laidByText := true, laidKinds := [.data, .pinned], laidTests := true, laidLooks := .later }
def FnExactPractiseUptoCardSaid : Prop := Claim7.holds Tryd.pinned (.plain (OpenSpec.upto fnExactPractiseSpec)) fnExactPractiseUptoCard

/-- THE SECOND FORM's CARD OF 'laws.FnExactAssignPupils'. -/
def fnExactAssignPupilsUptoCard : Claim7 := { stood := { row := fnExactAssignPupilsUptoRow, standIns := [], harness := (true, "64bcc335a00fefcdc7024d2e8cab6da795ac70b5e35b2d7d5856f777aeae8026"), looks := false }, kinds := [], alts := [], laidByText := true, laidKinds := [.data, .pinned], laidTests := true, laidLooks := .later }
def FnExactAssignPupilsUptoCardSaid : Prop := Claim7.holds Tryd.pinned (.plain (OpenSpec.upto fnExactAssignPupilsSpec)) fnExactAssignPupilsUptoCard

/-- THE SECOND FORM's CARD OF 'laws.FnTasks'. -/
def fnTasksUptoCard : Claim7 := { stood := { row := fnTasksUptoRow, standIns := [], harness := (true, "64bcc335a00fefcdc7024d2e8cab6da795ac70b5e35b2d7d5856f777aeae8026"), looks := false }, kinds := [], alts := [], laidByText := true, laidKinds := [.data, .pinned], laidTests := true, laidLooks := .later }
def FnTasksUptoCardSaid : Prop := Claim7.holds Tryd.pinned (.plain (OpenSpec.upto fnTasksSpec)) fnTasksUptoCard
end Rows
end Go.Proofs.YtafkckoikobnjaaDoor
