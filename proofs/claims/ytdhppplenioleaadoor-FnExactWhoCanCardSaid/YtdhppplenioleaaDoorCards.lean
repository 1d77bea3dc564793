/-
  DERIVED. GIVEN WITH THE SEED: THE CARDS: each row of YtdhppplenioleaaDoorRows.lean that lists a variable, with what it lists TIED to the program's text (the seventh form; the later family's looks); each row that meets fmt, with fmt's text TOLD by the authors' own Lean function (tested against real Go, not proved from fmt's source: count such statements apart). THE CARD IS WHAT COUNTS. Prove the row's statement (the work); the ties are given (YtdhppplenioleaaDoorTie.lean); close each card by the builder's one call (the guide's Derived/Test/ToyasCard.lean, 'card_holds'). Laid BY PROGRAM, IN A SANDBOX (cutbox-door.mjs). By AI agents, Wed Nov 11 2026. No macro, syntax, notation, axiom, sorry.
-/
import Derived.Test.YtdhppplenioleaaDoorRows
import GoSem.ClaimSeven
namespace Go.Proofs.YtdhppplenioleaaDoor
namespace Rows

/-- THE TIED CARD OF 'laws.FnExactValidPupils'. -/
def fnExactValidPupilsCard : Claim7 := { stood := { row := fnExactValidPupilsRow, standIns := [], harness := (true, "8512667b3d18c5f2c0d0fb4ff107c29fd5f4c758c54e31b5662747f99017ce59"), looks := false }, kinds := [], alts := [], laidByText := true, laidKinds := [.data, .pinned], laidTests := true, laidLooks := .later }
def FnExactValidPupilsCardSaid : Prop := Claim7.holds Tryd.pinned (.plain (OpenSpec.ofChange fnExactValidPupilsSpec)) fnExactValidPupilsCard

/-- THE TIED CARD OF 'laws.FnExactRarestSkill'. -/
def fnExactRarestSkillCard : Claim7 := { stood := { row := fnExactRarestSkillRow, standIns := [], harness := (true, "8512667b3d18c5f2c0d0fb4ff107c29fd5f4c758c54e31b5662747f99017ce59"), looks := false }, kinds := [], alts := [], laidByText := true, laidKinds := [.data, .pinned], laidTests := true, laidLooks := .later }
def FnExactRarestSkillCardSaid : Prop := Claim7.holds Tryd.pinned (.plain (OpenSpec.ofChange fnExactRarestSkillSpec)) fnExactRarestSkillCard

/-- THE TIED CARD OF 'laws.FnExactDaysLeft'. -/
def fnExactDaysLeftCard : Claim7 := { stood := { row := fnExactDaysLeftRow, standIns := [], harness := (true, "8512667b3d18c5f2c0d0fb4ff107c29fd5f4c758c54e31b5662747f99017ce59"), looks := false }, kinds := [], alts := [], laidByText := true, laidKinds := [.data, .pinned], laidTests := true, laidLooks := .later }
def FnExactDaysLeftCardSaid : Prop := Claim7.holds Tryd.pinned (.plain (OpenSpec.ofChange fnExactDaysLeftSpec)) fnExactDaysLeftCard

/-- THE TIED CARD OF 'laws.FnExactSkillsOf'. -/
def fnExactSkillsOfCard : Claim7 := { stood := { row := fnExactSkillsOfRow, standIns := [], harness := (true, "8512667b3d18c5f2c0d0fb4ff107c29fd5f4c758c54e31b5662747f99017ce59"), looks := false }, kinds := [], alts := [], laidByText := true, laidKinds := [.data, .pinned], laidTests := true, laidLooks := .later }
def FnExactSkillsOfCardSaid : Prop := Claim7.holds Tryd.pinned (.plain (OpenSpec.ofChange fnExactSkillsOfSpec)) fnExactSkillsOfCard

/-- THE TIED CARD OF 'laws.FnExactMastersOf'. -/
def fnExactMastersOfCard : Claim7 := { stood := { row := fnExactMastersOfRow, standIns := [], harness := (true, "8512667b3d18c5f2c0d0fb4ff107c29fd5f4c758c54e31b5662747f99017ce59"), looks := false }, kinds := [], alts := [], laidByText := true, laidKinds := [.data, .pinned], laidTests := true, laidLooks := .later }
def FnExactMastersOfCardSaid : Prop := Claim7.holds Tryd.pinned (.plain (OpenSpec.ofChange fnExactMastersOfSpec)) fnExactMastersOfCard

/-- THE TIED CARD OF 'laws.FnExactWhoCan'. -/
def fnExactWhoCanCard : Claim7 := { stood := { row := fnExactWhoCanRow, standIns := [], harness := (true, "8512667b3d18c5f2c0d0fb4ff107c29fd5f4c758c54e31b5662747f99017ce59"), looks := false }, kinds := [], alts := [], laidByText := true, laidKinds := [.data, .pinned], laidTests := true, laidLooks := .later }
def FnExactWhoCanCardSaid : Prop := Claim7.holds Tryd.pinned (.plain (OpenSpec.ofChange fnExactWhoCanSpec)) fnExactWhoCanCard

/-- THE TIED CARD OF 'laws.FnExactPractise'. -/
def fnExactPractiseCard : Claim7 := { stood := { row := fnExactPractiseRow, standIns := [], harness := (true, "8512667b3d18c5f2c0d0fb4ff107c29fd5f4c758c54e31b5662747f99017ce59"), looks := false }, kinds := [], alts := [], laidByText := true, laidKinds := [.data, .pinned], laidTests := true, laidLooks := .later }
def FnExactPractiseCardSaid : Prop := Claim7.holds Tryd.pinned (.plain (OpenSpec.ofChange fnExactPractiseSpec)) fnExactPractiseCard

/-- THE TIED CARD OF 'laws.FnExactAssignPupils'. -/
def fnExactAssignPupilsCard : Claim7 := { stood := { row := fnExactAssignPupilsRow, standIns := [], harness := (true, "8512667b3d18c5f2c0d0fb4ff107c29fd5f4c758c54e31b5662747f99017ce59"), looks := false }, kinds := [], alts := [], laidByText := true, laidKinds := [.data, .pinned], laidTests := true, laidLooks := .later }
def FnExactAssignPupilsCardSaid : Prop := Claim7.holds Tryd.pinned (.plain (OpenSpec.ofChange fnExactAssignPupilsSpec)) fnExactAssignPupilsCard

/-- THE TIED CARD OF 'laws.FnExactPupilText'. -/
def fnExactPupilTextCard : Claim7 := { stood := { row := fnExactPupilTextRow, standIns := [], harness := (true, "8512667b3d18c5f2c0d0fb4ff107c29fd5f4c758c54e31b5662747f99017ce59"), looks := false }, kinds := [], alts := [], laidByText := true, laidKinds := [.data, .data, .data, .data, .pinned], laidTests := true, laidLooks := .later }
def FnExactPupilTextCardSaid : Prop := Claim7.holds Tryd.pinned (.plain (OpenSpec.ofChange fnExactPupilTextSpec)) fnExactPupilTextCard

/-- THE TIED CARD OF 'laws.FnTasks'. -/
def fnTasksCard : Claim7 := { stood := { row := fnTasksRow, standIns := [], harness := (true, "8512667b3d18c5f2c0d0fb4ff107c29fd5f4c758c54e31b5662747f99017ce59"), looks := false }, kinds := [], alts := [], laidByText := true, laidKinds := [.data, .pinned], laidTests := true, laidLooks := .later }
def FnTasksCardSaid : Prop := Claim7.holds Tryd.pinned (.plain (OpenSpec.ofChange fnTasksSpec)) fnTasksCard

/-- THE SECOND FORM's CARD OF 'laws.FnExactValidPupils'. -/
def fnExactValidPupilsUptoCard : Claim7 := { stood := { row := fnExactValidPupilsUptoRow, standIns := [], harness := (true, "8512667b3d18c5f2c0d0fb4ff107c29fd5f4c758c54e31b5662747f99017ce59"), looks := false }, kinds := [], alts := [], laidByText := true, laidKinds := [.data, .pinned], laidTests := true, laidLooks := .later }
def FnExactValidPupilsUptoCardSaid : Prop := Claim7.holds Tryd.pinned (.plain (OpenSpec.upto fnExactValidPupilsSpec)) fnExactValidPupilsUptoCard

/-- THE SECOND FORM's CARD OF 'laws.FnExactRarestSkill'. -/
def fnExactRarestSkillUptoCard : Claim7 := { stood := { row := fnExactRarestSkillUptoRow, standIns := [], harness := (true, "8512667b3d18c5f2c0d0fb4ff107c29fd5f4c758c54e31b5662747f99017ce59"), looks := false }, kinds := [], alts := [], laidByText := true, laidKinds := [.data, .pinned], laidTests := true, laidLooks := .later }
def FnExactRarestSkillUptoCardSaid : Prop := Claim7.holds Tryd.pinned (.plain (OpenSpec.upto fnExactRarestSkillSpec)) fnExactRarestSkillUptoCard

/-- THE SECOND FORM's CARD OF 'laws.FnExactDaysLeft'. -/
def fnExactDaysLeftUptoCard : Claim7 := { stood := { row := fnExactDaysLeftUptoRow, standIns := [], harness := (true, "8512667b3d18c5f2c0d0fb4ff107c29fd5f4c758c54e31b5662747f99017ce59"), looks := false }, kinds := [], alts := [], laidByText := true, laidKinds := [.data, .pinned], laidTests := true, laidLooks := .later }
def FnExactDaysLeftUptoCardSaid : Prop := Claim7.holds Tryd.pinned (.plain (OpenSpec.upto fnExactDaysLeftSpec)) fnExactDaysLeftUptoCard

/-- THE SECOND FORM's CARD OF 'laws.FnExactSkillsOf'. -/
def fnExactSkillsOfUptoCard : Claim7 := { stood := { row := fnExactSkillsOfUptoRow, standIns := [], harness := (true, "8512667b3d18c5f2c0d0fb4ff107c29fd5f4c758c54e31b5662747f99017ce59"), looks := false }, kinds := [], alts := [], laidByText := true, laidKinds := [.data, .pinned], laidTests := true, laidLooks := .later }
def FnExactSkillsOfUptoCardSaid : Prop := Claim7.holds Tryd.pinned (.plain (OpenSpec.upto fnExactSkillsOfSpec)) fnExactSkillsOfUptoCard

/-- THE SECOND FORM's CARD OF 'laws.FnExactMastersOf'. -/
def fnExactMastersOfUptoCard : Claim7 := { stood := { row := fnExactMastersOfUptoRow, standIns := [], harness := (true, "8512667b3d18c5f2c0d0fb4ff107c29fd5f4c758c54e31b5662747f99017ce59"), looks := false }, kinds := [], alts := [], laidByText := true, laidKinds := [.data, .pinned], laidTests := true, laidLooks := .later }
def FnExactMastersOfUptoCardSaid : Prop := Claim7.holds Tryd.pinned (.plain (OpenSpec.upto fnExactMastersOfSpec)) fnExactMastersOfUptoCard

/-- THE SECOND FORM's CARD OF 'laws.FnExactWhoCan'. -/
def fnExactWhoCanUptoCard : Claim7 := { stood := { row := fnExactWhoCanUptoRow, standIns := [], harness := (true, "8512667b3d18c5f2c0d0fb4ff107c29fd5f4c758c54e31b5662747f99017ce59"), looks := false }, kinds := [], alts := [], laidByText := true, laidKinds := [.data, .pinned], laidTests := true, laidLooks := .later }
def FnExactWhoCanUptoCardSaid : Prop := Claim7.holds Tryd.pinned (.plain (OpenSpec.upto fnExactWhoCanSpec)) fnExactWhoCanUptoCard

/-- THE SECOND FORM's CARD OF 'laws.FnExactPractise'. -/
def fnExactPractiseUptoCard : Claim7 := { stood := { row := fnExactPractiseUptoRow, standIns := [], harness := (true, "8512667b3d18c5f2c0d0fb4ff107c29fd5f4c758c54e31b5662747f99017ce59"), looks := false }, kinds := [], alts := [], laidByText := true, laidKinds := [.data, .pinned], laidTests := true, laidLooks := .later }
def FnExactPractiseUptoCardSaid : Prop := Claim7.holds Tryd.pinned (.plain (OpenSpec.upto fnExactPractiseSpec)) fnExactPractiseUptoCard

/-- THE SECOND FORM's CARD OF 'laws.FnExactAssignPupils'. -/
def fnExactAssignPupilsUptoCard : Claim7 := { stood := { row := fnExactAssignPupilsUptoRow, standIns := [], harness := (true, "8512667b3d18c5f2c0d0fb4ff107c29fd5f4c758c54e31b5662747f99017ce59"), looks := false }, kinds := [], alts := [], laidByText := true, laidKinds := [.data, .pinned], laidTests := true, laidLooks := .later }
def FnExactAssignPupilsUptoCardSaid : Prop := Claim7.holds Tryd.pinned (.plain (OpenSpec.upto fnExactAssignPupilsSpec)) fnExactAssignPupilsUptoCard

/-- THE SECOND FORM's CARD OF 'laws.FnExactPupilText'. -/
def fnExactPupilTextUptoCard : Claim7 := { stood := { row := fnExactPupilTextUptoRow, standIns := [], harness := (true, "8512667b3d18c5f2c0d0fb4ff107c29fd5f4c758c54e31b5662747f99017ce59"), looks := false }, kinds := [], alts := [], laidByText := true, laidKinds := [.data, .data, .data, .data, .pinned], laidTests := true, laidLooks := .later }
def FnExactPupilTextUptoCardSaid : Prop := Claim7.holds Tryd.pinned (.plain (OpenSpec.upto fnExactPupilTextSpec)) fnExactPupilTextUptoCard

/-- THE SECOND FORM's CARD OF 'laws.FnTasks'. -/
def fnTasksUptoCard : Claim7 := { stood := { row := fnTasksUptoRow, standIns := [], harness := (true, "8512667b3d18c5f2c0d0fb4ff107c29fd5f4c758c54e31b5662747f99017ce59"), looks := false }, kinds := [], alts := [], laidByText := true, laidKinds := [.data, .pinned], laidTests := true, laidLooks := .later }
def FnTasksUptoCardSaid : Prop := Claim7.holds Tryd.pinned (.plain (OpenSpec.upto fnTasksSpec)) fnTasksUptoCard
end Rows
end Go.Proofs.YtdhppplenioleaaDoor
