/-
  DERIVED. GIVEN WITH THE SEED: THE CARDS: each row of YtaoffnhladfdcaaDoorRows.lean that lists a variable, with what it lists TIED to the program's text (the seventh form; the later family's looks); each row that meets fmt, with fmt's text TOLD by the authors' own Lean function (tested against real Go, not proved from fmt's source: count such statements apart). THE CARD IS WHAT COUNTS. Prove the row's statement (the work); the ties are given (YtaoffnhladfdcaaDoorTie.lean); close each card by the builder's one call (the guide's Derived/Test/ToyasCard.lean, 'card_holds'). Laid BY PROGRAM, IN A SANDBOX (cutbox-door.mjs). By AI agents, Wed Nov 11 2026. No macro, syntax, notation, axiom, sorry.
-/
import Derived.Test.YtaoffnhladfdcaaDoorRows
import GoSem.ClaimSeven
namespace Go.Proofs.YtaoffnhladfdcaaDoor
namespace Rows

/-- THE TIED CARD OF 'waybilllaw34.ConfigSets'. -/
def configSetsCard : Claim7 := { stood := { row := configSetsRow, standIns := [], harness := (true, "b20b47f8cf553a681b86a4c45b30dd36c1d7b969a33a3fc2c0f552ee148971dc"), looks := true }, kinds := [], alts := [], laidByText := true, laidKinds := [.listed, .data], laidTests := true, laidLooks := .later }
def ConfigSetsCardSaid : Prop := Claim7.holds Tryd.pinned (.plain (OpenSpec.ofChange configSetsSpec)) configSetsCard

/-- THE TIED CARD OF 'waybilllaw34.ConfigSettings'. -/
def configSettingsCard : Claim7 := { stood := { row := configSettingsRow, standIns := [], harness := (true, "b20b47f8cf553a681b86a4c45b30dd36c1d7b969a33a3fc2c0f552ee148971dc"), looks := true }, kinds := [], alts := [], laidByText := true, laidKinds := [.listed, .data], laidTests := true, laidLooks := .later }
def ConfigSettingsCardSaid : Prop := Claim7.holds Tryd.pinned (.plain (OpenSpec.ofChange configSettingsSpec)) configSettingsCard

/-- THE TIED CARD OF 'waybilllaw35.ScriptOwn'. -/
def scriptOwnCard : Claim7 := { stood := { row := scriptOwnRow, standIns := [], harness := (true, "b20b47f8cf553a681b86a4c45b30dd36c1d7b969a33a3fc2c0f552ee148971dc"), looks := true }, kinds := [], alts := [], laidByText := true, laidKinds := [.listed, .data], laidTests := true, laidLooks := .later }
def ScriptOwnCardSaid : Prop := Claim7.holds Tryd.pinned (.plain (OpenSpec.ofChange scriptOwnSpec)) scriptOwnCard

/-- THE TIED CARD OF 'waybilllaw34.ConfigMay'. -/
def configMayCard : Claim7 := { stood := { row := configMayRow, standIns := [], harness := (true, "b20b47f8cf553a681b86a4c45b30dd36c1d7b969a33a3fc2c0f552ee148971dc"), looks := true }, kinds := [], alts := [], laidByText := true, laidKinds := [.listed, .data], laidTests := true, laidLooks := .later }
def ConfigMayCardSaid : Prop := Claim7.holds Tryd.pinned (.plain (OpenSpec.ofChange configMaySpec)) configMayCard

/-- THE TIED CARD OF 'waybilllaw34.ConfigNames'. -/
def configNamesCard : Claim7 := { stood := { row := configNamesRow, standIns := [], harness := (true, "b20b47f8cf553a681b86a4c45b30dd36c1d7b969a33a3fc2c0f552ee148971dc"), looks := true }, kinds := [], alts := [], laidByText := true, laidKinds := [.listed, .data], laidTests := true, laidLooks := .later }
def ConfigNamesCardSaid : Prop := Claim7.holds Tryd.pinned (.plain (OpenSpec.ofChange configNamesSpec)) configNamesCard

/-- THE TIED CARD OF 'waybilllaw35.ScriptTrace'. -/
def scriptTraceCard : Claim7 := { stood := { row := scriptTraceRow, standIns := [], harness := (true, "b20b47f8cf553a681b86a4c45b30dd36c1d7b969a33a3fc2c0f552ee148971dc"), looks := true }, kinds := [], alts := [], laidByText := true, laidKinds := [.listed, .data], laidTests := true, laidLooks := .later }
def ScriptTraceCardSaid : Prop := Claim7.holds Tryd.pinned (.plain (OpenSpec.ofChange scriptTraceSpec)) scriptTraceCard

/-- THE TIED CARD OF 'waybilllaw35.ScriptBack'. -/
def scriptBackCard : Claim7 := { stood := { row := scriptBackRow, standIns := [], harness := (true, "b20b47f8cf553a681b86a4c45b30dd36c1d7b969a33a3fc2c0f552ee148971dc"), looks := true }, kinds := [], alts := [], laidByText := true, laidKinds := [.listed, .data], laidTests := true, laidLooks := .later }
def ScriptBackCardSaid : Prop := Claim7.holds Tryd.pinned (.plain (OpenSpec.ofChange scriptBackSpec)) scriptBackCard

/-- THE TIED CARD OF 'waybilllaw35.ScriptMay'. -/
def scriptMayCard : Claim7 := { stood := { row := scriptMayRow, standIns := [], harness := (true, "b20b47f8cf553a681b86a4c45b30dd36c1d7b969a33a3fc2c0f552ee148971dc"), looks := true }, kinds := [], alts := [], laidByText := true, laidKinds := [.listed, .data], laidTests := true, laidLooks := .later }
def ScriptMayCardSaid : Prop := Claim7.holds Tryd.pinned (.plain (OpenSpec.ofChange scriptMaySpec)) scriptMayCard

/-- THE TIED CARD OF 'waybilllaw35.ScriptLines'. -/
def scriptLinesCard : Claim7 := { stood := { row := scriptLinesRow, standIns := [], harness := (true, "b20b47f8cf553a681b86a4c45b30dd36c1d7b969a33a3fc2c0f552ee148971dc"), looks := true }, kinds := [], alts := [], laidByText := true, laidKinds := [.listed, .data], laidTests := true, laidLooks := .later }
def ScriptLinesCardSaid : Prop := Claim7.holds Tryd.pinned (.plain (OpenSpec.ofChange scriptLinesSpec)) scriptLinesCard

/-- THE TIED CARD OF 'waybilllaw35.ScriptWrong'. -/
def scriptWrongCard : Claim7 := { stood := { row := scriptWrongRow, standIns := [], harness := (true, "b20b47f8cf553a681b86a4c45b30dd36c1d7b969a33a3fc2c0f552ee148971dc"), looks := true }, kinds := [], alts := [], laidByText := true, laidKinds := [.listed, .data], laidTests := true, laidLooks := .later }
def ScriptWrongCardSaid : Prop := Claim7.holds Tryd.pinned (.plain (OpenSpec.ofChange scriptWrongSpec)) scriptWrongCard

/-- THE SECOND FORM's CARD OF 'waybilllaw34.ConfigSets'. -/
def configSetsUptoCard : Claim7 := { stood := { row := configSetsUptoRow, standIns := [], harness := (true, "b20b47f8cf553a681b86a4c45b30dd36c1d7b969a33a3fc2c0f552ee148971dc"), looks := true }, kinds := [], alts := [], laidByText := true, laidKinds := [.listed, .data], laidTests := true, laidLooks := .later }
def ConfigSetsUptoCardSaid : Prop := Claim7.holds Tryd.pinned (.plain (OpenSpec.upto configSetsSpec)) configSetsUptoCard

/-- THE SECOND FORM's CARD OF 'waybilllaw34.ConfigSettings'. -/
def configSettingsUptoCard : Claim7 := { stood := { row := configSettingsUptoRow, standIns := [], harness := (true, "b20b47f8cf553a681b86a4c45b30dd36c1d7b969a33a3fc2c0f552ee148971dc"), looks := true }, kinds := [], alts := [], laidByText := true, laidKinds := [.listed, .data], laidTests := true, laidLooks := .later }
def ConfigSettingsUptoCardSaid : Prop := Claim7.holds Tryd.pinned (.plain (OpenSpec.upto configSettingsSpec)) configSettingsUptoCard

/-- THE SECOND FORM's CARD OF 'waybilllaw35.ScriptOwn'. -/
def scriptOwnUptoCard : Claim7 := { stood := { row := scriptOwnUptoRow, standIns := [], harness := (true, "b20b47f8cf553a681b86a4c45b30dd36c1d7b969a33a3fc2c0f552ee148971dc"), looks := true }, kinds := [], alts := [], laidByText := true, laidKinds := [.listed, .data], laidTests := true, laidLooks := .later }
def ScriptOwnUptoCardSaid : Prop := Claim7.holds Tryd.pinned (.plain (OpenSpec.upto scriptOwnSpec)) scriptOwnUptoCard

/-- THE SECOND FORM's CARD OF 'waybilllaw34.ConfigMay'. -/
def configMayUptoCard : Claim7 := { stood := { row := configMayUptoRow, standIns := [], harness := (true, "b20b47f8cf553a681b86a4c45b30dd36c1d7b969a33a3fc2c0f552ee148971dc"), looks := true }, kinds := [], alts := [], laidByText := true, laidKinds := [.listed, .data], laidTests := true, laidLooks := .later }
def ConfigMayUptoCardSaid : Prop := Claim7.holds Tryd.pinned (.plain (OpenSpec.upto configMaySpec)) configMayUptoCard

/-- THE SECOND FORM's CARD OF 'waybilllaw34.ConfigNames'. -/
def configNamesUptoCard : Claim7 := { stood := { row := configNamesUptoRow, standIns := [], harness := (true, "b20b47f8cf553a681b86a4c45b30dd36c1d7b969a33a3fc2c0f552ee148971dc"), looks := true }, kinds := [], alts := [], laidByText := true, laidKinds := [.listed, .data], laidTests := true, laidLooks := .later }
def ConfigNamesUptoCardSaid : Prop := Claim7.holds Tryd.pinned (.plain (OpenSpec.upto configNamesSpec)) configNamesUptoCard

/-- THE SECOND FORM's CARD OF 'waybilllaw35.ScriptTrace'. -/
def scriptTraceUptoCard : Claim7 := { stood := { row := scriptTraceUptoRow, standIns := [], harness := (true, "b20b47f8cf553a681b86a4c45b30dd36c1d7b969a33a3fc2c0f552ee148971dc"), looks := true }, kinds := [], alts := [], laidByText := true, laidKinds := [.listed, .data], laidTests := true, laidLooks := .later }
def ScriptTraceUptoCardSaid : Prop := Claim7.holds Tryd.pinned (.plain (OpenSpec.upto scriptTraceSpec)) scriptTraceUptoCard

/-- THE SECOND FORM's CARD OF 'waybilllaw35.ScriptBack'. -/
def scriptBackUptoCard : Claim7 := { stood := { row := scriptBackUptoRow, standIns := [], harness := (true, "b20b47f8cf553a681b86a4c45b30dd36c1d7b969a33a3fc2c0f552ee148971dc"), looks := true }, kinds := [], alts := [], laidByText := true, laidKinds := [.listed, .data], laidTests := true, laidLooks := .later }
def ScriptBackUptoCardSaid : Prop := Claim7.holds Tryd.pinned (.plain (OpenSpec.upto scriptBackSpec)) scriptBackUptoCard

/-- THE SECOND FORM's CARD OF 'waybilllaw35.ScriptMay'. -/
def scriptMayUptoCard : Claim7 := { stood := { row := scriptMayUptoRow, standIns := [], harness := (true, "b20b47f8cf553a681b86a4c45b30dd36c1d7b969a33a3fc2c0f552ee148971dc"), looks := true }, kinds := [], alts := [], laidByText := true, laidKinds := [.listed, .data], laidTests := true, laidLooks := .later }
def ScriptMayUptoCardSaid : Prop := Claim7.holds Tryd.pinned (.plain (OpenSpec.upto scriptMaySpec)) scriptMayUptoCard

/-- THE SECOND FORM's CARD OF 'waybilllaw35.ScriptLines'. -/
def scriptLinesUptoCard : Claim7 := { stood := { row := scriptLinesUptoRow, standIns := [], harness := (true, "b20b47f8cf553a681b86a4c45b30dd36c1d7b969a33a3fc2c0f552ee148971dc"), looks := true }, kinds := [], alts := [], laidByText := true, laidKinds := [.listed, .data], laidTests := true, laidLooks := .later }
def ScriptLinesUptoCardSaid : Prop := Claim7.holds Tryd.pinned (.plain (OpenSpec.upto scriptLinesSpec)) scriptLinesUptoCard

/-- THE SECOND FORM's CARD OF 'waybilllaw35.ScriptWrong'. -/
def scriptWrongUptoCard : Claim7 := { stood := { row := scriptWrongUptoRow, standIns := [], harness := (true, "b20b47f8cf553a681b86a4c45b30dd36c1d7b969a33a3fc2c0f552ee148971dc"), looks := true }, kinds := [], alts := [], laidByText := true, laidKinds := [.listed, .data], laidTests := true, laidLooks := .later }
def ScriptWrongUptoCardSaid : Prop := Claim7.holds Tryd.pinned (.plain (OpenSpec.upto scriptWrongSpec)) scriptWrongUptoCard
end Rows
end Go.Proofs.YtaoffnhladfdcaaDoor
