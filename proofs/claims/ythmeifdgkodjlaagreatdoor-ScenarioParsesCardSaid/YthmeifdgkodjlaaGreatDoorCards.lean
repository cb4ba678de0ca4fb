/-
  DERIVED. GIVEN WITH THE SEED: THE CARDS: each row of YthmeifdgkodjlaaGreatDoorRows.lean that lists a variable, with what it lists TIED to the program's text (the seventh form; the later family's looks); each row that meets fmt, with fmt's text TOLD by the authors' own Lean function (tested against real Go, not proved from fmt's source: count such statements apart). THE CARD IS WHAT COUNTS. Prove the row's statement (the work); the ties are given (YthmeifdgkodjlaaGreatDoorTie.lean); close each card by the builder's one call (the guide's Derived/Test/ToyasCard.lean, 'card_holds'). Laid BY PROGRAM, IN A SANDBOX (cutbox-door.mjs). By AI agents, Wed Nov 11 2026. No macro, syntax, notation, axiom, sorry.
-/
import Derived.Test.YthmeifdgkodjlaaGreatDoorRows
import GoSem.ClaimSeven
namespace Go.Proofs.YthmeifdgkodjlaaGreatDoor
namespace Rows

/-- THE TIED CARD OF 'timesynclaw56.ScenarioChecks'. -/
def scenarioChecksCard : Claim7 := { stood := { row := scenarioChecksRow, standIns := [], harness := (true, "ad56d0d74317d7d29a88cd7d6ee526fd1d84a70b822a4bf7753bf90f46e7eb24"), looks := true }, kinds := [], alts := [], laidByText := true, laidKinds := [.data, .data, .data, .data, .sentinel, .sentinel, .pinned], laidTests := true, laidLooks := .later }
def ScenarioChecksCardSaid : Prop := Claim7.holds Tryz.pinned (.plain (OpenSpec.ofChange scenarioChecksSpec)) scenarioChecksCard

/-- THE TIED CARD OF 'timesynclaw56.ScenarioTexts'. -/
def scenarioTextsCard : Claim7 := { stood := { row := scenarioTextsRow, standIns := [], harness := (true, "ad56d0d74317d7d29a88cd7d6ee526fd1d84a70b822a4bf7753bf90f46e7eb24"), looks := true }, kinds := [], alts := [], laidByText := true, laidKinds := [.data, .data, .data, .data, .sentinel, .sentinel, .pinned], laidTests := true, laidLooks := .later }
def ScenarioTextsCardSaid : Prop := Claim7.holds Tryz.pinned (.plain (OpenSpec.ofChange scenarioTextsSpec)) scenarioTextsCard

/-- THE TIED CARD OF 'timesynclaw56.ScenarioParses'. -/
def scenarioParsesCard : Claim7 := { stood := { row := scenarioParsesRow, standIns := [], harness := (true, "ad56d0d74317d7d29a88cd7d6ee526fd1d84a70b822a4bf7753bf90f46e7eb24"), looks := true }, kinds := [], alts := [], laidByText := true, laidKinds := [.data, .data, .data, .data, .sentinel, .sentinel, .pinned], laidTests := true, laidLooks := .later }
def ScenarioParsesCardSaid : Prop := Claim7.holds Tryz.pinned (.plain (OpenSpec.ofChange scenarioParsesSpec)) scenarioParsesCard

/-- THE TIED CARD OF 'timesynclaw56.ScenarioCut'. -/
def scenarioCutCard : Claim7 := { stood := { row := scenarioCutRow, standIns := [], harness := (true, "ad56d0d74317d7d29a88cd7d6ee526fd1d84a70b822a4bf7753bf90f46e7eb24"), looks := true }, kinds := [], alts := [], laidByText := true, laidKinds := [.data, .data, .data, .data, .sentinel, .sentinel, .pinned], laidTests := true, laidLooks := .later }
def ScenarioCutCardSaid : Prop := Claim7.holds Tryz.pinned (.plain (OpenSpec.ofChange scenarioCutSpec)) scenarioCutCard

/-- THE TIED CARD OF 'timesynclaw56.ScenarioLinks'. -/
def scenarioLinksCard : Claim7 := { stood := { row := scenarioLinksRow, standIns := [], harness := (true, "ad56d0d74317d7d29a88cd7d6ee526fd1d84a70b822a4bf7753bf90f46e7eb24"), looks := true }, kinds := [], alts := [], laidByText := true, laidKinds := [.data, .data, .data, .data, .sentinel, .sentinel, .pinned], laidTests := true, laidLooks := .later }
def ScenarioLinksCardSaid : Prop := Claim7.holds Tryz.pinned (.plain (OpenSpec.ofChange scenarioLinksSpec)) scenarioLinksCard

/-- THE SECOND FORM's CARD OF 'timesynclaw56.ScenarioChecks'. -/
def scenarioChecksUptoCard : Claim7 := { stood := { row := scenarioChecksUptoRow, standIns := [], harness := (true, "ad56d0d74317d7d29a88cd7d6ee526fd1d84a70b822a4bf7753bf90f46e7eb24"), looks := true }, kinds := [], alts := [], laidByText := true, laidKinds := [.data, .data, .data, .data, .sentinel, .sentinel, .pinned], laidTests := true, laidLooks := .later }
def ScenarioChecksUptoCardSaid : Prop := Claim7.holds Tryz.pinned (.plain (OpenSpec.upto scenarioChecksSpec)) scenarioChecksUptoCard

/-- THE SECOND FORM's CARD OF 'timesynclaw56.ScenarioTexts'. -/
def scenarioTextsUptoCard : Claim7 := { stood := { row := scenarioTextsUptoRow, standIns := [], harness := (true, "ad56d0d74317d7d29a88cd7d6ee526fd1d84a70b822a4bf7753bf90f46e7eb24"), looks := true }, kinds := [], alts := [], laidByText := true, laidKinds := [.data, .data, .data, .data, .sentinel, .sentinel, .pinned], laidTests := true, laidLooks := .later }
def ScenarioTextsUptoCardSaid : Prop := Claim7.holds Tryz.pinned (.plain (OpenSpec.upto scenarioTextsSpec)) scenarioTextsUptoCard

/-- THE SECOND FORM's CARD OF 'timesynclaw56.ScenarioParses'. -/
def scenarioParsesUptoCard : Claim7 := { stood := { row := scenarioParsesUptoRow, standIns := [], harness := (true, "ad56d0d74317d7d29a88cd7d6ee526fd1d84a70b822a4bf7753bf90f46e7eb24"), looks := true }, kinds := [], alts := [], laidByText := true, laidKinds := [.data, .data, .data, .data, .sentinel, .sentinel, .pinned], laidTests := true, laidLooks := .later }
def ScenarioParsesUptoCardSaid : Prop := Claim7.holds Tryz.pinned (.plain (OpenSpec.upto scenarioParsesSpec)) scenarioParsesUptoCard

/-- THE SECOND FORM's CARD OF 'timesynclaw56.ScenarioCut'. -/
def scenarioCutUptoCard : Claim7 := { stood := { row := scenarioCutUptoRow, standIns := [], harness := (true, "ad56d0d74317d7d29a88cd7d6ee526fd1d84a70b822a4bf7753bf90f46e7eb24"), looks := true }, kinds := [], alts := [], laidByText := true, laidKinds := [.data, .data, .data, .data, .sentinel, .sentinel, .pinned], laidTests := true, laidLooks := .later }
def ScenarioCutUptoCardSaid : Prop := Claim7.holds Tryz.pinned (.plain (OpenSpec.upto scenarioCutSpec)) scenarioCutUptoCard

/-- THE SECOND FORM's CARD OF 'timesynclaw56.ScenarioLinks'. -/
def scenarioLinksUptoCard : Claim7 := { stood := { row := scenarioLinksUptoRow, standIns := [], harness := (true, "ad56d0d74317d7d29a88cd7d6ee526fd1d84a70b822a4bf7753bf90f46e7eb24"), looks := true }, kinds := [], alts := [], laidByText := true, laidKinds := [.data, .data, .data, .data, .sentinel, .sentinel, .pinned], laidTests := true, laidLooks := .later }
def ScenarioLinksUptoCardSaid : Prop := Claim7.holds Tryz.pinned (.plain (OpenSpec.upto scenarioLinksSpec)) scenarioLinksUptoCard
end Rows
end Go.Proofs.YthmeifdgkodjlaaGreatDoor
