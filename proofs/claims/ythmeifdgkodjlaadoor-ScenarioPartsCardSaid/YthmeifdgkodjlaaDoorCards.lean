/-
  DERIVED. GIVEN WITH THE SEED: THE CARDS: each row of YthmeifdgkodjlaaDoorRows.lean that lists a variable, with what it lists TIED to the program's text (the seventh form; the later family's looks); each row that meets fmt, with fmt's text TOLD by the authors' own Lean function (tested against real Go, not proved from fmt's source: count such statements apart). THE CARD IS WHAT COUNTS. Prove the row's statement (the work); the ties are given (YthmeifdgkodjlaaDoorTie.lean); close each card by the builder's one call (the guide's Derived/Test/ToyasCard.lean, 'card_holds'). Laid BY PROGRAM, IN A SANDBOX (cutbox-door.mjs). By AI agents, Wed Nov 11 2026. No macro, syntax, notation, axiom, sorry.
-/
import Derived.Test.YthmeifdgkodjlaaDoorRows
import GoSem.ClaimSeven
namespace Go.Proofs.YthmeifdgkodjlaaDoor
namespace Rows

/-- THE TIED CARD OF 'timesynclaw56.ScenarioBack'. -/
def scenarioBackCard : Claim7 := { stood := { row := scenarioBackRow, standIns := [], harness := (true, "b13adb8c9f517f690b233c117c471c0584d8ea699463bbaaa7331c9b66606ae0"), looks := true }, kinds := [], alts := [], laidByText := true, laidKinds := [.data, .data, .data, .data, .sentinel, .sentinel, .pinned], laidTests := true, laidLooks := .later }
def ScenarioBackCardSaid : Prop := Claim7.holds Tryd.pinned (.plain (OpenSpec.ofChange scenarioBackSpec)) scenarioBackCard

/-- THE TIED CARD OF 'timesynclaw56.ScenarioAgain'. -/
def scenarioAgainCard : Claim7 := { stood := { row := scenarioAgainRow, standIns := [], harness := (true, "b13adb8c9f517f690b233c117c471c0584d8ea699463bbaaa7331c9b66606ae0"), looks := true }, kinds := [], alts := [], laidByText := true, laidKinds := [.data, .data, .data, .data, .sentinel, .sentinel, .pinned], laidTests := true, laidLooks := .later }
def ScenarioAgainCardSaid : Prop := Claim7.holds Tryd.pinned (.plain (OpenSpec.ofChange scenarioAgainSpec)) scenarioAgainCard

/-- THE TIED CARD OF 'timesynclaw56.ScenarioParts'. -/
def scenarioPartsCard : Claim7 := { stood := { row := scenarioPartsRow, standIns := [], harness := (true, "b13adb8c9f517f690b233c117c471c0584d8ea699463bbaaa7331c9b66606ae0"), looks := true }, kinds := [], alts := [], laidByText := true, laidKinds := [.data, .data, .data, .data, .sentinel, .sentinel, .pinned], laidTests := true, laidLooks := .later }
def ScenarioPartsCardSaid : Prop := Claim7.holds Tryd.pinned (.plain (OpenSpec.ofChange scenarioPartsSpec)) scenarioPartsCard

/-- THE SECOND FORM's CARD OF 'timesynclaw56.ScenarioBack'. -/
def scenarioBackUptoCard : Claim7 := { stood := { row := scenarioBackUptoRow, standIns := [], harness := (true, "b13adb8c9f517f690b233c117c471c0584d8ea699463bbaaa7331c9b66606ae0"), looks := true }, kinds := [], alts := [], laidByText := true, laidKinds := [.data, .data, .data, .data, .sentinel, .sentinel, .pinned], laidTests := true, laidLooks := .later }
def ScenarioBackUptoCardSaid : Prop := Claim7.holds Tryd.pinned (.plain (OpenSpec.upto scenarioBackSpec)) scenarioBackUptoCard

/-- THE SECOND FORM's CARD OF 'timesynclaw56.ScenarioAgain'. -/
def scenarioAgainUptoCard : Claim7 := { stood := { row := scenarioAgainUptoRow, standIns := [], harness := (true, "b13adb8c9f517f690b233c117c471c0584d8ea699463bbaaa7331c9b66606ae0"), looks := true }, kinds := [], alts := [], laidByText := true, laidKinds := [.data, .data, .data, .data, .sentinel, .sentinel, .pinned], laidTests := true, laidLooks := .later }
def ScenarioAgainUptoCardSaid : Prop := Claim7.holds Tryd.pinned (.plain (OpenSpec.upto scenarioAgainSpec)) scenarioAgainUptoCard

/-- THE SECOND FORM's CARD OF 'timesynclaw56.ScenarioParts'. -/
def scenarioPartsUptoCard : Claim7 := { stood := { row := scenarioPartsUptoRow, standIns := [], harness := (true, "b13adb8c9f517f690b233c117c471c0584d8ea699463bbaaa7331c9b66606ae0"), looks := true }, kinds := [], alts := [], laidByText := true, laidKinds := [.data, .data, .data, .data, .sentinel, .sentinel, .pinned], laidTests := true, laidLooks := .later }
def ScenarioPartsUptoCardSaid : Prop := Claim7.holds Tryd.pinned (.plain (OpenSpec.upto scenarioPartsSpec)) scenarioPartsUptoCard
end Rows
end Go.Proofs.YthmeifdgkodjlaaDoor
