/-
  DERIVED. GIVEN WITH THE SEED: THE CARDS: each row of YtnfejojakikeeaaGreatDoorRows.lean that lists a variable, with what it lists TIED to the program's text (the seventh form; the later family's looks); each row that meets fmt, with fmt's text TOLD by the authors' own Lean function (tested against real Go, not proved from fmt's source: count such statements apart). THE CARD IS WHAT COUNTS. Prove the row's statement (the work); the ties are given (YtnfejojakikeeaaGreatDoorTie.lean); close each card by the builder's one call (the guide's Derived/Test/ToyasCard.lean, 'card_holds'). Laid BY PROGRAM, IN A SANDBOX (cutbox-door.mjs). By AI agents, Wed Nov 11 2026. No macro, syntax, notation, axiom, sorry.
-/
import Derived.Test.YtnfejojakikeeaaGreatDoorRows
import GoSem.ClaimSeven
namespace Go.Proofs.YtnfejojakikeeaaGreatDoor
namespace Rows

/-- THE TIED CARD OF 'timesynclaw06.LeapChecks'. -/
def leapChecksCard : Claim7 := { stood := { row := leapChecksRow, standIns := [], harness := (true, "cf5c5fa06630b029b966643b2199c4952a7eada3c074a63ed6b225beb18c6122"), looks := true }, kinds := [], alts := [], laidByText := true, laidKinds := [.data, .data, .data, .data, .sentinel, .sentinel, .data, .pinned], laidTests := true, laidLooks := .later }
def LeapChecksCardSaid : Prop := Claim7.holds Tryz.pinned (.plain (OpenSpec.ofChange leapChecksSpec)) leapChecksCard

/-- THE TIED CARD OF 'timesynclaw06.LeapLabels'. -/
def leapLabelsCard : Claim7 := { stood := { row := leapLabelsRow, standIns := [], harness := (true, "cf5c5fa06630b029b966643b2199c4952a7eada3c074a63ed6b225beb18c6122"), looks := true }, kinds := [], alts := [], laidByText := true, laidKinds := [.data, .data, .data, .data, .sentinel, .sentinel, .data, .pinned], laidTests := true, laidLooks := .later }
def LeapLabelsCardSaid : Prop := Claim7.holds Tryz.pinned (.plain (OpenSpec.ofChange leapLabelsSpec)) leapLabelsCard

/-- THE TIED CARD OF 'timesynclaw06.LeapTexts'. -/
def leapTextsCard : Claim7 := { stood := { row := leapTextsRow, standIns := [], harness := (true, "cf5c5fa06630b029b966643b2199c4952a7eada3c074a63ed6b225beb18c6122"), looks := true }, kinds := [], alts := [], laidByText := true, laidKinds := [.data, .data, .data, .data, .sentinel, .sentinel, .data, .pinned], laidTests := true, laidLooks := .later }
def LeapTextsCardSaid : Prop := Claim7.holds Tryz.pinned (.plain (OpenSpec.ofChange leapTextsSpec)) leapTextsCard

/-- THE SECOND FORM's CARD OF 'timesynclaw06.LeapChecks'. -/
def leapChecksUptoCard : Claim7 := { stood := { row := leapChecksUptoRow, standIns := [], harness := (true, "cf5c5fa06630b029b966643b2199c4952a7eada3c074a63ed6b225beb18c6122"), looks := true }, kinds := [], alts := [], laidByText := true, laidKinds := [.data, .data, .data, .data, .sentinel, .sentinel, .data, .pinned], laidTests := true, laidLooks := .later }
def LeapChecksUptoCardSaid : Prop := Claim7.holds Tryz.pinned (.plain (OpenSpec.upto leapChecksSpec)) leapChecksUptoCard

/-- THE SECOND FORM's CARD OF 'timesynclaw06.LeapLabels'. -/
def leapLabelsUptoCard : Claim7 := { stood := { row := leapLabelsUptoRow, standIns := [], harness := (true, "cf5c5fa06630b029b966643b2199c4952a7eada3c074a63ed6b225beb18c6122"), looks := true }, kinds := [], alts := [], laidByText := true, laidKinds := [.data, .data, .data, .data, .sentinel, .sentinel, .data, .pinned], laidTests := true, laidLooks := .later }
def LeapLabelsUptoCardSaid : Prop := Claim7.holds Tryz.pinned (.plain (OpenSpec.upto leapLabelsSpec)) leapLabelsUptoCard

/-- THE SECOND FORM's CARD OF 'timesynclaw06.LeapTexts'. -/
def leapTextsUptoCard : Claim7 := { stood := { row := leapTextsUptoRow, standIns := [], harness := (true, "cf5c5fa06630b029b966643b2199c4952a7eada3c074a63ed6b225beb18c6122"), looks := true }, kinds := [], alts := [], laidByText := true, laidKinds := [.data, .data, .data, .data, .sentinel, .sentinel, .data, .pinned], laidTests := true, laidLooks := .later }
def LeapTextsUptoCardSaid : Prop := Claim7.holds Tryz.pinned (.plain (OpenSpec.upto leapTextsSpec)) leapTextsUptoCard
end Rows
end Go.Proofs.YtnfejojakikeeaaGreatDoor
