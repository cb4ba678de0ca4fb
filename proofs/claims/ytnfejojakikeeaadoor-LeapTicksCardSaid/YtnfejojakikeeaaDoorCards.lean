/-
  DERIVED. GIVEN WITH THE SEED: THE CARDS: each row of YtnfejojakikeeaaDoorRows.lean that lists a variable, with what it lists TIED to the program's text (the seventh form; the later family's looks); each row that meets fmt, with fmt's text TOLD by the authors' own Lean function (tested against real Go, not proved from fmt's source: count such statements apart). THE CARD IS WHAT COUNTS. Prove the row's statement (the work); the ties are given (YtnfejojakikeeaaDoorTie.lean); close each card by the builder's one call (the guide's Derived/Test/ToyasCard.lean, 'card_holds'). Laid BY PROGRAM, IN A SANDBOX (cutbox-door.mjs). By AI agents, Wed Nov 11 2026. No macro, syntax, notation, axiom, sorry.
-/
import Derived.Test.YtnfejojakikeeaaDoorRows
import GoSem.ClaimSeven
namespace Go.Proofs.YtnfejojakikeeaaDoor
namespace Rows

/-- THE TIED CARD OF 'timesynclaw06.LeapOneToOne'. -/
def leapOneToOneCard : Claim7 := { stood := { row := leapOneToOneRow, standIns := [], harness := (true, "5732520129394a119826d989098d2e7a7d6df8f14fb532af2e1e32a7a3b67be6"), looks := true }, kinds := [], alts := [], laidByText := true, laidKinds := [.data, .data, .data, .data, .sentinel, .sentinel, .data, .pinned], laidTests := true, laidLooks := .later }
def LeapOneToOneCardSaid : Prop := Claim7.holds Tryd.pinned (.plain (OpenSpec.ofChange leapOneToOneSpec)) leapOneToOneCard

/-- THE TIED CARD OF 'timesynclaw06.LeapTicks'. -/
def leapTicksCard : Claim7 := { stood := { row := leapTicksRow, standIns := [], harness := (true, "5732520129394a119826d989098d2e7a7d6df8f14fb532af2e1e32a7a3b67be6"), looks := true }, kinds := [], alts := [], laidByText := true, laidKinds := [.data, .data, .data, .data, .sentinel, .sentinel, .data, .pinned], laidTests := true, laidLooks := .later }
def LeapTicksCardSaid : Prop := Claim7.holds Tryd.pinned (.plain (OpenSpec.ofChange leapTicksSpec)) leapTicksCard

/-- THE TIED CARD OF 'timesynclaw06.LeapBack'. -/
def leapBackCard : Claim7 := { stood := { row := leapBackRow, standIns := [], harness := (true, "5732520129394a119826d989098d2e7a7d6df8f14fb532af2e1e32a7a3b67be6"), looks := true }, kinds := [], alts := [], laidByText := true, laidKinds := [.data, .data, .data, .data, .sentinel, .sentinel, .data, .pinned], laidTests := true, laidLooks := .later }
def LeapBackCardSaid : Prop := Claim7.holds Tryd.pinned (.plain (OpenSpec.ofChange leapBackSpec)) leapBackCard

/-- THE TIED CARD OF 'timesynclaw06.LeapAnnounces'. -/
def leapAnnouncesCard : Claim7 := { stood := { row := leapAnnouncesRow, standIns := [], harness := (true, "5732520129394a119826d989098d2e7a7d6df8f14fb532af2e1e32a7a3b67be6"), looks := true }, kinds := [], alts := [], laidByText := true, laidKinds := [.data, .data, .data, .data, .sentinel, .sentinel, .data, .pinned], laidTests := true, laidLooks := .later }
def LeapAnnouncesCardSaid : Prop := Claim7.holds Tryd.pinned (.plain (OpenSpec.ofChange leapAnnouncesSpec)) leapAnnouncesCard

/-- THE SECOND FORM's CARD OF 'timesynclaw06.LeapOneToOne'. -/
def leapOneToOneUptoCard : Claim7 := { stood := { row := leapOneToOneUptoRow, standIns := [], harness := (true, "5732520129394a119826d989098d2e7a7d6df8f14fb532af2e1e32a7a3b67be6"), looks := true }, kinds := [], alts := [], laidByText := true, laidKinds := [.data, .data, .data, .data, .sentinel, .sentinel, .data, .pinned], laidTests := true, laidLooks := .later }
def LeapOneToOneUptoCardSaid : Prop := Claim7.holds Tryd.pinned (.plain (OpenSpec.upto leapOneToOneSpec)) leapOneToOneUptoCard

/-- THE SECOND FORM's CARD OF 'timesynclaw06.LeapTicks'. -/
def leapTicksUptoCard : Claim7 := { stood := { row := leapTicksUptoRow, standIns := [], harness := (true, "5732520129394a119826d989098d2e7a7d6df8f14fb532af2e1e32a7a3b67be6"), looks := true }, kinds := [], alts := [], laidByText := true, laidKinds := [.data, .data, .data, .data, .sentinel, .sentinel, .data, .pinned], laidTests := true, laidLooks := .later }
def LeapTicksUptoCardSaid : Prop := Claim7.holds Tryd.pinned (.plain (OpenSpec.upto leapTicksSpec)) leapTicksUptoCard

/-- THE SECOND FORM's CARD OF 'timesynclaw06.LeapBack'. -/
def leapBackUptoCard : Claim7 := { stood := { row := leapBackUptoRow, standIns := [], harness := (true, "5732520129394a119826d989098d2e7a7d6df8f14fb532af2e1e32a7a3b67be6"), looks := true }, kinds := [], alts := [], laidByText := true, laidKinds := [.data, .data, .data, .data, .sentinel, .sentinel, .data, .pinned], laidTests := true, laidLooks := .later }
def LeapBackUptoCardSaid : Prop := Claim7.holds Tryd.pinned (.plain (OpenSpec.upto leapBackSpec)) leapBackUptoCard

/-- THE SECOND FORM's CARD OF 'timesynclaw06.LeapAnnounces'. -/
def leapAnnouncesUptoCard : Claim7 := { stood := { row := leapAnnouncesUptoRow, standIns := [], harness := (true, "5732520129394a119826d989098d2e7a7d6df8f14fb532af2e1e32a7a3b67be6"), looks := true }, kinds := [], alts := [], laidByText := true, laidKinds := [.data, .data, .data, .data, .sentinel, .sentinel, .data, .pinned], laidTests := true, laidLooks := .later }
def LeapAnnouncesUptoCardSaid : Prop := Claim7.holds Tryd.pinned (.plain (OpenSpec.upto leapAnnouncesSpec)) leapAnnouncesUptoCard
end Rows
end Go.Proofs.YtnfejojakikeeaaDoor
