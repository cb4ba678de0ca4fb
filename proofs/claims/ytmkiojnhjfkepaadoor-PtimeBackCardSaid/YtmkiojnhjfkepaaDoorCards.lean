/-
  DERIVED. GIVEN WITH THE SEED: THE CARDS: each row of YtmkiojnhjfkepaaDoorRows.lean that lists a variable, with what it lists TIED to the program's text (the seventh form; the later family's looks); each row that meets fmt, with fmt's text TOLD by the authors' own Lean function (tested against real Go, not proved from fmt's source: count such statements apart). THE CARD IS WHAT COUNTS. Prove the row's statement (the work); the ties are given (YtmkiojnhjfkepaaDoorTie.lean); close each card by the builder's one call (the guide's Derived/Test/ToyasCard.lean, 'card_holds'). Laid BY PROGRAM, IN A SANDBOX (cutbox-door.mjs). By AI agents, Wed Nov 11 2026. No macro, syntax, notation, axiom, sorry.
-/
import Derived.Test.YtmkiojnhjfkepaaDoorRows
import GoSem.ClaimSeven
namespace Go.Proofs.YtmkiojnhjfkepaaDoor
namespace Rows

/-- THE TIED CARD OF 'timesynclaw04.PtimeInstants'. -/
def ptimeInstantsCard : Claim7 := { stood := { row := ptimeInstantsRow, standIns := [], harness := (true, "4b5ff3d97fc2c89bd570ac74b8b16548d0b48ea7ffe4261ef3568e6d8c6ac2c2"), looks := true }, kinds := [], alts := [], laidByText := true, laidKinds := [.data, .data, .data], laidTests := true, laidLooks := .later }
def PtimeInstantsCardSaid : Prop := Claim7.holds Tryd.pinned (.plain (OpenSpec.ofChange ptimeInstantsSpec)) ptimeInstantsCard

/-- THE TIED CARD OF 'timesynclaw04.PtimeCorrections'. -/
def ptimeCorrectionsCard : Claim7 := { stood := { row := ptimeCorrectionsRow, standIns := [], harness := (true, "4b5ff3d97fc2c89bd570ac74b8b16548d0b48ea7ffe4261ef3568e6d8c6ac2c2"), looks := true }, kinds := [], alts := [], laidByText := true, laidKinds := [.data, .data, .data], laidTests := true, laidLooks := .later }
def PtimeCorrectionsCardSaid : Prop := Claim7.holds Tryd.pinned (.plain (OpenSpec.ofChange ptimeCorrectionsSpec)) ptimeCorrectionsCard

/-- THE TIED CARD OF 'timesynclaw04.PtimeSums'. -/
def ptimeSumsCard : Claim7 := { stood := { row := ptimeSumsRow, standIns := [], harness := (true, "4b5ff3d97fc2c89bd570ac74b8b16548d0b48ea7ffe4261ef3568e6d8c6ac2c2"), looks := true }, kinds := [], alts := [], laidByText := true, laidKinds := [.data, .data, .data], laidTests := true, laidLooks := .later }
def PtimeSumsCardSaid : Prop := Claim7.holds Tryd.pinned (.plain (OpenSpec.ofChange ptimeSumsSpec)) ptimeSumsCard

/-- THE TIED CARD OF 'timesynclaw04.PtimeBytes'. -/
def ptimeBytesCard : Claim7 := { stood := { row := ptimeBytesRow, standIns := [], harness := (true, "4b5ff3d97fc2c89bd570ac74b8b16548d0b48ea7ffe4261ef3568e6d8c6ac2c2"), looks := true }, kinds := [], alts := [], laidByText := true, laidKinds := [.data, .data, .data], laidTests := true, laidLooks := .later }
def PtimeBytesCardSaid : Prop := Claim7.holds Tryd.pinned (.plain (OpenSpec.ofChange ptimeBytesSpec)) ptimeBytesCard

/-- THE TIED CARD OF 'timesynclaw04.PtimeTexts'. -/
def ptimeTextsCard : Claim7 := { stood := { row := ptimeTextsRow, standIns := [], harness := (true, "4b5ff3d97fc2c89bd570ac74b8b16548d0b48ea7ffe4261ef3568e6d8c6ac2c2"), looks := true }, kinds := [], alts := [], laidByText := true, laidKinds := [.data, .data, .data, .sentinel, .sentinel], laidTests := true, laidLooks := .later }
def PtimeTextsCardSaid : Prop := Claim7.holds Tryd.pinned (.plain (OpenSpec.ofChange ptimeTextsSpec)) ptimeTextsCard

/-- THE TIED CARD OF 'timesynclaw04.PtimeBack'. -/
def ptimeBackCard : Claim7 := { stood := { row := ptimeBackRow, standIns := [], harness := (true, "4b5ff3d97fc2c89bd570ac74b8b16548d0b48ea7ffe4261ef3568e6d8c6ac2c2"), looks := true }, kinds := [], alts := [], laidByText := true, laidKinds := [.data, .data, .data, .sentinel, .sentinel], laidTests := true, laidLooks := .later }
def PtimeBackCardSaid : Prop := Claim7.holds Tryd.pinned (.plain (OpenSpec.ofChange ptimeBackSpec)) ptimeBackCard

/-- THE SECOND FORM's CARD OF 'timesynclaw04.PtimeInstants'. -/
def ptimeInstantsUptoCard : Claim7 := { stood := { row := ptimeInstantsUptoRow, standIns := [], harness := (true, "4b5ff3d97fc2c89bd570ac74b8b16548d0b48ea7ffe4261ef3568e6d8c6ac2c2"), looks := true }, kinds := [], alts := [], laidByText := true, laidKinds := [.data, .data, .data], laidTests := true, laidLooks := .later }
def PtimeInstantsUptoCardSaid : Prop := Claim7.holds Tryd.pinned (.plain (OpenSpec.upto ptimeInstantsSpec)) ptimeInstantsUptoCard

/-- THE SECOND FORM's CARD OF 'timesynclaw04.PtimeCorrections'. -/
def ptimeCorrectionsUptoCard : Claim7 := { stood := { row := ptimeCorrectionsUptoRow, standIns := [], harness := (true, "4b5ff3d97fc2c89bd570ac74b8b16548d0b48ea7ffe4261ef3568e6d8c6ac2c2"), looks := true }, kinds := [], alts := [], laidByText := true, laidKinds := [.data, .data, .data], laidTests := true, laidLooks := .later }
def PtimeCorrectionsUptoCardSaid : Prop := Claim7.holds Tryd.pinned (.plain (OpenSpec.upto ptimeCorrectionsSpec)) ptimeCorrectionsUptoCard

/-- THE SECOND FORM's CARD OF 'timesynclaw04.PtimeSums'. -/
def ptimeSumsUptoCard : Claim7 := { stood := { row := ptimeSumsUptoRow, standIns := [], harness := (true, "4b5ff3d97fc2c89bd570ac74b8b16548d0b48ea7ffe4261ef3568e6d8c6ac2c2"), looks := true }, kinds := [], alts := [], laidByText := true, laidKinds := [.data, .data, .data], laidTests := true, laidLooks := .later }
def PtimeSumsUptoCardSaid : Prop := Claim7.holds Tryd.pinned (.plain (OpenSpec.upto ptimeSumsSpec)) ptimeSumsUptoCard

/-- THE SECOND FORM's CARD OF 'timesynclaw04.PtimeBytes'. -/
def ptimeBytesUptoCard : Claim7 := { stood := { row := ptimeBytesUptoRow, standIns := [], harness := (true, "4b5ff3d97fc2c89bd570ac74b8b16548d0b48ea7ffe4261ef3568e6d8c6ac2c2"), looks := true }, kinds := [], alts := [], laidByText := true, laidKinds := [.data, .data, .data], laidTests := true, laidLooks := .later }
def PtimeBytesUptoCardSaid : Prop := Claim7.holds Tryd.pinned (.plain (OpenSpec.upto ptimeBytesSpec)) ptimeBytesUptoCard

/-- THE SECOND FORM's CARD OF 'timesynclaw04.PtimeTexts'. -/
def ptimeTextsUptoCard : Claim7 := { stood := { row := ptimeTextsUptoRow, standIns := [], harness := (true, "4b5ff3d97fc2c89bd570ac74b8b16548d0b48ea7ffe4261ef3568e6d8c6ac2c2"), looks := true }, kinds := [], alts := [], laidByText := true, laidKinds := [.data, .data, .data, .sentinel, .sentinel], laidTests := true, laidLooks := .later }
def PtimeTextsUptoCardSaid : Prop := Claim7.holds Tryd.pinned (.plain (OpenSpec.upto ptimeTextsSpec)) ptimeTextsUptoCard

/-- THE SECOND FORM's CARD OF 'timesynclaw04.PtimeBack'. -/
def ptimeBackUptoCard : Claim7 := { stood := { row := ptimeBackUptoRow, standIns := [], harness := (true, "4b5ff3d97fc2c89bd570ac74b8b16548d0b48ea7ffe4261ef3568e6d8c6ac2c2"), looks := true }, kinds := [], alts := [], laidByText := true, laidKinds := [.data, .data, .data, .sentinel, .sentinel], laidTests := true, laidLooks := .later }
def PtimeBackUptoCardSaid : Prop := Claim7.holds Tryd.pinned (.plain (OpenSpec.upto ptimeBackSpec)) ptimeBackUptoCard
end Rows
end Go.Proofs.YtmkiojnhjfkepaaDoor
