/-
  DERIVED. GIVEN WITH THE SEED: THE CARDS: each row of YtdpfbedcejahjaaDoorRows.lean that lists a variable, with what it lists TIED to the program's text (the seventh form; the later family's looks); each row that meets fmt, with fmt's text TOLD by the authors' own Lean function (tested against real Go, not proved from fmt's source: count such statements apart). THE CARD IS WHAT COUNTS. Prove the row's statement (the work); the ties are given (YtdpfbedcejahjaaDoorTie.lean); close each card by the builder's one call (the guide's Derived/Test/ToyasCard.lean, 'card_holds'). Laid BY PROGRAM, IN A SANDBOX (cutbox-door.mjs). By AI agents, Wed Nov 11 2026. No macro, syntax, notation, axiom, sorry.
-/
import Derived.Test.YtdpfbedcejahjaaDoorRows
import GoSem.ClaimSeven
namespace Go.Proofs.YtdpfbedcejahjaaDoor
namespace Rows

/-- THE TIED CARD OF 'timesynclaw50.LogbookChecks'. -/
def logbookChecksCard : Claim7 := { stood := { row := logbookChecksRow, standIns := [], harness := (true, "564874f31a2064b56c5f0939af7266e812ae2367ef2df6b2e37e04df0403260a"), looks := true }, kinds := [], alts := [], laidByText := true, laidKinds := [.data, .data, .data, .data, .sentinel, .sentinel, .pinned], laidTests := true, laidLooks := .later }
def LogbookChecksCardSaid : Prop := Claim7.holds Tryd.pinned (.plain (OpenSpec.ofChange logbookChecksSpec)) logbookChecksCard

/-- THE TIED CARD OF 'timesynclaw50.LogbookParses'. -/
def logbookParsesCard : Claim7 := { stood := { row := logbookParsesRow, standIns := [], harness := (true, "564874f31a2064b56c5f0939af7266e812ae2367ef2df6b2e37e04df0403260a"), looks := true }, kinds := [], alts := [], laidByText := true, laidKinds := [.data, .data, .data, .data, .sentinel, .sentinel, .pinned], laidTests := true, laidLooks := .later }
def LogbookParsesCardSaid : Prop := Claim7.holds Tryd.pinned (.plain (OpenSpec.ofChange logbookParsesSpec)) logbookParsesCard

/-- THE TIED CARD OF 'timesynclaw50.LogbookPairs'. -/
def logbookPairsCard : Claim7 := { stood := { row := logbookPairsRow, standIns := [], harness := (true, "564874f31a2064b56c5f0939af7266e812ae2367ef2df6b2e37e04df0403260a"), looks := true }, kinds := [], alts := [], laidByText := true, laidKinds := [.data, .data, .data, .data, .sentinel, .sentinel, .pinned], laidTests := true, laidLooks := .later }
def LogbookPairsCardSaid : Prop := Claim7.holds Tryd.pinned (.plain (OpenSpec.ofChange logbookPairsSpec)) logbookPairsCard

/-- THE TIED CARD OF 'timesynclaw50.LogbookMatches'. -/
def logbookMatchesCard : Claim7 := { stood := { row := logbookMatchesRow, standIns := [], harness := (true, "564874f31a2064b56c5f0939af7266e812ae2367ef2df6b2e37e04df0403260a"), looks := true }, kinds := [], alts := [], laidByText := true, laidKinds := [.data, .data, .data, .data, .sentinel, .sentinel, .pinned], laidTests := true, laidLooks := .later }
def LogbookMatchesCardSaid : Prop := Claim7.holds Tryd.pinned (.plain (OpenSpec.ofChange logbookMatchesSpec)) logbookMatchesCard

/-- THE TIED CARD OF 'timesynclaw50.LogbookTexts'. -/
def logbookTextsCard : Claim7 := { stood := { row := logbookTextsRow, standIns := [], harness := (true, "564874f31a2064b56c5f0939af7266e812ae2367ef2df6b2e37e04df0403260a"), looks := true }, kinds := [], alts := [], laidByText := true, laidKinds := [.data, .data, .data, .data, .sentinel, .sentinel, .pinned], laidTests := true, laidLooks := .later }
def LogbookTextsCardSaid : Prop := Claim7.holds Tryd.pinned (.plain (OpenSpec.ofChange logbookTextsSpec)) logbookTextsCard

/-- THE TIED CARD OF 'timesynclaw50.LogbookBack'. -/
def logbookBackCard : Claim7 := { stood := { row := logbookBackRow, standIns := [], harness := (true, "564874f31a2064b56c5f0939af7266e812ae2367ef2df6b2e37e04df0403260a"), looks := true }, kinds := [], alts := [], laidByText := true, laidKinds := [.data, .data, .data, .data, .sentinel, .sentinel, .pinned], laidTests := true, laidLooks := .later }
def LogbookBackCardSaid : Prop := Claim7.holds Tryd.pinned (.plain (OpenSpec.ofChange logbookBackSpec)) logbookBackCard

/-- THE TIED CARD OF 'timesynclaw50.LogbookWrites'. -/
def logbookWritesCard : Claim7 := { stood := { row := logbookWritesRow, standIns := [], harness := (true, "564874f31a2064b56c5f0939af7266e812ae2367ef2df6b2e37e04df0403260a"), looks := true }, kinds := [], alts := [], laidByText := true, laidKinds := [.data, .data, .data, .data, .sentinel, .sentinel, .pinned], laidTests := true, laidLooks := .later }
def LogbookWritesCardSaid : Prop := Claim7.holds Tryd.pinned (.plain (OpenSpec.ofChange logbookWritesSpec)) logbookWritesCard

/-- THE SECOND FORM's CARD OF 'timesynclaw50.LogbookChecks'. -/
def logbookChecksUptoCard : Claim7 := { stood := { row := logbookChecksUptoRow, standIns := [], harness := (true, "564874f31a2064b56c5f0939af7266e812ae2367ef2df6b2e37e04df0403260a"), looks := true }, kinds := [], alts := [], laidByText := true, laidKinds := [.data, .data, .data, .data, .sentinel, .sentinel, .pinned], laidTests := true, laidLooks := .later }
def LogbookChecksUptoCardSaid : Prop := Claim7.holds Tryd.pinned (.plain (OpenSpec.upto logbookChecksSpec)) logbookChecksUptoCard

/-- THE SECOND FORM's CARD OF 'timesynclaw50.LogbookParses'. -/
def logbookParsesUptoCard : Claim7 := { stood := { row := logbookParsesUptoRow, standIns := [], harness := (true, "564874f31a2064b56c5f0939af7266e812ae2367ef2df6b2e37e04df0403260a"), looks := true }, kinds := [], alts := [], laidByText := true, laidKinds := [.data, .data, .data, .data, .sentinel, .sentinel, .pinned], laidTests := true, laidLooks := .later }
def LogbookParsesUptoCardSaid : Prop := Claim7.holds Tryd.pinned (.plain (OpenSpec.upto logbookParsesSpec)) logbookParsesUptoCard

/-- THE SECOND FORM's CARD OF 'timesynclaw50.LogbookPairs'. -/
def logbookPairsUptoCard : Claim7 := { stood := { row := logbookPairsUptoRow, standIns := [], harness := (true, "564874f31a2064b56c5f0939af7266e812ae2367ef2df6b2e37e04df0403260a"), looks := true }, kinds := [], alts := [], laidByText := true, laidKinds := [.data, .data, .data, .data, .sentinel, .sentinel, .pinned], laidTests := true, laidLooks := .later }
def LogbookPairsUptoCardSaid : Prop := Claim7.holds Tryd.pinned (.plain (OpenSpec.upto logbookPairsSpec)) logbookPairsUptoCard

/-- THE SECOND FORM's CARD OF 'timesynclaw50.LogbookMatches'. -/
def logbookMatchesUptoCard : Claim7 := { stood := { row := logbookMatchesUptoRow, standIns := [], harness := (true, "564874f31a2064b56c5f0939af7266e812ae2367ef2df6b2e37e04df0403260a"), looks := true }, kinds := [], alts := [], laidByText := true, laidKinds := [.data, .data, .data, .data, .sentinel, .sentinel, .pinned], laidTests := true, laidLooks := .later }
def LogbookMatchesUptoCardSaid : Prop := Claim7.holds Tryd.pinned (.plain (OpenSpec.upto logbookMatchesSpec)) logbookMatchesUptoCard

/-- THE SECOND FORM's CARD OF 'timesynclaw50.LogbookTexts'. -/
def logbookTextsUptoCard : Claim7 := { stood := { row := logbookTextsUptoRow, standIns := [], harness := (true, "564874f31a2064b56c5f0939af7266e812ae2367ef2df6b2e37e04df0403260a"), looks := true }, kinds := [], alts := [], laidByText := true, laidKinds := [.data, .data, .data, .data, .sentinel, .sentinel, .pinned], laidTests := true, laidLooks := .later }
def LogbookTextsUptoCardSaid : Prop := Claim7.holds Tryd.pinned (.plain (OpenSpec.upto logbookTextsSpec)) logbookTextsUptoCard

/-- THE SECOND FORM's CARD OF 'timesynclaw50.LogbookBack'. -/
def logbookBackUptoCard : Claim7 := { stood := { row := logbookBackUptoRow, standIns := [], harness := (true, "564874f31a2064b56c5f0939af7266e812ae2367ef2df6b2e37e04df0403260a"), looks := true }, kinds := [], alts := [], laidByText := true, laidKinds := [.data, .data, .data, .data, .sentinel, .sentinel, .pinned], laidTests := true, laidLooks := .later }
def LogbookBackUptoCardSaid : Prop := Claim7.holds Tryd.pinned (.plain (OpenSpec.upto logbookBackSpec)) logbookBackUptoCard

/-- THE SECOND FORM's CARD OF 'timesynclaw50.LogbookWrites'. -/
def logbookWritesUptoCard : Claim7 := { stood := { row := logbookWritesUptoRow, standIns := [], harness := (true, "564874f31a2064b56c5f0939af7266e812ae2367ef2df6b2e37e04df0403260a"), looks := true }, kinds := [], alts := [], laidByText := true, laidKinds := [.data, .data, .data, .data, .sentinel, .sentinel, .pinned], laidTests := true, laidLooks := .later }
def LogbookWritesUptoCardSaid : Prop := Claim7.holds Tryd.pinned (.plain (OpenSpec.upto logbookWritesSpec)) logbookWritesUptoCard
end Rows
end Go.Proofs.YtdpfbedcejahjaaDoor
