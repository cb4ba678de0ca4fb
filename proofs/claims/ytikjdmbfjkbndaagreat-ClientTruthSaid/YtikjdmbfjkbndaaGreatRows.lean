/-
  No cell of these rows narrows 'for every input' (looked for: loops, veiled, ifaces, maps, wideKeys, modest, calm, conditions, laid).
  DERIVED. THE GIVEN ROWS OF THIS SEAT. 5 by the template 'for every input the law returns true; each argument reads behind the call as it read before'; 0 by the template 'total and deterministic' (their statements: YtikjdmbfjkbndaaGreatTotals.lean).
  GIVEN WITH THE SEED: the statements are not yours to turn. If you find one false, say at which input.
  Laid BY PROGRAM, IN A SANDBOX (cutbox-rows.mjs): the forced cells as the released guide's own fill.sh prints them over the translation c4d02897fb0c156c… (all of the seat's roots in one cut). By AI agents, Wed Nov 11 2026. No macro, syntax, notation, axiom, sorry.
-/
import Derived.Test.YtikjdmbfjkbndaaGreatChecked
import GoSem.Claim
import GoSem.ClaimJoined
import GoSem.ClaimMapViews
import Derived.JoinedTies
import Derived.KernelRfl
namespace Go.Proofs.YtikjdmbfjkbndaaGreat
/- THE CELL 'sum', in the pinned program and in every row, IS THE sha256 OF THE DUMP (.gsa) THAT YtikjdmbfjkbndaaGreatProg.lean LOADS. Nothing in Lean hashes anything: it is a label: what it is worth is what the hold of that sum in a sandbox is worth. -/
noncomputable def Tryz.pinned : Pinned := { name := "ytikjdmbfjkbndaagreat", sum := "c4d02897fb0c156c604629d7485bc542919ab5af68d47a119d0491f71fd57905", checked := Tryz.checked }
namespace Rows
def none {H : Type} : Left H := { results := [], args := [] }

/-- 'timesynclaw32.ClientOnce': WHATEVER THE INPUT: true; the input reads as it did. -/
def clientOnceSpec : ChangeSpec := { name := "clientOnce", fn := fun _ => fun
  | [d1, d2, d3] => { results := [.lit (.bool true)], args := [d1, d2, d3] }
  | _ => none }
def clientOnceRow : OpenClaim := { program := "ytikjdmbfjkbndaagreat", sum := "c4d02897fb0c156c604629d7485bc542919ab5af68d47a119d0491f71fd57905", func := "timesync/timesynclaw32.ClientOnce", spec := "clientOnce", unfollowed := true, recurses := true, named := ["math/bits.divideError", "math/bits.overflowError"], apart := false }
def ClientOnceSaid : Prop := clientOnceRow.holds Tryz.pinned (OpenSpec.ofChange clientOnceSpec)

/-- ITS FALSE NEIGHBOUR: 'it returns false'. Refute it at one input. -/
def clientOnceWrong : ChangeSpec := { name := "clientOnce", fn := fun _ => fun
  | [d1, d2, d3] => { results := [.lit (.bool false)], args := [d1, d2, d3] }
  | _ => none }
def ClientOnceWrongFalsely : Prop := clientOnceRow.holds Tryz.pinned (OpenSpec.ofChange clientOnceWrong)

/-- 'timesynclaw32.ClientTruth': WHATEVER THE INPUT: true; the input reads as it did. -/
def clientTruthSpec : ChangeSpec := { name := "clientTruth", fn := fun _ => fun
  | [d] => { results := [.lit (.bool true)], args := [d] }
  | _ => none }
def clientTruthRow : OpenClaim := { program := "ytikjdmbfjkbndaagreat", sum := "c4d02897fb0c156c604629d7485bc542919ab5af68d47a119d0491f71fd57905", func := "timesync/timesynclaw32.ClientTruth", spec := "clientTruth", unfollowed := true, recurses := true, named := ["math/bits.divideError", "math/bits.overflowError"], apart := false }
def ClientTruthSaid : Prop := clientTruthRow.holds Tryz.pinned (OpenSpec.ofChange clientTruthSpec)

/-- ITS FALSE NEIGHBOUR: 'it returns false'. Refute it at one input. -/
def clientTruthWrong : ChangeSpec := { name := "clientTruth", fn := fun _ => fun
  | [d] => { results := [.lit (.bool false)], args := [d] }
  | _ => none }
def ClientTruthWrongFalsely : Prop := clientTruthRow.holds Tryz.pinned (OpenSpec.ofChange clientTruthWrong)

/-- 'timesynclaw32.ClientRises': WHATEVER THE INPUT: true; the input reads as it did. -/
def clientRisesSpec : ChangeSpec := { name := "clientRises", fn := fun _ => fun
  | [d1, d2] => { results := [.lit (.bool true)], args := [d1, d2] }
  | _ => none }
def clientRisesRow : OpenClaim := { program := "ytikjdmbfjkbndaagreat", sum := "c4d02897fb0c156c604629d7485bc542919ab5af68d47a119d0491f71fd57905", func := "timesync/timesynclaw32.ClientRises", spec := "clientRises", unfollowed := true, recurses := true, named := ["math/bits.divideError", "math/bits.overflowError"], apart := false }
def ClientRisesSaid : Prop := clientRisesRow.holds Tryz.pinned (OpenSpec.ofChange clientRisesSpec)

/-- ITS FALSE NEIGHBOUR: 'it returns false'. Refute it at one input. -/
def clientRisesWrong : ChangeSpec := { name := "clientRises", fn := fun _ => fun
  | [d1, d2] => { results := [.lit (.bool false)], args := [d1, d2] }
  | _ => none }
def ClientRisesWrongFalsely : Prop := clientRisesRow.holds Tryz.pinned (OpenSpec.ofChange clientRisesWrong)

/-- 'timesynclaw32.ClientPlays': WHATEVER THE INPUT: true; the input reads as it did. -/
def clientPlaysSpec : ChangeSpec := { name := "clientPlays", fn := fun _ => fun
  | [d1, d2, d3] => { results := [.lit (.bool true)], args := [d1, d2, d3] }
  | _ => none }
def clientPlaysRow : OpenClaim := { program := "ytikjdmbfjkbndaagreat", sum := "c4d02897fb0c156c604629d7485bc542919ab5af68d47a119d0491f71fd57905", func := "timesync/timesynclaw32.ClientPlays", spec := "clientPlays", unfollowed := true, recurses := true, named := ["math/bits.divideError", "math/bits.overflowError"], apart := false }
def ClientPlaysSaid : Prop := clientPlaysRow.holds Tryz.pinned (OpenSpec.ofChange clientPlaysSpec)

/-- ITS FALSE NEIGHBOUR: 'it returns false'. Refute it at one input. -/
def clientPlaysWrong : ChangeSpec := { name := "clientPlays", fn := fun _ => fun
  | [d1, d2, d3] => { results := [.lit (.bool false)], args := [d1, d2, d3] }
  | _ => none }
def ClientPlaysWrongFalsely : Prop := clientPlaysRow.holds Tryz.pinned (OpenSpec.ofChange clientPlaysWrong)

/-- 'timesynclaw32.ClientNobody': WHATEVER THE INPUT: true; the input reads as it did. -/
def clientNobodySpec : ChangeSpec := { name := "clientNobody", fn := fun _ => fun
  | [d1, d2, d3] => { results := [.lit (.bool true)], args := [d1, d2, d3] }
  | _ => none }
def clientNobodyRow : OpenClaim := { program := "ytikjdmbfjkbndaagreat", sum := "c4d02897fb0c156c604629d7485bc542919ab5af68d47a119d0491f71fd57905", func := "timesync/timesynclaw32.ClientNobody", spec := "clientNobody", unfollowed := true, recurses := true, named := ["math/bits.divideError", "math/bits.overflowError"], apart := false }
def ClientNobodySaid : Prop := clientNobodyRow.holds Tryz.pinned (OpenSpec.ofChange clientNobodySpec)

/-- ITS FALSE NEIGHBOUR: 'it returns false'. Refute it at one input. -/
def clientNobodyWrong : ChangeSpec := { name := "clientNobody", fn := fun _ => fun
  | [d1, d2, d3] => { results := [.lit (.bool false)], args := [d1, d2, d3] }
  | _ => none }
def ClientNobodyWrongFalsely : Prop := clientNobodyRow.holds Tryz.pinned (OpenSpec.ofChange clientNobodyWrong)

/- THE SECOND FORM. 'bulk': how many values and letters a reading holds, each counted each time it is reached (what is shared counts as often as it is met; a slice's spare places count too). A statement '..UptoSaid' is the law's where the arguments, and the package variables that the reading takes, are together of bulk at most 1048576: NARROWER than '..Said'. Prove '..Said' where nothing that the law and all that it calls make is longer than what came in: it says more and counts as full. Else prove '..UptoSaid'. A law counts once. -/
mutual
def uptoBulk {H : Type} : DataW H → Nat
  | .lit (.string bytes) => bytes.length + 1
  | .lit _ => 1
  | .nil => 1
  | .ptr d => uptoBulk d + 1
  | .slice elems spare => uptoBulkAll elems + uptoBulkAll spare + 1
  | .agg parts => uptoBulkAll parts + 1
  | .iface _ d => uptoBulk d + 1
  | .map entries => uptoBulkEntries entries + 1
  | .held _ => 1
def uptoBulkAll {H : Type} : List (DataW H) → Nat
  | [] => 0
  | d :: r => uptoBulk d + uptoBulkAll r
def uptoBulkEntries {H : Type} : List (Lit × DataW H) → Nat
  | [] => 0
  | x :: r => uptoBulkEntry x + uptoBulkEntries r
def uptoBulkEntry {H : Type} : Lit × DataW H → Nat
  | (.string bytes, d) => bytes.length + uptoBulk d + 1
  | (_, d) => uptoBulk d + 1
 end
def uptoSmall : (H : Type) → List (DataW H) → Bool := fun _ ds => decide (uptoBulkAll ds ≤ 1048576)
def OpenSpec.upto (s : _root_.Go.ChangeSpec) : _root_.Go.OpenSpec := { _root_.Go.OpenSpec.ofChange s with cond := some uptoSmall }

/-- 'timesynclaw32.ClientOnce', WHERE WHAT IT READS IS OF BULK AT MOST 1048576: true; the input reads as it did. -/
def clientOnceUptoRow : OpenClaim := { program := "ytikjdmbfjkbndaagreat", sum := "c4d02897fb0c156c604629d7485bc542919ab5af68d47a119d0491f71fd57905", func := "timesync/timesynclaw32.ClientOnce", spec := "clientOnce", unfollowed := true, recurses := true, named := ["math/bits.divideError", "math/bits.overflowError"], apart := false, narrowed := true }
def ClientOnceUptoSaid : Prop := clientOnceUptoRow.holds Tryz.pinned (OpenSpec.upto clientOnceSpec)

/-- 'timesynclaw32.ClientTruth', WHERE WHAT IT READS IS OF BULK AT MOST 1048576: true; the input reads as it did. -/
def clientTruthUptoRow : OpenClaim := { program := "ytikjdmbfjkbndaagreat", sum := "c4d02897fb0c156c604629d7485bc542919ab5af68d47a119d0491f71fd57905", func := "timesync/timesynclaw32.ClientTruth", spec := "clientTruth", unfollowed := true, recurses := true, named := ["math/bits.divideError", "math/bits.overflowError"], apart := false, narrowed := true }
def ClientTruthUptoSaid : Prop := clientTruthUptoRow.holds Tryz.pinned (OpenSpec.upto clientTruthSpec)

/-- 'timesynclaw32.ClientRises', WHERE WHAT IT READS IS OF BULK AT MOST 1048576: true; the input reads as it did. -/
def clientRisesUptoRow : OpenClaim := { program := "ytikjdmbfjkbndaagreat", sum := "c4d02897fb0c156c604629d7485bc542919ab5af68d47a119d0491f71fd57905", func := "timesync/timesynclaw32.ClientRises", spec := "clientRises", unfollowed := true, recurses := true, named := ["math/bits.divideError", "math/bits.overflowError"], apart := false, narrowed := true }
def ClientRisesUptoSaid : Prop := clientRisesUptoRow.holds Tryz.pinned (OpenSpec.upto clientRisesSpec)

/-- 'timesynclaw32.ClientPlays', WHERE WHAT IT READS IS OF BULK AT MOST 1048576: true; the input reads as it did. -/
def clientPlaysUptoRow : OpenClaim := { program := "ytikjdmbfjkbndaagreat", sum := "c4d02897fb0c156c604629d7485bc542919ab5af68d47a119d0491f71fd57905", func := "timesync/timesynclaw32.ClientPlays", spec := "clientPlays", unfollowed := true, recurses := true, named := ["math/bits.divideError", "math/bits.overflowError"], apart := false, narrowed := true }
def ClientPlaysUptoSaid : Prop := clientPlaysUptoRow.holds Tryz.pinned (OpenSpec.upto clientPlaysSpec)

/-- 'timesynclaw32.ClientNobody', WHERE WHAT IT READS IS OF BULK AT MOST 1048576: true; the input reads as it did. -/
def clientNobodyUptoRow : OpenClaim := { program := "ytikjdmbfjkbndaagreat", sum := "c4d02897fb0c156c604629d7485bc542919ab5af68d47a119d0491f71fd57905", func := "timesync/timesynclaw32.ClientNobody", spec := "clientNobody", unfollowed := true, recurses := true, named := ["math/bits.divideError", "math/bits.overflowError"], apart := false, narrowed := true }
def ClientNobodyUptoSaid : Prop := clientNobodyUptoRow.holds Tryz.pinned (OpenSpec.upto clientNobodySpec)

end Rows
end Go.Proofs.YtikjdmbfjkbndaaGreat
