/-
  No cell of these rows narrows 'for every input' (looked for: loops, veiled, ifaces, maps, wideKeys, modest, calm, conditions, laid).
  DERIVED. THE GIVEN ROWS OF THIS SEAT. 5 by the template 'for every input the law returns true; each argument reads behind the call as it read before'; 0 by the template 'total and deterministic' (their statements: YtppjhbjmfkiejaaGreatTotals.lean).
  GIVEN WITH THE SEED: the statements are not yours to turn. If you find one false, say at which input.
  Laid BY PROGRAM, IN A SANDBOX (cutbox-rows.mjs): the forced cells as the released guide's own fill.sh prints them over the translation cfb26bfb39fdf467… (all of the seat's roots in one cut). By AI agents, Wed Nov 11 2026. No macro, syntax, notation, axiom, sorry.
-/
import Derived.Test.YtppjhbjmfkiejaaGreatChecked
import GoSem.Claim
import GoSem.ClaimJoined
import GoSem.ClaimMapViews
import Derived.JoinedTies
import Derived.KernelRfl
namespace Go.Proofs.YtppjhbjmfkiejaaGreat
/- THE CELL 'sum', in the pinned program and in every row, IS THE sha256 OF THE DUMP (.gsa) THAT YtppjhbjmfkiejaaGreatProg.lean LOADS. Nothing in Lean hashes anything: it is a label: what it is worth is what the hold of that sum in a sandbox is worth. -/
noncomputable def Tryz.pinned : Pinned := { name := "ytppjhbjmfkiejaagreat", sum := "cfb26bfb39fdf467fd4e447dc73cfc8ce456d7d76315ad6a0f89650fd84dc452", checked := Tryz.checked }
namespace Rows
def none {H : Type} : Left H := { results := [], args := [] }

/-- 'timesynclaw57.NetsimRises': WHATEVER THE INPUT: true; the input reads as it did. -/
def netsimRisesSpec : ChangeSpec := { name := "netsimRises", fn := fun _ => fun
  | [d1, d2] => { results := [.lit (.bool true)], args := [d1, d2] }
  | _ => none }
def netsimRisesRow : OpenClaim := { program := "ytppjhbjmfkiejaagreat", sum := "cfb26bfb39fdf467fd4e447dc73cfc8ce456d7d76315ad6a0f89650fd84dc452", func := "timesync/timesynclaw57.NetsimRises", spec := "netsimRises", unfollowed := true, recurses := true, apart := false }
def NetsimRisesSaid : Prop := netsimRisesRow.holds Tryz.pinned (OpenSpec.ofChange netsimRisesSpec)

/-- ITS FALSE NEIGHBOUR: 'it returns false'. Refute it at one input. -/
def netsimRisesWrong : ChangeSpec := { name := "netsimRises", fn := fun _ => fun
  | [d1, d2] => { results := [.lit (.bool false)], args := [d1, d2] }
  | _ => none }
def NetsimRisesWrongFalsely : Prop := netsimRisesRow.holds Tryz.pinned (OpenSpec.ofChange netsimRisesWrong)

/-- 'timesynclaw57.NetsimFaults': WHATEVER THE INPUT: true; the input reads as it did. -/
def netsimFaultsSpec : ChangeSpec := { name := "netsimFaults", fn := fun _ => fun
  | [d1, d2, d3] => { results := [.lit (.bool true)], args := [d1, d2, d3] }
  | _ => none }
def netsimFaultsRow : OpenClaim := { program := "ytppjhbjmfkiejaagreat", sum := "cfb26bfb39fdf467fd4e447dc73cfc8ce456d7d76315ad6a0f89650fd84dc452", func := "timesync/timesynclaw57.NetsimFaults", spec := "netsimFaults", unfollowed := true, recurses := true, apart := false }
def NetsimFaultsSaid : Prop := netsimFaultsRow.holds Tryz.pinned (OpenSpec.ofChange netsimFaultsSpec)

/-- ITS FALSE NEIGHBOUR: 'it returns false'. Refute it at one input. -/
def netsimFaultsWrong : ChangeSpec := { name := "netsimFaults", fn := fun _ => fun
  | [d1, d2, d3] => { results := [.lit (.bool false)], args := [d1, d2, d3] }
  | _ => none }
def NetsimFaultsWrongFalsely : Prop := netsimFaultsRow.holds Tryz.pinned (OpenSpec.ofChange netsimFaultsWrong)

/-- 'timesynclaw57.NetsimTruth': WHATEVER THE INPUT: true; the input reads as it did. -/
def netsimTruthSpec : ChangeSpec := { name := "netsimTruth", fn := fun _ => fun
  | [d1, d2] => { results := [.lit (.bool true)], args := [d1, d2] }
  | _ => none }
def netsimTruthRow : OpenClaim := { program := "ytppjhbjmfkiejaagreat", sum := "cfb26bfb39fdf467fd4e447dc73cfc8ce456d7d76315ad6a0f89650fd84dc452", func := "timesync/timesynclaw57.NetsimTruth", spec := "netsimTruth", unfollowed := true, recurses := true, apart := false }
def NetsimTruthSaid : Prop := netsimTruthRow.holds Tryz.pinned (OpenSpec.ofChange netsimTruthSpec)

/-- ITS FALSE NEIGHBOUR: 'it returns false'. Refute it at one input. -/
def netsimTruthWrong : ChangeSpec := { name := "netsimTruth", fn := fun _ => fun
  | [d1, d2] => { results := [.lit (.bool false)], args := [d1, d2] }
  | _ => none }
def NetsimTruthWrongFalsely : Prop := netsimTruthRow.holds Tryz.pinned (OpenSpec.ofChange netsimTruthWrong)

/-- 'timesynclaw59.AuditChanged': WHATEVER THE INPUT: true; the input reads as it did. -/
def auditChangedSpec : ChangeSpec := { name := "auditChanged", fn := fun _ => fun
  | [d1, d2, d3] => { results := [.lit (.bool true)], args := [d1, d2, d3] }
  | _ => none }
def auditChangedRow : OpenClaim := { program := "ytppjhbjmfkiejaagreat", sum := "cfb26bfb39fdf467fd4e447dc73cfc8ce456d7d76315ad6a0f89650fd84dc452", func := "timesync/timesynclaw59.AuditChanged", spec := "auditChanged", unfollowed := true, recurses := true, named := ["math/bits.divideError", "math/bits.overflowError"], apart := false }
def AuditChangedSaid : Prop := auditChangedRow.holds Tryz.pinned (OpenSpec.ofChange auditChangedSpec)

/-- ITS FALSE NEIGHBOUR: 'it returns false'. Refute it at one input. -/
def auditChangedWrong : ChangeSpec := { name := "auditChanged", fn := fun _ => fun
  | [d1, d2, d3] => { results := [.lit (.bool false)], args := [d1, d2, d3] }
  | _ => none }
def AuditChangedWrongFalsely : Prop := auditChangedRow.holds Tryz.pinned (OpenSpec.ofChange auditChangedWrong)

/-- 'timesynclaw59.AuditBounds': WHATEVER THE INPUT: true; the input reads as it did. -/
def auditBoundsSpec : ChangeSpec := { name := "auditBounds", fn := fun _ => fun
  | [d1, d2, d3] => { results := [.lit (.bool true)], args := [d1, d2, d3] }
  | _ => none }
def auditBoundsRow : OpenClaim := { program := "ytppjhbjmfkiejaagreat", sum := "cfb26bfb39fdf467fd4e447dc73cfc8ce456d7d76315ad6a0f89650fd84dc452", func := "timesync/timesynclaw59.AuditBounds", spec := "auditBounds", unfollowed := true, recurses := true, named := ["math/bits.divideError", "math/bits.overflowError"], apart := false }
def AuditBoundsSaid : Prop := auditBoundsRow.holds Tryz.pinned (OpenSpec.ofChange auditBoundsSpec)

/-- ITS FALSE NEIGHBOUR: 'it returns false'. Refute it at one input. -/
def auditBoundsWrong : ChangeSpec := { name := "auditBounds", fn := fun _ => fun
  | [d1, d2, d3] => { results := [.lit (.bool false)], args := [d1, d2, d3] }
  | _ => none }
def AuditBoundsWrongFalsely : Prop := auditBoundsRow.holds Tryz.pinned (OpenSpec.ofChange auditBoundsWrong)

/- THE SECOND FORM. 'bulk': how many values and letters a reading holds, each counted each time it is reached (what is shared counts as often as it is met; a slice's spare places count too). A statement '..UptoSaid' is the law's where the arguments, and the package variables that the reading takes, are together of bulk at most 1048576: NARROWER than '..Said'. Prove '..Said' where nothing that the law and all that it calls make is longer than what came in: it says more and counts as full. Else prove '..UptoSaid'. A law counts once. -/
mutual
def uptoBulk {H : Type} : DataW H → Nat
  | .lit (.string bytes) => bytes.length + 1
  | .lit _ => 1
  | .nil => 1
  | .ptr d => uptoBulk d + 1
  | .slice elems spare => uptoBulkAll elems + uptoBulkAll spare + 1
  | .agg parts => uptoBulkAll parts + 1
  | .iface _ d => uptoBulk d + 1
  | .map entries => uptoBulkEntries entries + 1
  | .held _ => 1
def uptoBulkAll {H : Type} : List (DataW H) → Nat
  | [] => 0
  | d :: r => uptoBulk d + uptoBulkAll r
def uptoBulkEntries {H : Type} : List (Lit × DataW H) → Nat
  | [] => 0
  | x :: r => uptoBulkEntry x + uptoBulkEntries r
def uptoBulkEntry {H : Type} : Lit × DataW H → Nat
  | (.string bytes, d) => bytes.length + uptoBulk d + 1
  | (_, d) => uptoBulk d + 1
 end
def uptoSmall : (H : Type) → List (DataW H) → Bool := fun _ ds => decide (uptoBulkAll ds ≤ 1048576)
def OpenSpec.upto (s : _root_.Go.ChangeSpec) : _root_.Go.OpenSpec := { _root_.Go.OpenSpec.ofChange s with cond := some uptoSmall }

/-- 'timesynclaw57.NetsimRises', WHERE WHAT IT READS IS OF BULK AT MOST 1048576: true; the input reads as it did. -/
def netsimRisesUptoRow : OpenClaim := { program := "ytppjhbjmfkiejaagreat", sum := "cfb26bfb39fdf467fd4e447dc73cfc8ce456d7d76315ad6a0f89650fd84dc452", func := "timesync/timesynclaw57.NetsimRises", spec := "netsimRises", unfollowed := true, recurses := true, apart := false, narrowed := true }
def NetsimRisesUptoSaid : Prop := netsimRisesUptoRow.holds Tryz.pinned (OpenSpec.upto netsimRisesSpec)

/-- 'timesynclaw57.NetsimFaults', WHERE WHAT IT READS IS OF BULK AT MOST 1048576: true; the input reads as it did. -/
def netsimFaultsUptoRow : OpenClaim := { program := "ytppjhbjmfkiejaagreat", sum := "cfb26bfb39fdf467fd4e447dc73cfc8ce456d7d76315ad6a0f89650fd84dc452", func := "timesync/timesynclaw57.NetsimFaults", spec := "netsimFaults", unfollowed := true, recurses := true, apart := false, narrowed := true }
def NetsimFaultsUptoSaid : Prop := netsimFaultsUptoRow.holds Tryz.pinned (OpenSpec.upto netsimFaultsSpec)

/-- 'timesynclaw57.NetsimTruth', WHERE WHAT IT READS IS OF BULK AT MOST 1048576: true; the input reads as it did. -/
def netsimTruthUptoRow : OpenClaim := { program := "ytppjhbjmfkiejaagreat", sum := "cfb26bfb39fdf467fd4e447dc73cfc8ce456d7d76315ad6a0f89650fd84dc452", func := "timesync/timesynclaw57.NetsimTruth", spec := "netsimTruth", unfollowed := true, recurses := true, apart := false, narrowed := true }
def NetsimTruthUptoSaid : Prop := netsimTruthUptoRow.holds Tryz.pinned (OpenSpec.upto netsimTruthSpec)

/-- 'timesynclaw59.AuditChanged', WHERE WHAT IT READS IS OF BULK AT MOST 1048576: true; the input reads as it did. -/
def auditChangedUptoRow : OpenClaim := { program := "ytppjhbjmfkiejaagreat", sum := "cfb26bfb39fdf467fd4e447dc73cfc8ce456d7d76315ad6a0f89650fd84dc452", func := "timesync/timesynclaw59.AuditChanged", spec := "auditChanged", unfollowed := true, recurses := true, named := ["math/bits.divideError", "math/bits.overflowError"], apart := false, narrowed := true }
def AuditChangedUptoSaid : Prop := auditChangedUptoRow.holds Tryz.pinned (OpenSpec.upto auditChangedSpec)

/-- 'timesynclaw59.AuditBounds', WHERE WHAT IT READS IS OF BULK AT MOST 1048576: true; the input reads as it did. -/
def auditBoundsUptoRow : OpenClaim := { program := "ytppjhbjmfkiejaagreat", sum := "cfb26bfb39fdf467fd4e447dc73cfc8ce456d7d76315ad6a0f89650fd84dc452", func := "timesync/timesynclaw59.AuditBounds", spec := "auditBounds", unfollowed := true, recurses := true, named := ["math/bits.divideError", "math/bits.overflowError"], apart := false, narrowed := true }
def AuditBoundsUptoSaid : Prop := auditBoundsUptoRow.holds Tryz.pinned (OpenSpec.upto auditBoundsSpec)

end Rows
end Go.Proofs.YtppjhbjmfkiejaaGreat
