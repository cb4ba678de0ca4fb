/- What the frames of this chapter's laws want: a slice of entries that is given. No condition. -/
import Derived.Test.YtdpfbedcejahjaaDoorLa
import Derived.Test.YtdpfbedcejahjaaDoorSt
namespace Go.Proofs.YtdpfbedcejahjaaDoor
open Go.ChangeShapes Go.WideShapes Go.ChangeAt Go.RowKit Go.Deep

section
variable {H : Type} {enc : TypeId × Value → H} {w : World}
theorem vrow_entries {p : Option Addr} {n cap : Nat} {d : DataW H} {ps : List MemPlace} (h : DataW.Trod enc Tryd.prog w 0 (fun _ => true) true 22 (.slice p n cap) d ps) : ∃ l : List En, VRow enC 6 w p n cap l := by
  obtain ⟨l, hl, _⟩ := vrow_of enC 6 (fun _ => rfl) (by decide) (fun _ => True) Tryd.underlying22 (by kernel_rfl) h (fun fuel cs x hx => by
    obtain ⟨zs, h1, rfl, _⟩ := ints_of_struct Tryd.underlying37 (by kernel_rfl) (by kernel_rfl) (by kernel_rfl) hx
    match zs, h1 with
    | [a, b, c, d, e, f], _ => exact ⟨⟨a, b, c, d, e, f⟩, rfl, trivial⟩)
  exact ⟨l, hl⟩
end
end Go.Proofs.YtdpfbedcejahjaaDoor
