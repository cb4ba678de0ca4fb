/- Structs of ints that are given: their cells. No condition. -/
import Derived.Test.YtmokeehpfjmgoaaLaw
namespace Go.Proofs.Ytmokeehpfjmgoaa
open Go.ChangeShapes Go.WideShapes Go.ChangeAt Go.RowKit Go.Deep

theorem take1 {cs : List Value} {j : Nat} {v : Value} (h : cs[j]? = some v) : (cs.drop j).take 1 = [v] := by
  obtain ⟨hj, rfl⟩ := List.getElem?_eq_some_iff.1 h
  rw [List.drop_eq_getElem_cons hj]; rfl
/-- is a field an int? -/
def intField (P : Program) (f : Field) : Bool := match P.underlying f.type with
  | some (.int .i64) => true
  | _ => false
theorem intField_of {P : Program} {f : Field} (h : intField P f = true) : P.underlying f.type = some (.int .i64) := by
  unfold intField at h
  split at h
  · assumption
  · cases h
section
variable {H : Type} {enc : TypeId × Value → H} {P : Program} {w : World}
theorem ints_of_struct {e : TypeId} {fs : Array Field} {fuel : Nat} {cs : List Value} {x : DataW H × List MemPlace} (hs : P.underlying e = some (.struct fs)) (hone : oneCellFields P fs = true) (hint : fs.all (intField P) = true) (hC : P.cellsOf e = fs.size)
    (h : DataW.trod enc P w 0 (fun _ => true) true fuel e cs = some x) : ∃ zs : List Int, zs.length = fs.size ∧ cs = zs.map (Value.int .i64) ∧ ∀ z ∈ zs, (Lit.int .i64 z).wf = true := by
  obtain ⟨ys, n', _, hy, hlen, hyl, hf⟩ := DataW.trod_struct hs h
  rw [hC] at hlen
  have key : ∀ j (hj : j < cs.length), ∃ z, cs[j] = Value.int .i64 z ∧ (Lit.int .i64 z).wf = true := by
    intro j hj
    have hjf : j < fs.size := by omega
    have hfj : fs[j]? = some fs[j] := Array.getElem?_eq_getElem hjf
    obtain ⟨ho, hk⟩ := hone_of hone j fs[j] hfj
    have h1 := hf j fs[j] hfj
    rw [ho, hk, take1 (List.getElem?_eq_getElem hj)] at h1
    have hyj : ys[j]? = some (ys[j]'(by omega)) := List.getElem?_eq_getElem (by omega)
    rw [hyj] at h1
    have hu := intField_of (Array.all_eq_true.1 hint j hjf)
    obtain ⟨z, hz, _, hw⟩ := DataW.trod_int hu h1
    simp only [List.cons.injEq, and_true] at hz
    exact ⟨z, hz, hw⟩
  refine ⟨cs.map fun v => match v with | .int _ z => z | _ => 0, by simp [hlen], ?_, ?_⟩
  · rw [List.map_map]
    apply List.ext_getElem (by simp)
    intro j h1 h2
    obtain ⟨z, hz, _⟩ := key j h1
    simp [hz]
  · intro z hz
    obtain ⟨v, hv, rfl⟩ := List.mem_map.1 hz
    obtain ⟨j, hj, rfl⟩ := List.mem_iff_getElem.1 hv
    obtain ⟨z, hz, hw⟩ := key j hj
    simpa [hz] using hw
end
end Go.Proofs.Ytmokeehpfjmgoaa
