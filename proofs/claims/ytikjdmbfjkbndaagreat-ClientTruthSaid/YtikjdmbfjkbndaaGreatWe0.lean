/- Texts of one chain: St, Sn5, Sn4. Conditions: those named in each theorem. -/
import Derived.Test.YtikjdmbfjkbndaaGreatV1
import Derived.Test.YtikjdmbfjkbndaaGreatWc0
import Derived.Lib.SmallJoins
namespace Go.Proofs.YtikjdmbfjkbndaaGreat
open Go.ChangeShapes Go.WideShapes Go.ChangeAt Go.RowKit Go.Deep

theorem take1 {cs : List Value} {j : Nat} {v : Value} (h : cs[j]? = some v) : (cs.drop j).take 1 = [v] := by
 obtain ⟨hj, rfl⟩ := List.getElem?_eq_some_iff.1 h
 rw [List.drop_eq_getElem_cons hj]; rfl
/-- is a field an int? -/
def intField (P : Program) (f : Field) : Bool := match P.underlying f.type with
 | some (.int .i64) => true
 | _ => false
theorem intField_of {P : Program} {f : Field} (h : intField P f = true) : P.underlying f.type = some (.int .i64) := by
 unfold intField at h
 split at h
 ·assumption
 ·cases h
section
variable {H : Type} {enc : TypeId × Value → H} {P : Program} {w : World}
theorem ints_of_struct {e : TypeId} {fs : Array Field} {fuel : Nat} {cs : List Value} {x : DataW H × List MemPlace} (hs : P.underlying e = some (.struct fs)) (hone : oneCellFields P fs = true) (hint : fs.all (intField P) = true) (hC : P.cellsOf e = fs.size)
  (h : DataW.trod enc P w 0 (fun _ => true) true fuel e cs = some x) : ∃ zs : List Int, zs.length = fs.size ∧ cs = zs.map (Value.int .i64) ∧ ∀ z ∈ zs, (Lit.int .i64 z).wf = true := by
 obtain ⟨ys, n', _, hy, hlen, hyl, hf⟩ := DataW.trod_struct hs h
 rw [hC] at hlen
 have key : ∀ j (hj : j < cs.length), ∃ z, cs[j] = Value.int .i64 z ∧ (Lit.int .i64 z).wf = true := by
  intro j hj
  have hjf : j < fs.size := by omega
  have hfj : fs[j]? = some fs[j] := Array.getElem?_eq_getElem hjf
  obtain ⟨ho, hk⟩ := hone_of hone j fs[j] hfj
  have h1 := hf j fs[j] hfj
  rw [ho, hk, take1 (List.getElem?_eq_getElem hj)] at h1
  have hyj : ys[j]? = some (ys[j]'(by omega)) := List.getElem?_eq_getElem (by omega)
  rw [hyj] at h1
  have hu := intField_of (Array.all_eq_true.1 hint j hjf)
  obtain ⟨z, hz, _, hw⟩ := DataW.trod_int hu h1
  simp only [List.cons.injEq, and_true] at hz
  exact ⟨z, hz, hw⟩
 refine ⟨cs.map fun v => match v with | .int _ z => z | _ => 0, by simp [hlen], ?_, ?_⟩
 ·rw [List.map_map]
  apply List.ext_getElem (by simp)
  intro j h1 h2
  obtain ⟨z, hz, _⟩ := key j h1
  simp [hz]
 ·intro z hz
  obtain ⟨v, hv, rfl⟩ := List.mem_map.1 hz
  obtain ⟨j, hj, rfl⟩ := List.mem_iff_getElem.1 hv
  obtain ⟨z, hz, hw⟩ := key j hj
  simpa [hz] using hw
end
end Go.Proofs.YtikjdmbfjkbndaaGreat

namespace Go.Proofs.YtikjdmbfjkbndaaGreat
open Go.ChangeShapes Go.WideShapes Go.ChangeAt Go.RowKit Go.Deep

section
variable {H : Type} {enc : TypeId × Value → H} {w : World}
theorem fld_at {P : Program} {e : TypeId} {fs : Array Field} {fuel : Nat} {cs : List Value} {x : DataW H × List MemPlace} (hs : P.underlying e = some (.struct fs)) (h : DataW.trod enc P w 0 (fun _ => true) true fuel e cs = some x)
  (j : Nat) (T : TypeId) (o k : Nat) (hf : (fs[j]?).map (fun f => (f.type, f.offset, P.cellsOf f.type)) = some (T, o, k)) : ∃ n y, DataW.trod enc P w 0 (fun _ => true) true n T ((cs.drop o).take k) = some y := by
 obtain ⟨ys, n, _, _, _, hyl, hfl⟩ := DataW.trod_struct hs h
 cases hj : fs[j]? with
 | none => rw [hj] at hf; cases hf
 | some f =>
  rw [hj] at hf
  simp only [Option.map_some, Option.some.injEq, Prod.mk.injEq] at hf
  obtain ⟨rfl, rfl, rfl⟩ := hf
  have hlt : j < fs.size := (Array.getElem?_eq_some_iff.1 hj).1
  exact ⟨n, ys[j]'(by omega), by rw [hfl j f hj]; exact List.getElem?_eq_getElem _⟩
theorem cs_len {P : Program} {e : TypeId} {fs : Array Field} {fuel : Nat} {cs : List Value} {x : DataW H × List MemPlace} (hs : P.underlying e = some (.struct fs)) (h : DataW.trod enc P w 0 (fun _ => true) true fuel e cs = some x) : cs.length = P.cellsOf e := by
 obtain ⟨ys, n, _, _, hl, _⟩ := DataW.trod_struct hs h
 exact hl
theorem int_at {P : Program} {e : TypeId} {k : IntKind} {fuel : Nat} {v : Value} {x : DataW H × List MemPlace} (he : P.underlying e = some (.int k)) (h : DataW.trod enc P w 0 (fun _ => true) true fuel e [v] = some x) : ∃ z, v = .int k z ∧ (Lit.int k z).wf = true := by
 obtain ⟨z, h1, _, h2⟩ := DataW.trod_int he h
 exact ⟨z, by simpa using h1, h2⟩
theorem bool_at {P : Program} {e : TypeId} {fuel : Nat} {v : Value} {x : DataW H × List MemPlace} (he : P.underlying e = some .bool) (h : DataW.trod enc P w 0 (fun _ => true) true fuel e [v] = some x) : ∃ z, v = .bool z := by
 obtain ⟨z, h1, _⟩ := DataW.trod_bool he h
 exact ⟨z, by simpa using h1⟩
end
end Go.Proofs.YtikjdmbfjkbndaaGreat

namespace Go.Proofs.YtikjdmbfjkbndaaGreat
open Go.ChangeShapes Go.WideShapes Go.ChangeAt Go.RowKit Go.Deep

section
variable {H : Type} {enc : TypeId × Value → H} {w : World}
theorem slice_at {P : Program} {t e : TypeId} {fuel : Nat} {v : Value} {y : DataW H × List MemPlace} (ht : P.underlying t = some (.slice e)) (hf : DataW.trod enc P w 0 (fun _ => true) true fuel t [v] = some y) :
  ∃ a l c, v = .slice a l c ∧ DataW.Trod enc P w 0 (fun _ => true) true t (.slice a l c) y.1 y.2 := by
 obtain ⟨a, l, c, h⟩ := Joins.slice_form ht hf
 have hv : v = .slice a l c := by simpa using h
 subst hv
 exact ⟨a, l, c, rfl, fuel, by simpa [Value.cells] using hf⟩
set_option maxRecDepth 100000 in
theorem vrow_sgms {p : Option Addr} {n cap : Nat} {d : DataW H} {ps : List MemPlace} (h : DataW.Trod enc Tryz.prog w 0 (fun _ => true) true 47 (.slice p n cap) d ps) : ∃ l : List Sgm, VRow sgC 2 w p n cap l := by
 obtain ⟨l, hl, _⟩ := vrow_of sgC 2 (fun _ => rfl) (by decide) (fun _ => True) Tryz.underlying47 (by kernel_rfl) h (fun fuel cs x hx => by
  obtain ⟨zs, h1, rfl, _⟩ := ints_of_struct Tryz.underlying118 (by kernel_rfl) (by kernel_rfl) (by kernel_rfl) hx
  match zs, h1 with
  | [a, b], _ => exact ⟨⟨a, b⟩, rfl, trivial⟩)
 exact ⟨l, hl⟩
set_option maxRecDepth 100000 in
theorem vrow_trips {p : Option Addr} {n cap : Nat} {d : DataW H} {ps : List MemPlace} (h : DataW.Trod enc Tryz.prog w 0 (fun _ => true) true 50 (.slice p n cap) d ps) : ∃ l : List Tp, VRow tpC 7 w p n cap l := by
 obtain ⟨l, hl, _⟩ := vrow_of tpC 7 (fun _ => rfl) (by decide) (fun _ => True) Tryz.underlying50 (by kernel_rfl) h (fun fuel cs x hx => by
  have hs := Tryz.underlying58
  have hl : cs.length = 7 := (cs_len hs hx).trans (by kernel_rfl)
  match cs, hl, hx with
  | [v0, v1, v2, v3, v4, v5, v6], _, hx =>
   obtain ⟨_, yg0, g0⟩ := fld_at hs hx 0 3 0 1 (by kernel_rfl)
   obtain ⟨_, yg1, g1⟩ := fld_at hs hx 1 3 1 1 (by kernel_rfl)
   obtain ⟨_, yg2, g2⟩ := fld_at hs hx 2 3 2 1 (by kernel_rfl)
   obtain ⟨_, yg3, g3⟩ := fld_at hs hx 3 3 3 1 (by kernel_rfl)
   obtain ⟨_, yg4, g4⟩ := fld_at hs hx 4 3 4 1 (by kernel_rfl)
   obtain ⟨_, yg5, g5⟩ := fld_at hs hx 5 3 5 1 (by kernel_rfl)
   obtain ⟨_, yg6, g6⟩ := fld_at hs hx 6 4 6 1 (by kernel_rfl)
   obtain ⟨z0, rfl, _⟩ := int_at Tryz.underlying3 g0
   obtain ⟨z1, rfl, _⟩ := int_at Tryz.underlying3 g1
   obtain ⟨z2, rfl, _⟩ := int_at Tryz.underlying3 g2
   obtain ⟨z3, rfl, _⟩ := int_at Tryz.underlying3 g3
   obtain ⟨z4, rfl, _⟩ := int_at Tryz.underlying3 g4
   obtain ⟨z5, rfl, _⟩ := int_at Tryz.underlying3 g5
   obtain ⟨bb, rfl⟩ := bool_at Tryz.underlying4 g6
   exact ⟨⟨z0, z1, z2, z3, z4, z5, bb⟩, rfl, trivial⟩)
 exact ⟨l, hl⟩
set_option maxRecDepth 100000 in
theorem open_truth {r : Reach} {b0 : Nat} {v : Value} {d : DataW H} {ps : List MemPlace} (hval : Value.okWide Tryz.prog w r b0 52 v) (h : DataW.Trod enc Tryz.prog w 0 (fun _ => true) true 52 v d ps) :
  ∃ (ph sv li : Int) (p q : Option Addr) (n cap n2 cap2 : Nat) (l : List Sgm) (ts : List Tp), v = .agg #[.int .i64 ph, .slice p n cap, .int .i64 sv, .int .i64 li, .slice q n2 cap2] ∧ VRow sgC 2 w p n cap l ∧ VRow tpC 7 w q n2 cap2 ts := by
 obtain ⟨cs, rfl, hsz⟩ := okWide_struct Tryz.underlying52 hval
 obtain ⟨m, hx⟩ := h
 have hs := Tryz.underlying52
 obtain ⟨l⟩ := cs
 have hl : l.length = 5 := (cs_len hs hx).trans (by kernel_rfl)
 match l, hl, hx with
 | [v0, v1, v2, v3, v4], _, hx =>
  simp only [Value.cells] at hx
  obtain ⟨_, yg0, g0⟩ := fld_at hs hx 0 49 0 2 (by kernel_rfl)
  obtain ⟨_, yg1, g1⟩ := fld_at hs hx 1 3 2 1 (by kernel_rfl)
  obtain ⟨_, yg2, g2⟩ := fld_at hs hx 2 3 3 1 (by kernel_rfl)
  obtain ⟨_, yg3, g3⟩ := fld_at hs hx 3 50 4 1 (by kernel_rfl)
  have ho := Tryz.underlying49
  obtain ⟨_, yi0, i0⟩ := fld_at ho g0 0 3 0 1 (by kernel_rfl)
  obtain ⟨_, yi1, i1⟩ := fld_at ho g0 1 47 1 1 (by kernel_rfl)
  obtain ⟨ph, rfl, _⟩ := int_at Tryz.underlying3 i0
  obtain ⟨p, n, cap, rfl, t1⟩ := slice_at Tryz.underlying47 i1
  obtain ⟨sv, rfl, _⟩ := int_at Tryz.underlying3 g1
  obtain ⟨li, rfl, _⟩ := int_at Tryz.underlying3 g2
  obtain ⟨q, n2, cap2, rfl, t2⟩ := slice_at Tryz.underlying50 g3
  obtain ⟨l1, h1⟩ := vrow_sgms t1
  obtain ⟨l2, h2⟩ := vrow_trips t2
  exact ⟨ph, sv, li, p, q, n, cap, n2, cap2, l1, l2, rfl, h1, h2⟩
end
end Go.Proofs.YtikjdmbfjkbndaaGreat
