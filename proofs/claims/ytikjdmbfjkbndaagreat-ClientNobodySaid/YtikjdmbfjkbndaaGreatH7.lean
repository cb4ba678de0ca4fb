/- Texts of one chain: St, Sn2. Conditions: those named in each theorem. -/
import Derived.Test.YtikjdmbfjkbndaaGreatLaw
/- Structs of ints that are given: their cells. No condition. -/
namespace Go.Proofs.YtikjdmbfjkbndaaGreat
open Go.ChangeShapes Go.WideShapes Go.ChangeAt Go.RowKit Go.Deep

theorem take1 {cs : List Value} {j : Nat} {v : Value} (h : cs[j]? = some v) : (cs.drop j).take 1 = [v] := by
  obtain ⟨hj, rfl⟩ := List.getElem?_eq_some_iff.1 h
  rw [List.drop_eq_getElem_cons hj]; rfl
/-- is a field an int? -/
def intField (P : Program) (f : Field) : Bool := match P.underlying f.type with
  | some (.int .i64) => true
  | _ => false
theorem intField_of {P : Program} {f : Field} (h : intField P f = true) : P.underlying f.type = some (.int .i64) := by
  unfold intField at h
  split at h
  · assumption
  · cases h
section
variable {H : Type} {enc : TypeId × Value → H} {P : Program} {w : World}
theorem ints_of_struct {e : TypeId} {fs : Array Field} {fuel : Nat} {cs : List Value} {x : DataW H × List MemPlace} (hs : P.underlying e = some (.struct fs)) (hone : oneCellFields P fs = true) (hint : fs.all (intField P) = true) (hC : P.cellsOf e = fs.size)
    (h : DataW.trod enc P w 0 (fun _ => true) true fuel e cs = some x) : ∃ zs : List Int, zs.length = fs.size ∧ cs = zs.map (Value.int .i64) ∧ ∀ z ∈ zs, (Lit.int .i64 z).wf = true := by
  obtain ⟨ys, n', _, hy, hlen, hyl, hf⟩ := DataW.trod_struct hs h
  rw [hC] at hlen
  have key : ∀ j (hj : j < cs.length), ∃ z, cs[j] = Value.int .i64 z ∧ (Lit.int .i64 z).wf = true := by
    intro j hj
    have hjf : j < fs.size := by omega
    have hfj : fs[j]? = some fs[j] := Array.getElem?_eq_getElem hjf
    obtain ⟨ho, hk⟩ := hone_of hone j fs[j] hfj
    have h1 := hf j fs[j] hfj
    rw [ho, hk, take1 (List.getElem?_eq_getElem hj)] at h1
    have hyj : ys[j]? = some (ys[j]'(by omega)) := List.getElem?_eq_getElem (by omega)
    rw [hyj] at h1
    have hu := intField_of (Array.all_eq_true.1 hint j hjf)
    obtain ⟨z, hz, _, hw⟩ := DataW.trod_int hu h1
    simp only [List.cons.injEq, and_true] at hz
    exact ⟨z, hz, hw⟩
  refine ⟨cs.map fun v => match v with | .int _ z => z | _ => 0, by simp [hlen], ?_, ?_⟩
  · rw [List.map_map]
    apply List.ext_getElem (by simp)
    intro j h1 h2
    obtain ⟨z, hz, _⟩ := key j h1
    simp [hz]
  · intro z hz
    obtain ⟨v, hv, rfl⟩ := List.mem_map.1 hz
    obtain ⟨j, hj, rfl⟩ := List.mem_iff_getElem.1 hv
    obtain ⟨z, hz, hw⟩ := key j hj
    simpa [hz] using hw
end
end Go.Proofs.YtikjdmbfjkbndaaGreat

/- Structs of ints of several kinds that are given: their cells. No condition. -/
namespace Go.Proofs.YtikjdmbfjkbndaaGreat
open Go.ChangeShapes Go.WideShapes Go.ChangeAt Go.RowKit Go.Deep

def kindF (P : Program) (f : Field) : Option IntKind := match P.underlying f.type with
  | some (.int k) => some k
  | _ => none
theorem kindF_of {P : Program} {f : Field} {k : IntKind} (h : kindF P f = some k) : P.underlying f.type = some (.int k) := by
  unfold kindF at h
  split at h
  · rename_i h2; rw [h2, Option.some.inj h]
  · cases h
def zOf : Value → Int
  | .int _ z => z
  | _ => 0
section
variable {H : Type} {enc : TypeId × Value → H} {P : Program} {w : World}
theorem kinds_of_struct {e : TypeId} {fs : Array Field} {fuel : Nat} {cs : List Value} {x : DataW H × List MemPlace} (ks : List IntKind) (hs : P.underlying e = some (.struct fs)) (hone : oneCellFields P fs = true) (hks : fs.toList.map (kindF P) = ks.map some) (hC : P.cellsOf e = fs.size)
    (h : DataW.trod enc P w 0 (fun _ => true) true fuel e cs = some x) : cs.length = ks.length ∧ ∀ j (hj : j < cs.length) (hk : j < ks.length), ∃ z, cs[j] = Value.int ks[j] z ∧ (Lit.int ks[j] z).wf = true := by
  obtain ⟨ys, n', _, hy, hlen, hyl, hf⟩ := DataW.trod_struct hs h
  rw [hC] at hlen
  have hkl : fs.size = ks.length := by have := congrArg List.length hks; simpa using this
  refine ⟨by omega, fun j hj hk => ?_⟩
  have hjf : j < fs.size := by omega
  have hfj : fs[j]? = some fs[j] := Array.getElem?_eq_getElem hjf
  obtain ⟨ho, hkk⟩ := hone_of hone j fs[j] hfj
  have h1 := hf j fs[j] hfj
  rw [ho, hkk, take1 (List.getElem?_eq_getElem hj)] at h1
  have hyj : ys[j]? = some (ys[j]'(by omega)) := List.getElem?_eq_getElem (by omega)
  rw [hyj] at h1
  have hkj : kindF P fs[j] = some ks[j] := by
    have h2 : (fs.toList.map (kindF P))[j]? = (ks.map some)[j]? := by rw [hks]
    simpa [hjf, hk] using h2
  obtain ⟨z, hz, _, hw⟩ := DataW.trod_int (kindF_of hkj) h1
  simp only [List.cons.injEq, and_true] at hz
  exact ⟨z, hz, hw⟩
end
set_option maxRecDepth 100000 in
theorem open_ntp {H : Type} {enc : TypeId × Value → H} {w : World} {r : Reach} {b0 : Nat} {v : Value} {d : DataW H} {ps : List MemPlace} (hval : Value.okWide Tryz.prog w r b0 33 v) (h : DataW.Trod enc Tryz.prog w 0 (fun _ => true) true 33 v d ps) :
    ∃ p0 p1 p2 p3 p4 p5 p6 p7 p8 p9 p10 p11 p12 : Int, v = .agg #[.int .i64 p0, .int .i64 p1, .int .i64 p2, .int .i64 p3, .int .i64 p4, .int .i64 p5, .int .u32 p6, .int .u32 p7, .int .u32 p8, .int .u64 p9, .int .u64 p10, .int .u64 p11, .int .u64 p12] ∧ (Lit.int .i64 p0).wf = true ∧ (Lit.int .i64 p1).wf = true ∧ (Lit.int .i64 p2).wf = true ∧ (Lit.int .i64 p3).wf = true ∧ (Lit.int .i64 p4).wf = true ∧ (Lit.int .i64 p5).wf = true ∧ (Lit.int .u32 p6).wf = true ∧ (Lit.int .u32 p7).wf = true ∧ (Lit.int .u32 p8).wf = true ∧ (Lit.int .u64 p9).wf = true ∧ (Lit.int .u64 p10).wf = true ∧ (Lit.int .u64 p11).wf = true ∧ (Lit.int .u64 p12).wf = true := by
  obtain ⟨cs, rfl, hsz⟩ := okWide_struct Tryz.underlying33 hval
  obtain ⟨m, hm⟩ := h
  obtain ⟨hl, hk⟩ := kinds_of_struct [.i64, .i64, .i64, .i64, .i64, .i64, .u32, .u32, .u32, .u64, .u64, .u64, .u64] Tryz.underlying33 (by kernel_rfl) (by kernel_rfl) (by kernel_rfl) hm
  obtain ⟨l⟩ := cs
  match l, hl, hk with
  | [x0, x1, x2, x3, x4, x5, x6, x7, x8, x9, x10, x11, x12], _, hk =>
    obtain ⟨p0, e0, w0⟩ := hk 0 (by show _ < 13; decide) (by decide)
    obtain ⟨p1, e1, w1⟩ := hk 1 (by show _ < 13; decide) (by decide)
    obtain ⟨p2, e2, w2⟩ := hk 2 (by show _ < 13; decide) (by decide)
    obtain ⟨p3, e3, w3⟩ := hk 3 (by show _ < 13; decide) (by decide)
    obtain ⟨p4, e4, w4⟩ := hk 4 (by show _ < 13; decide) (by decide)
    obtain ⟨p5, e5, w5⟩ := hk 5 (by show _ < 13; decide) (by decide)
    obtain ⟨p6, e6, w6⟩ := hk 6 (by show _ < 13; decide) (by decide)
    obtain ⟨p7, e7, w7⟩ := hk 7 (by show _ < 13; decide) (by decide)
    obtain ⟨p8, e8, w8⟩ := hk 8 (by show _ < 13; decide) (by decide)
    obtain ⟨p9, e9, w9⟩ := hk 9 (by show _ < 13; decide) (by decide)
    obtain ⟨p10, e10, w10⟩ := hk 10 (by show _ < 13; decide) (by decide)
    obtain ⟨p11, e11, w11⟩ := hk 11 (by show _ < 13; decide) (by decide)
    obtain ⟨p12, e12, w12⟩ := hk 12 (by show _ < 13; decide) (by decide)
    simp only [Value.cells, List.getElem_cons_zero, List.getElem_cons_succ] at e0 e1 e2 e3 e4 e5 e6 e7 e8 e9 e10 e11 e12
    subst e0 e1 e2 e3 e4 e5 e6 e7 e8 e9 e10 e11 e12
    exact ⟨p0, p1, p2, p3, p4, p5, p6, p7, p8, p9, p10, p11, p12, rfl, w0, w1, w2, w3, w4, w5, w6, w7, w8, w9, w10, w11, w12⟩
end Go.Proofs.YtikjdmbfjkbndaaGreat
