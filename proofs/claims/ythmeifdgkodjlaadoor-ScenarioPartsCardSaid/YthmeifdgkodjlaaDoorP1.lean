/- What holds before and behind each round of Parse of package scenario. No condition. -/
import Derived.Test.YthmeifdgkodjlaaDoorSz
import Derived.RangeFuncBox
import Derived.Maps.AppendAt
namespace Go.Proofs.YthmeifdgkodjlaaDoor
open Go.RowKit Go.Shelf

/-- blocks that are no cells have changed -/
theorem Own.keptN {α : Type} {enc : α → List Value} {e : TypeId} {s B : Nat} {w w' : World} {v : Value} {l : List α} {S : List Nat} (h : Own enc e s B w v l) (ho : Only S w w') (hS : ∀ k ∈ S, ∃ o, w.heap[k]? = some o ∧ o.isCells = false) : Own enc e s B w' v l :=
  h.keptS ho fun k hk hv => by
    obtain ⟨o, h1, h2⟩ := hS k hk
    obtain ⟨_, c, t, h3⟩ := h.blockC hv
    rw [h1] at h3; cases h3; cases h2
theorem got_keptN {w w' : World} {S : List Nat} {k : Nat} {c : Array Value} {t : TypeId} {z : Nat × Nat} (h : w.heap[k]? = some (.cells c t z)) (ho : Only S w w') (hS : ∀ k ∈ S, ∃ o, w.heap[k]? = some o ∧ o.isCells = false) : w'.heap[k]? = some (.cells c t z) :=
  ho.got h fun hm => by
    obtain ⟨o, h1, h2⟩ := hS k hm
    rw [h1] at h; cases h; cases h2
theorem RdW.keptN {B b : Nat} {w w' : World} {x : SSt} {ns : List NdW} {ls : List LkW} {vn vl vf : Value} {S : List Nat} (h : RdW B b w x ns ls vn vl vf) (ho : Only S w w') (hS : ∀ k ∈ S, ∃ o, w.heap[k]? = some o ∧ o.isCells = false) : RdW B b w' x ns ls vn vl vf :=
  ⟨got_keptN h.box ho hS, h.hn, h.hl, h.nd.keptN ho hS, h.lk.keptN ho hS, h.ft.keptN ho hS, fun y hy => (h.sg y hy).keptN ho hS, fun y hy => (h.sv y hy).keptN ho hS, fun y hy => (h.ch y hy).keptN ho hS, h.apN, h.apL⟩
/-- blocks have changed that lie below all rows -/
theorem RdW.keptLow {B b : Nat} {w w' : World} {x : SSt} {ns : List NdW} {ls : List LkW} {vn vl vf : Value} {S : List Nat} (h : RdW B b w x ns ls vn vl vf) (ho : Only S w w') (hb : b ∉ S) (hS : ∀ k ∈ S, k < B) : RdW B b w' x ns ls vn vl vf :=
  ⟨ho.got h.box hb, h.hn, h.hl, h.nd.kept_below ho hS, h.lk.kept_below ho hS, h.ft.kept_below ho hS, fun y hy => (h.sg y hy).kept_below ho hS, fun y hy => (h.sv y hy).kept_below ho hS, fun y hy => (h.ch y hy).kept_below ho hS, h.apN, h.apL⟩
/-- the number of the last line -/
def cnt (pre : List LnN) : Nat := (pre.getLast?.map Prod.fst).getD 0
theorem cnt_snoc (pre : List LnN) (x : LnN) : cnt (pre ++ [x]) = x.1 := by simp [cnt]
theorem cnt_lns (ps : List (List UInt8)) : cnt (lnsO 1 ps) = (lnsO 1 ps).length := by
  unfold cnt
  cases hq : (lnsO 1 ps).getLast? with
  | none => rw [List.getLast?_eq_none_iff] at hq; rw [hq]; rfl
  | some y =>
    have hg : (lnsO 1 ps)[(lnsO 1 ps).length - 1]? = some y := by rw [← List.getLast?_eq_getElem?]; exact hq
    have h1 := lnsO_num ps 1 _ y hg
    have h2 := (List.getElem?_eq_some_iff.1 hg).1
    simp only [Option.map_some, Option.getD_some]
    omega
def zSc : Array Value := #[.slice none 0 0, .slice none 0 0, .slice none 0 0, .int .i64 0, .int .u64 0]
def vals (pre : List LnK) : List LnN := pre.map Subtype.val
/-- before and behind each round -/
def PI (w : World) (n : Nat) (pre : List LnK) (W : World) : Prop :=
  ∃ x ns ls vn vl vf, rdI ss0 (vals pre) = .ok x ∧ RdW n (w.heap.size + 1 + 1 + 1) W x ns ls vn vl vf ∧ W.heap[w.heap.size]? = some (.cells zSc 27 (0, 0)) ∧ W.heap[w.heap.size + 1]? = some (.cells #[.int .i64 0] 3 (0, 0)) ∧
    W.heap[w.heap.size + 1 + 1]? = some (.cells #[.int .i64 0] 30 (0, 0)) ∧ W.heap[w.heap.size + 1 + 1 + 1 + 1]? = some (.cells #[.int .i64 (cnt (vals pre))] 3 (0, 0)) ∧ Only [] w W ∧ n ≤ W.heap.size
/-- a wrong line -/
def PX (w : World) (c : Code) (pre : List LnK) (W : World) : Prop :=
  ∃ m : Nat, c = .ret ∧ rdI ss0 (vals pre) = .error m ∧ W.heap[w.heap.size]? = some (.cells zSc 27 (0, 0)) ∧ W.heap[w.heap.size + 1]? = some (.cells #[.int .i64 m] 3 (0, 0)) ∧
    W.heap[w.heap.size + 1 + 1]? = some (.cells #[.int .i64 19] 30 (0, 0)) ∧ Only [] w W
theorem row_facts {n : Nat} {w W W' : World} {row : Option Nat} (hn : w.heap.size ≤ n) (hw : Only [] w W) (hg : W.grownBy W' row) (hr : ∀ r, row = some r → n ≤ r ∧ ∃ o : Obj, W.heap[r]? = some o ∧ o.isCells = false) :
    Only row.toList W W' ∧ (∀ k ∈ row.toList, ∃ o, W.heap[k]? = some o ∧ o.isCells = false) ∧ Only [] w W' := by
  have h1 : Only row.toList W W' := (Only.refl _ W).grown hg (fun k hk => .inl (by rw [hk]; simp))
  refine ⟨h1, fun k hk => (hr k (by simpa using hk)).2, hw.trans h1 (fun k hk => .inr ?_)⟩
  have := (hr k (by simpa using hk)).1
  omega
theorem pi_from {w : World} {n : Nat} (hn : w.heap.size ≤ n) : OwnFrom n (PI w n) := by
  rintro s W W' row ⟨x, ns, ls, vn, vl, vf, h1, h2, h3, h4, h5, h6, h7, h8⟩ hg hr
  obtain ⟨k1, k2, k3⟩ := row_facts hn h7 hg hr
  exact ⟨x, ns, ls, vn, vl, vf, h1, h2.keptN k1 k2, got_keptN h3 k1 k2, got_keptN h4 k1 k2, got_keptN h5 k1 k2, got_keptN h6 k1 k2, k3, Nat.le_trans h8 hg.size⟩
theorem px_from {w : World} {n : Nat} (hn : w.heap.size ≤ n) (c : Code) : OwnFrom n (PX w c) := by
  rintro s W W' row ⟨m, h1, h2, h3, h4, h5, h7⟩ hg hr
  obtain ⟨k1, k2, k3⟩ := row_facts hn h7 hg hr
  exact ⟨m, h1, h2, got_keptN h3 k1 k2, got_keptN h4 k1 k2, got_keptN h5 k1 k2, k3⟩
/-- the blocks of a world below n -/
def cutW (W : World) (n : Nat) : World := { W with heap := W.heap.extract 0 n }
theorem cutW_size {W : World} {n : Nat} (h : n ≤ W.heap.size) : (cutW W n).heap.size = n := by simp [cutW]; omega
theorem cutW_only {W : World} {n : Nat} (h : n ≤ W.heap.size) : Only [] (cutW W n) W :=
  ⟨rfl, rfl, rfl, by rw [cutW_size h]; exact h, fun k hk _ => by
    rw [cutW_size h] at hk
    simp only [cutW, Array.getElem?_extract]
    rw [if_pos (by omega), Nat.zero_add]⟩
/-- what the reader has kept -/
theorem Ob.back {b n : Nat} {W w' : World} (hn : n ≤ W.heap.size) (h : Ob b ⟨cutW W n, W⟩ w') : (∀ k c t, k < n → k ≠ b → W.heap[k]? = some (.cells c t (0, 0)) → w'.heap[k]? = some (.cells c t (0, 0))) ∧ KeepsOthers W w' := by
  refine ⟨fun k c t hk hb hc => ?_, h.keep⟩
  have h1 : (cutW W n).heap[k]? = some (.cells c t (0, 0)) := by
    rw [← (cutW_only hn).block k (by rw [cutW_size hn]; exact hk) (by simp)]; exact hc
  exact h.only.got h1 (by simpa using hb)
theorem Ob.only_back {b n : Nat} {w W w' : World} (hw : Only [] w W) (h1 : w.heap.size ≤ n) (h2 : n ≤ W.heap.size) (hb : w.heap.size ≤ b) (h : Ob b ⟨cutW W n, W⟩ w') : Only [] w w' := by
  have hc := cutW_size h2
  have ho : Only [b] (cutW W n) w' := h.only
  refine ⟨ho.os.trans hw.os, ho.tape.trans hw.tape, ho.output.trans hw.output, by have := ho.size; omega, fun k hk _ => ?_⟩
  have h3 : w'.heap[k]? = (cutW W n).heap[k]? := ho.block k (by omega) (by simp; omega)
  rw [h3, ← hw.block k hk (by simp)]
  exact ((cutW_only h2).block k (by omega) (by simp)).symm
theorem set_other {w : World} {k : Nat} {a : Addr} {v : Value} {o : Obj} (hne : k ≠ a.block) (h : w.heap[k]? = some o) : (w.setCell a v).heap[k]? = some o := (Below.heap_setCell w a v k hne).trans h
theorem own_vrow {α : Type} {enc : α → List Value} {e : TypeId} {s B n c : Nat} {w : World} {p : Option Addr} {l : List α} (hs : ∀ x, (enc x).length = s) (h : Own enc e s B w (.slice p n c) l) : VRow enc s w p l.length c l := by
  obtain ⟨p', c', h1, h2⟩ := h.vrow hs
  cases h1
  exact h2
/-- what Parse returns -/
def PrsR (r : Sc × Nat × Int) (e : Ending) (w : World) : Prop := ∃ s : ScW, s.sc = r.1 ∧ s.Ok w ∧ e = .returned (.tuple #[scV s, .int .i64 r.2.1, .int .i64 r.2.2])
/-- the scene that the reader holds -/
theorem RdW.scene {x : SSt} {B b : Nat} {w : World} {ns : List NdW} {ls : List LkW} {vn vl vf : Value} (h : RdW B b w x ns ls vn vl vf) (hz : SLe 100000 x) :
    ∃ s : ScW, s.sc = x.sc ∧ scV s = .agg #[vn, vl, vf, .int .i64 x.sc.un, .int .u64 x.sc.sd] ∧ ∀ B' b' w', RdW B' b' w' x ns ls vn vl vf → s.Ok w' := by
  obtain ⟨pn, cn, e1, _⟩ := h.nd.vrow ndC_len
  obtain ⟨pl, cl, e2, _⟩ := h.lk.vrow lkC_len
  obtain ⟨pf, cf, e3, _⟩ := h.ft.vrow ftC_len
  subst e1 e2 e3
  refine ⟨⟨ns, ls, x.sc.ft, x.sc.un, x.sc.sd, pn, cn, pl, cl, pf, cf⟩, ?_, rfl, fun B' b' w' k => ?_⟩
  · obtain ⟨⟨nd, lk, ft, un, sd⟩, a⟩ := x
    have e1 := h.hn; have e2 := h.hl
    simp only at e1 e2
    simp only [ScW.sc, e1, e2]
  · have hn := hz.nd; have hl := hz.lk
    rw [h.hn, List.length_map] at hn
    rw [h.hl, List.length_map] at hl
    refine ⟨own_vrow ndC_len k.nd, own_vrow lkC_len k.lk, own_vrow ftC_len k.ft, fun y hy => ?_, fun y hy => ?_, hn, hl, hz.ft⟩
    · have := hz.sg y.n (by rw [h.hn]; exact List.mem_map_of_mem hy)
      exact ⟨own_vrow sgC_len (k.sg y hy), own_vrow (fun _ => rfl) (k.sv y hy), this.1, this.2⟩
    · exact ⟨own_vrow (fun _ => rfl) (k.ch y hy), hz.ch y.l (by rw [h.hl]; exact List.mem_map_of_mem hy)⟩
theorem suf_yes (a : List UInt8) : Lib.hasSuffix (a ++ [10]) [10] = true ∧ Lib.trimSuffix (a ++ [10]) [10] = a := by
  have h : Lib.hasSuffix (a ++ [10]) [10] = true := by
    unfold Lib.hasSuffix
    rw [List.isSuffixOf_iff_suffix]
    exact ⟨a, rfl⟩
  refine ⟨h, ?_⟩
  unfold Lib.trimSuffix
  rw [if_pos h]
  simp
theorem suf_no {l : List UInt8} (h : l.getLast? ≠ some 10) : Lib.hasSuffix l [10] = false := by
  cases hq : Lib.hasSuffix l [10] with
  | false => rfl
  | true =>
    unfold Lib.hasSuffix at hq
    rw [List.isSuffixOf_iff_suffix] at hq
    obtain ⟨a, rfl⟩ := hq
    exact absurd (by simp) h
theorem last_split {l : List UInt8} (h : l.getLast? = some 10) : ∃ a, l = a ++ [10] := by
  rcases List.eq_nil_or_concat l with rfl | ⟨a, b, rfl⟩
  · cases h
  · refine ⟨a, ?_⟩
    simp at h
    simp [h]
end Go.Proofs.YthmeifdgkodjlaaDoor
