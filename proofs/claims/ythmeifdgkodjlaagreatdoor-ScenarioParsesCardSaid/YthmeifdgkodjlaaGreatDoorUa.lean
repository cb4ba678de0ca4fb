/- The state of the reference's parser in memory: as the program's reader, with another type. No condition. -/
import Derived.Test.YthmeifdgkodjlaaGreatDoorG7
import Derived.Test.YthmeifdgkodjlaaGreatDoorU9
namespace Go.Proofs.YthmeifdgkodjlaaGreatDoor
open Go.RowKit
namespace Rf
/-- what the reader's cell and the rows behind it hold -/
structure RdW (B b : Nat) (w : World) (x : SSt) (ns : List NdW) (ls : List LkW) (vn vl vf : Value) : Prop where
  box : w.heap[b]? = some (.cells #[vn, vl, vf, .int .i64 x.sc.un, .int .u64 x.sc.sd, .int .i64 x.at_] 92 (0, 0))
  hn : x.sc.nd = ns.map NdW.n
  hl : x.sc.lk = ls.map LkW.l
  nd : Own ndC 48 7 B w vn ns
  lk : Own lkC 54 9 B w vl ls
  ft : Own ftC 60 5 B w vf x.sc.ft
  sg : ∀ y ∈ ns, Own sgC 96 2 B w (.slice y.ps y.n.sg.length y.cs) y.n.sg
  sv : ∀ y ∈ ns, Own itC 3 1 B w (.slice y.pv y.n.sv.length y.cv) y.n.sv
  ch : ∀ y ∈ ls, Own chC 98 3 B w (.slice y.p y.l.ch.length y.c) y.l.ch
  apN : ∀ r y, ns = r ++ [y] → ∀ z ∈ r, (z.ps ≠ y.ps ∨ y.ps = none) ∧ (z.pv ≠ y.pv ∨ y.pv = none)
  apL : ∀ r y, ls = r ++ [y] → ∀ z ∈ r, z.p ≠ y.p ∨ y.p = none
/-- the reader's block is `b`; all else that has changed since the world `W0` is new -/
def RdX (W0 : Two) (b : Nat) (w : World) (x : SSt) : Prop := b < W0.heap.size ∧ Ob b W0 w ∧ ∃ ns ls vn vl vf, RdW W0.heap.size b w x ns ls vn vl vf
/-- what a method of the reader returns -/
def RdR (W0 : Two) (b : Nat) (r : Option SSt) (e : Ending) (w : World) : Prop := match r with
  | none => e = .returned (.bool false) ∧ Ob b W0 w
  | some y => e = .returned (.bool true) ∧ RdX W0 b w y
theorem RdW.kept {B b : Nat} {w w' : World} {x : SSt} {ns : List NdW} {ls : List LkW} {vn vl vf : Value} (h : RdW B b w x ns ls vn vl vf) (ho : Only [] w w') : RdW B b w' x ns ls vn vl vf :=
  ⟨ho.got h.box (by simp), h.hn, h.hl, h.nd.kept ho, h.lk.kept ho, h.ft.kept ho, fun y hy => (h.sg y hy).kept ho, fun y hy => (h.sv y hy).kept ho, fun y hy => (h.ch y hy).kept ho, h.apN, h.apL⟩
theorem RdX.kept {W0 : Two} {b : Nat} {w w' : World} {x : SSt} (h : RdX W0 b w x) (ho : Only [] w w') : RdX W0 b w' x := by
  obtain ⟨h0, h1, ns, ls, vn, vl, vf, h2⟩ := h
  exact ⟨h0, h1.nil_trans ho, ns, ls, vn, vl, vf, h2.kept ho⟩
/-- the reader's cell is written: its numbers change -/
theorem RdW.cell {B b : Nat} {w w' : World} {x x' : SSt} {ns : List NdW} {ls : List LkW} {vn vl vf : Value} (h : RdW B b w x ns ls vn vl vf) (ho : Only [b] w w')
    (hb : w'.heap[b]? = some (.cells #[vn, vl, vf, .int .i64 x'.sc.un, .int .u64 x'.sc.sd, .int .i64 x'.at_] 92 (0, 0))) (h1 : x'.sc.nd = x.sc.nd) (h2 : x'.sc.lk = x.sc.lk) (h3 : x'.sc.ft = x.sc.ft) : RdW B b w' x' ns ls vn vl vf :=
  ⟨hb, by rw [h1, h.hn], by rw [h2, h.hl], own_setB h.nd h.box (by decide) ho, own_setB h.lk h.box (by decide) ho, by rw [h3]; exact own_setB h.ft h.box (by decide) ho,
    fun y hy => own_setB (h.sg y hy) h.box (by decide) ho, fun y hy => own_setB (h.sv y hy) h.box (by decide) ho, fun y hy => own_setB (h.ch y hy) h.box (by decide) ho, h.apN, h.apL⟩
section
variable {B b : Nat} {w w1 w2 : World} {x x' : SSt} {ns : List NdW} {ls : List LkW} {vn vl vf v' : Value}
theorem RdW.addN {y : NdW} (h : RdW B b w x ns ls vn vl vf) (ho : Only vn.ownBlock.toList w w1) (hv : Own ndC 48 7 B w1 v' (ns ++ [y])) (hy : y.ps = none ∧ y.pv = none ∧ y.cs = 0 ∧ y.cv = 0 ∧ y.n.sg = [] ∧ y.n.sv = []) (ho2 : Only [b] w1 w2)
    (hb : w2.heap[b]? = some (.cells #[v', vl, vf, .int .i64 x'.sc.un, .int .u64 x'.sc.sd, .int .i64 x'.at_] 92 (0, 0))) (h1 : x'.sc.nd = x.sc.nd ++ [y.n]) (h2 : x'.sc.lk = x.sc.lk) (h3 : x'.sc.ft = x.sc.ft) : RdW B b w2 x' (ns ++ [y]) ls v' vl vf := by
  obtain ⟨p1, p2, p3, p4, p5, p6⟩ := hy
  have hbb : w1.heap[b]? = _ := ho.got h.box (fun hm => h.nd.ne_box h.box (by decide) (by simpa using hm))
  refine ⟨hb, by rw [h1, h.hn]; simp, by rw [h2, h.hl], own_setB hv hbb (by decide) ho2, own_setB (h.lk.keptS ho (h.lk.ne_of h.nd (by decide))) hbb (by decide) ho2, by rw [h3]; exact own_setB (h.ft.keptS ho (h.ft.ne_of h.nd (by decide))) hbb (by decide) ho2, fun z hz => ?_, fun z hz => ?_, fun z hz => own_setB ((h.ch z hz).keptS ho ((h.ch z hz).ne_of h.nd (by decide))) hbb (by decide) ho2, fun r z hr => ?_, h.apL⟩
  · rcases mem_snoc hz with hz | rfl
    · exact own_setB ((h.sg z hz).keptS ho ((h.sg z hz).ne_of h.nd (by decide))) hbb (by decide) ho2
    · rw [p1, p5]; exact own_empty rfl p3
  · rcases mem_snoc hz with hz | rfl
    · exact own_setB ((h.sv z hz).keptS ho ((h.sv z hz).ne_of h.nd (by decide))) hbb (by decide) ho2
    · rw [p2, p6]; exact own_empty rfl p4
  · obtain ⟨rfl, hz⟩ := List.append_inj' hr rfl
    cases hz
    exact fun q _ => ⟨.inr p1, .inr p2⟩
theorem RdW.addL {y : LkW} (h : RdW B b w x ns ls vn vl vf) (ho : Only vl.ownBlock.toList w w1) (hv : Own lkC 54 9 B w1 v' (ls ++ [y])) (hy : y.p = none ∧ y.c = 0 ∧ y.l.ch = []) (ho2 : Only [b] w1 w2)
    (hb : w2.heap[b]? = some (.cells #[vn, v', vf, .int .i64 x'.sc.un, .int .u64 x'.sc.sd, .int .i64 x'.at_] 92 (0, 0))) (h1 : x'.sc.nd = x.sc.nd) (h2 : x'.sc.lk = x.sc.lk ++ [y.l]) (h3 : x'.sc.ft = x.sc.ft) : RdW B b w2 x' ns (ls ++ [y]) vn v' vf := by
  obtain ⟨p1, p2, p3⟩ := hy
  have hbb : w1.heap[b]? = _ := ho.got h.box (fun hm => h.lk.ne_box h.box (by decide) (by simpa using hm))
  refine ⟨hb, by rw [h1, h.hn], by rw [h2, h.hl]; simp, own_setB (h.nd.keptS ho (h.nd.ne_of h.lk (by decide))) hbb (by decide) ho2, own_setB hv hbb (by decide) ho2, by rw [h3]; exact own_setB (h.ft.keptS ho (h.ft.ne_of h.lk (by decide))) hbb (by decide) ho2, fun z hz => own_setB ((h.sg z hz).keptS ho ((h.sg z hz).ne_of h.lk (by decide))) hbb (by decide) ho2, fun z hz => own_setB ((h.sv z hz).keptS ho ((h.sv z hz).ne_of h.lk (by decide))) hbb (by decide) ho2, fun z hz => ?_, h.apN, fun r z hr => ?_⟩
  · rcases mem_snoc hz with hz | rfl
    · exact own_setB ((h.ch z hz).keptS ho ((h.ch z hz).ne_of h.lk (by decide))) hbb (by decide) ho2
    · rw [p1, p3]; exact own_empty rfl p2
  · obtain ⟨rfl, hz⟩ := List.append_inj' hr rfl
    cases hz
    exact fun q _ => .inr p1
theorem RdW.addF {y : Ft} (h : RdW B b w x ns ls vn vl vf) (ho : Only vf.ownBlock.toList w w1) (hv : Own ftC 60 5 B w1 v' (x.sc.ft ++ [y])) (ho2 : Only [b] w1 w2)
    (hb : w2.heap[b]? = some (.cells #[vn, vl, v', .int .i64 x'.sc.un, .int .u64 x'.sc.sd, .int .i64 x'.at_] 92 (0, 0))) (h1 : x'.sc.nd = x.sc.nd) (h2 : x'.sc.lk = x.sc.lk) (h3 : x'.sc.ft = x.sc.ft ++ [y]) : RdW B b w2 x' ns ls vn vl v' := by
  have hbb : w1.heap[b]? = _ := ho.got h.box (fun hm => h.ft.ne_box h.box (by decide) (by simpa using hm))
  exact ⟨hb, by rw [h1, h.hn], by rw [h2, h.hl], own_setB (h.nd.keptS ho (h.nd.ne_of h.ft (by decide))) hbb (by decide) ho2, own_setB (h.lk.keptS ho (h.lk.ne_of h.ft (by decide))) hbb (by decide) ho2, by rw [h3]; exact own_setB hv hbb (by decide) ho2, fun z hz => own_setB ((h.sg z hz).keptS ho ((h.sg z hz).ne_of h.ft (by decide))) hbb (by decide) ho2, fun z hz => own_setB ((h.sv z hz).keptS ho ((h.sv z hz).ne_of h.ft (by decide))) hbb (by decide) ho2, fun z hz => own_setB ((h.ch z hz).keptS ho ((h.ch z hz).ne_of h.ft (by decide))) hbb (by decide) ho2, h.apN, h.apL⟩
/-- the last node changes -/
theorem RdW.setN {r : List NdW} {y y' : NdW} {S : List Nat} {j : Nat} {u : Value} (h : RdW B b w x (r ++ [y]) ls vn vl vf) (ho : Only S w w1) (hbS : b ∉ S)
    (k1 : ∀ k ∈ S, vn.ownBlock ≠ some k) (k2 : ∀ k ∈ S, vl.ownBlock ≠ some k) (k3 : ∀ k ∈ S, vf.ownBlock ≠ some k) (k4 : ∀ z ∈ ls, ∀ k ∈ S, (Value.slice z.p z.l.ch.length z.c).ownBlock ≠ some k)
    (k5 : ∀ z ∈ r, ∀ k ∈ S, (Value.slice z.ps z.n.sg.length z.cs).ownBlock ≠ some k) (k6 : ∀ z ∈ r, ∀ k ∈ S, (Value.slice z.pv z.n.sv.length z.cv).ownBlock ≠ some k)
    (q1 : Own sgC 96 2 B w1 (.slice y'.ps y'.n.sg.length y'.cs) y'.n.sg) (q2 : Own itC 3 1 B w1 (.slice y'.pv y'.n.sv.length y'.cv) y'.n.sv)
    (hap : ∀ z ∈ r, (z.ps ≠ y'.ps ∨ y'.ps = none) ∧ (z.pv ≠ y'.pv ∨ y'.pv = none)) (hj : j < 7) (hu : ndC y' = (ndC y).set j u)
    (h1 : x'.sc.nd = r.map NdW.n ++ [y'.n]) (h2 : x'.sc.lk = x.sc.lk) (h3 : x'.sc.ft = x.sc.ft) (h4 : x'.sc.un = x.sc.un) (h5 : x'.sc.sd = x.sc.sd) (h6 : x'.at_ = x.at_) :
    ∃ gn cap, vn = .slice (some ⟨gn, 0, none⟩) (r.length + 1) cap ∧ B ≤ gn ∧ w1.heap[gn]?.isSome = true ∧ RdW B b (w1.setCell ⟨gn, r.length * 7 + j, none⟩ u) x' (r ++ [y']) ls vn vl vf := by
  obtain ⟨gn, cap, hvn, hgB, hrow⟩ := own_at (h.nd.keptS ho k1)
  have hlt := hrow.lt
  have hput := hrow.put1 ndC_len row_last hj hu
  rw [set_last] at hput
  have hset : Only [gn] w1 (w1.setCell ⟨gn, r.length * 7 + j, none⟩ u) := (Only.refl [gn] w1).setCell (.inl (by simp)) _
  have hbox1 : w1.heap[b]? = _ := ho.got h.box hbS
  have hown : Own ndC 48 7 B w1 vn (r ++ [y]) := h.nd.keptS ho k1
  have hvb : vn.ownBlock = some gn := by rw [hvn]; rfl
  have hgb : gn ≠ b := fun e => hown.ne_box hbox1 (by decide) (by rw [hvb, e])
  have hS : ∀ {α : Type} {enc : α → List Value} {e : TypeId} {s : Nat} {v : Value} {l : List α}, Own enc e s B w1 v l → e ≠ 48 → Own enc e s B (w1.setCell ⟨gn, r.length * 7 + j, none⟩ u) v l := fun hq he =>
    hq.keptS hset (fun k hk => by rw [List.mem_singleton] at hk; rw [hk]; exact hq.ne_of hown he gn (by rw [hvb]; simp))
  refine ⟨gn, cap, hvn, hgB, by simp [hlt], ?_⟩
  refine ⟨?_, by rw [h1]; simp, by rw [h2, h.hl], .inr ⟨gn, cap, by rw [hvn]; simp, hgB, hput⟩, hS (h.lk.keptS ho k2) (by decide), by rw [h3]; exact hS (h.ft.keptS ho k3) (by decide), fun z hz => ?_, fun z hz => ?_, fun z hz => hS ((h.ch z hz).keptS ho (k4 z hz)) (by decide), fun r' z hr => ?_, h.apL⟩
  · rw [h4, h5, h6]; exact hset.got hbox1 (by simpa using fun e => hgb e.symm)
  · rcases mem_snoc hz with hz | rfl
    · exact hS ((h.sg z (by simp [hz])).keptS ho (k5 z hz)) (by decide)
    · exact hS q1 (by decide)
  · rcases mem_snoc hz with hz | rfl
    · exact hS ((h.sv z (by simp [hz])).keptS ho (k6 z hz)) (by decide)
    · exact hS q2 (by decide)
  · obtain ⟨rfl, hz⟩ := List.append_inj' hr rfl
    cases hz
    exact hap
/-- the last link changes -/
theorem RdW.setL {r : List LkW} {y y' : LkW} {S : List Nat} {j : Nat} {u : Value} (h : RdW B b w x ns (r ++ [y]) vn vl vf) (ho : Only S w w1) (hbS : b ∉ S)
    (k1 : ∀ k ∈ S, vn.ownBlock ≠ some k) (k2 : ∀ k ∈ S, vl.ownBlock ≠ some k) (k3 : ∀ k ∈ S, vf.ownBlock ≠ some k) (k4 : ∀ z ∈ r, ∀ k ∈ S, (Value.slice z.p z.l.ch.length z.c).ownBlock ≠ some k)
    (k5 : ∀ z ∈ ns, ∀ k ∈ S, (Value.slice z.ps z.n.sg.length z.cs).ownBlock ≠ some k) (k6 : ∀ z ∈ ns, ∀ k ∈ S, (Value.slice z.pv z.n.sv.length z.cv).ownBlock ≠ some k)
    (q1 : Own chC 98 3 B w1 (.slice y'.p y'.l.ch.length y'.c) y'.l.ch)
    (hap : ∀ z ∈ r, z.p ≠ y'.p ∨ y'.p = none) (hj : j < 9) (hu : lkC y' = (lkC y).set j u)
    (h1 : x'.sc.nd = x.sc.nd) (h2 : x'.sc.lk = r.map LkW.l ++ [y'.l]) (h3 : x'.sc.ft = x.sc.ft) (h4 : x'.sc.un = x.sc.un) (h5 : x'.sc.sd = x.sc.sd) (h6 : x'.at_ = x.at_) :
    ∃ gn cap, vl = .slice (some ⟨gn, 0, none⟩) (r.length + 1) cap ∧ B ≤ gn ∧ w1.heap[gn]?.isSome = true ∧ RdW B b (w1.setCell ⟨gn, r.length * 9 + j, none⟩ u) x' ns (r ++ [y']) vn vl vf := by
  obtain ⟨gn, cap, hvn, hgB, hrow⟩ := own_at (h.lk.keptS ho k2)
  have hlt := hrow.lt
  have hput := hrow.put1 lkC_len row_last hj hu
  rw [set_last] at hput
  have hset : Only [gn] w1 (w1.setCell ⟨gn, r.length * 9 + j, none⟩ u) := (Only.refl [gn] w1).setCell (.inl (by simp)) _
  have hbox1 : w1.heap[b]? = _ := ho.got h.box hbS
  have hown : Own lkC 54 9 B w1 vl (r ++ [y]) := h.lk.keptS ho k2
  have hvb : vl.ownBlock = some gn := by rw [hvn]; rfl
  have hgb : gn ≠ b := fun e => hown.ne_box hbox1 (by decide) (by rw [hvb, e])
  have hS : ∀ {α : Type} {enc : α → List Value} {e : TypeId} {s : Nat} {v : Value} {l : List α}, Own enc e s B w1 v l → e ≠ 54 → Own enc e s B (w1.setCell ⟨gn, r.length * 9 + j, none⟩ u) v l := fun hq he =>
    hq.keptS hset (fun k hk => by rw [List.mem_singleton] at hk; rw [hk]; exact hq.ne_of hown he gn (by rw [hvb]; simp))
  refine ⟨gn, cap, hvn, hgB, by simp [hlt], ?_⟩
  refine ⟨?_, by rw [h1, h.hn], by rw [h2]; simp, hS (h.nd.keptS ho k1) (by decide), .inr ⟨gn, cap, by rw [hvn]; simp, hgB, hput⟩, by rw [h3]; exact hS (h.ft.keptS ho k3) (by decide), fun z hz => hS ((h.sg z hz).keptS ho (k5 z hz)) (by decide), fun z hz => hS ((h.sv z hz).keptS ho (k6 z hz)) (by decide), fun z hz => ?_, h.apN, fun r' z hr => ?_⟩
  · rw [h4, h5, h6]; exact hset.got hbox1 (by simpa using fun e => hgb e.symm)
  · rcases mem_snoc hz with hz | rfl
    · exact hS ((h.ch z (by simp [hz])).keptS ho (k4 z hz)) (by decide)
    · exact hS q1 (by decide)
  · obtain ⟨rfl, hz⟩ := List.append_inj' hr rfl
    cases hz
    exact hap
end
/-- the scene that the reader holds -/
theorem RdW.scene {x : SSt} {B b : Nat} {w : World} {ns : List NdW} {ls : List LkW} {vn vl vf : Value} (h : RdW B b w x ns ls vn vl vf) (hz : SLe 100000 x) :
    ∃ s : ScW, s.sc = x.sc ∧ scV s = .agg #[vn, vl, vf, .int .i64 x.sc.un, .int .u64 x.sc.sd] ∧ ∀ B' b' w', RdW B' b' w' x ns ls vn vl vf → s.Ok w' := by
  obtain ⟨pn, cn, e1, _⟩ := h.nd.vrow ndC_len
  obtain ⟨pl, cl, e2, _⟩ := h.lk.vrow lkC_len
  obtain ⟨pf, cf, e3, _⟩ := h.ft.vrow ftC_len
  subst e1 e2 e3
  refine ⟨⟨ns, ls, x.sc.ft, x.sc.un, x.sc.sd, pn, cn, pl, cl, pf, cf⟩, ?_, rfl, fun B' b' w' k => ?_⟩
  · obtain ⟨⟨nd, lk, ft, un, sd⟩, a⟩ := x
    have e1 := h.hn; have e2 := h.hl
    simp only at e1 e2
    simp only [ScW.sc, e1, e2]
  · have hn := hz.nd; have hl := hz.lk
    rw [h.hn, List.length_map] at hn
    rw [h.hl, List.length_map] at hl
    refine ⟨own_vrow ndC_len k.nd, own_vrow lkC_len k.lk, own_vrow ftC_len k.ft, fun y hy => ?_, fun y hy => ?_, hn, hl, hz.ft⟩
    · have := hz.sg y.n (by rw [h.hn]; exact List.mem_map_of_mem hy)
      exact ⟨own_vrow sgC_len (k.sg y hy), own_vrow (fun _ => rfl) (k.sv y hy), this.1, this.2⟩
    · exact ⟨own_vrow (fun _ => rfl) (k.ch y hy), hz.ch y.l (by rw [h.hl]; exact List.mem_map_of_mem hy)⟩
end Rf
end Go.Proofs.YthmeifdgkodjlaaGreatDoor
