/- The reader's rows grow and change. No condition. -/
import Derived.Test.YthmeifdgkodjlaaDoorSp
namespace Go.Proofs.YthmeifdgkodjlaaDoor
open Go.RowKit

section
variable {α : Type} {enc : α → List Value}
/-- one element is appended to a slice that the caller owns -/
theorem wpList_append_B {P : Program} {w : World} {B : Nat} {ops : Array Oper} {rest : List Oper} {o : Oper} {a : Act} {Q : Exit → Act → World → Prop} (hgd : o.guard = none) (sO xO : Operand) (t : TypeId)
    (ho : o.op = .call { callee := .builtin .append, args := #[sO, xO], argTypes := #[t, t] })
    (e : TypeId) (z : Value) (size bytes : Nat) (ht : P.underlying t = some (.slice e)) (hi : (P.info? e).map (fun i => (i.zero, i.size, i.bytes)) = some (some z, size, bytes)) (hzs : z.cells.size = size) (hsz : 0 < size)
    (hs : ∀ x, (enc x).length = size) (h1c : ∀ x, ∀ u ∈ enc x, u.oneCell' = true) (l : List α) (v : Value) (hv : a.eval sO = v) (hown : Own enc e size B w v l)
    (ad : Nat) (x : α) (hx : a.eval xO = .slice (some ⟨ad, 0, none⟩) 1 1) (hnews : ∀ j u, (enc x)[j]? = some u → w.cell? ⟨ad, j, none⟩ = some u)
    (hlen : l.length + 1 ≤ maxLen) (hby : (l.length + 1) * bytes ≤ 140737488355328) (hB : B ≤ w.heap.size)
    (hK : ∀ g' cap' w', Own enc e size B w' (.slice (some ⟨g', 0, none⟩) (l.length + 1) cap') (l ++ [x]) → Only v.ownBlock.toList w w' → (v.ownBlock = some g' ∨ g' = w.heap.size) → wpList P ops Q rest (a.put o.dst (.slice (some ⟨g', 0, none⟩) (l.length + 1) cap')) w') : wpList P ops Q (o :: rest) a w := by
  cases hi' : P.info? e with
  | none => rw [hi'] at hi; simp at hi
  | some i =>
    rw [hi'] at hi
    simp only [Option.map_some, Option.some.injEq, Prod.mk.injEq] at hi
    obtain ⟨z1, z2, z3⟩ := hi
    have hadd : ∀ j, (⟨ad, 0, none⟩ : Addr).add j = ⟨ad, j, none⟩ := fun j => by rw [addr_add]; simp
    have hfl : (l ++ [x]).flatMap enc = l.flatMap enc ++ enc x := by simp
    have hblk : w.ownsRow 0 e size v l.length (l.flatMap enc) := by
      rcases hown with ⟨rfl, rfl⟩ | ⟨g, cap, rfl, _, h3⟩
      · exact ⟨by simp, .inl ⟨rfl, rfl⟩⟩
      · exact h3.owns hs (Nat.zero_le _)
    refine wpList_append_row hgd sO xO t ho e i z size bytes ht hi' z1 z2 z3 hzs hsz v l.length (l.flatMap enc) hv hblk ⟨ad, 0, none⟩ 1 1 (enc x) hx (by rw [hs]; omega) (fun j u hj => by rw [hadd]; exact hnews j u hj) (h1c x) hlen hby (by decide) ?_
    intro g' cap' w' hown' ho' hg'
    rw [← hfl] at hown'
    refine hK _ _ _ (.inr ⟨g', cap', by simp, ?_, RowAt.of_owns hown' (by simp)⟩) ho' hg'
    rcases hg' with h | rfl
    · exact (hown.block h).1
    · exact hB
end
theorem own_empty {α : Type} {enc : α → List Value} {e : TypeId} {s B : Nat} {w : World} {n c : Nat} (hn : n = 0) (hc : c = 0) : Own enc e s B w (.slice none n c) [] := by subst hn; subst hc; exact own_nil _ _
theorem mem_snoc {α : Type} {r : List α} {y z : α} (h : z ∈ r ++ [y]) : z ∈ r ∨ z = y := by simpa using h
section
variable {B b : Nat} {w w1 w2 : World} {x x' : SSt} {ns : List NdW} {ls : List LkW} {vn vl vf v' : Value}
theorem RdW.addN {y : NdW} (h : RdW B b w x ns ls vn vl vf) (ho : Only vn.ownBlock.toList w w1) (hv : Own ndC 44 7 B w1 v' (ns ++ [y])) (hy : y.ps = none ∧ y.pv = none ∧ y.cs = 0 ∧ y.cv = 0 ∧ y.n.sg = [] ∧ y.n.sv = []) (ho2 : Only [b] w1 w2)
    (hb : w2.heap[b]? = some (.cells #[v', vl, vf, .int .i64 x'.sc.un, .int .u64 x'.sc.sd, .int .i64 x'.at_] 81 (0, 0))) (h1 : x'.sc.nd = x.sc.nd ++ [y.n]) (h2 : x'.sc.lk = x.sc.lk) (h3 : x'.sc.ft = x.sc.ft) : RdW B b w2 x' (ns ++ [y]) ls v' vl vf := by
  obtain ⟨p1, p2, p3, p4, p5, p6⟩ := hy
  have hbb : w1.heap[b]? = _ := ho.got h.box (fun hm => h.nd.ne_box h.box (by decide) (by simpa using hm))
  refine ⟨hb, by rw [h1, h.hn]; simp, by rw [h2, h.hl], own_setB hv hbb (by decide) ho2, own_setB (h.lk.keptS ho (h.lk.ne_of h.nd (by decide))) hbb (by decide) ho2, by rw [h3]; exact own_setB (h.ft.keptS ho (h.ft.ne_of h.nd (by decide))) hbb (by decide) ho2, fun z hz => ?_, fun z hz => ?_, fun z hz => own_setB ((h.ch z hz).keptS ho ((h.ch z hz).ne_of h.nd (by decide))) hbb (by decide) ho2, fun r z hr => ?_, h.apL⟩
  · rcases mem_snoc hz with hz | rfl
    · exact own_setB ((h.sg z hz).keptS ho ((h.sg z hz).ne_of h.nd (by decide))) hbb (by decide) ho2
    · rw [p1, p5]; exact own_empty rfl p3
  · rcases mem_snoc hz with hz | rfl
    · exact own_setB ((h.sv z hz).keptS ho ((h.sv z hz).ne_of h.nd (by decide))) hbb (by decide) ho2
    · rw [p2, p6]; exact own_empty rfl p4
  · obtain ⟨rfl, hz⟩ := List.append_inj' hr rfl
    cases hz
    exact fun q _ => ⟨.inr p1, .inr p2⟩
theorem RdW.addL {y : LkW} (h : RdW B b w x ns ls vn vl vf) (ho : Only vl.ownBlock.toList w w1) (hv : Own lkC 55 9 B w1 v' (ls ++ [y])) (hy : y.p = none ∧ y.c = 0 ∧ y.l.ch = []) (ho2 : Only [b] w1 w2)
    (hb : w2.heap[b]? = some (.cells #[vn, v', vf, .int .i64 x'.sc.un, .int .u64 x'.sc.sd, .int .i64 x'.at_] 81 (0, 0))) (h1 : x'.sc.nd = x.sc.nd) (h2 : x'.sc.lk = x.sc.lk ++ [y.l]) (h3 : x'.sc.ft = x.sc.ft) : RdW B b w2 x' ns (ls ++ [y]) vn v' vf := by
  obtain ⟨p1, p2, p3⟩ := hy
  have hbb : w1.heap[b]? = _ := ho.got h.box (fun hm => h.lk.ne_box h.box (by decide) (by simpa using hm))
  refine ⟨hb, by rw [h1, h.hn], by rw [h2, h.hl]; simp, own_setB (h.nd.keptS ho (h.nd.ne_of h.lk (by decide))) hbb (by decide) ho2, own_setB hv hbb (by decide) ho2, by rw [h3]; exact own_setB (h.ft.keptS ho (h.ft.ne_of h.lk (by decide))) hbb (by decide) ho2, fun z hz => own_setB ((h.sg z hz).keptS ho ((h.sg z hz).ne_of h.lk (by decide))) hbb (by decide) ho2, fun z hz => own_setB ((h.sv z hz).keptS ho ((h.sv z hz).ne_of h.lk (by decide))) hbb (by decide) ho2, fun z hz => ?_, h.apN, fun r z hr => ?_⟩
  · rcases mem_snoc hz with hz | rfl
    · exact own_setB ((h.ch z hz).keptS ho ((h.ch z hz).ne_of h.lk (by decide))) hbb (by decide) ho2
    · rw [p1, p3]; exact own_empty rfl p2
  · obtain ⟨rfl, hz⟩ := List.append_inj' hr rfl
    cases hz
    exact fun q _ => .inr p1
theorem RdW.addF {y : Ft} (h : RdW B b w x ns ls vn vl vf) (ho : Only vf.ownBlock.toList w w1) (hv : Own ftC 73 5 B w1 v' (x.sc.ft ++ [y])) (ho2 : Only [b] w1 w2)
    (hb : w2.heap[b]? = some (.cells #[vn, vl, v', .int .i64 x'.sc.un, .int .u64 x'.sc.sd, .int .i64 x'.at_] 81 (0, 0))) (h1 : x'.sc.nd = x.sc.nd) (h2 : x'.sc.lk = x.sc.lk) (h3 : x'.sc.ft = x.sc.ft ++ [y]) : RdW B b w2 x' ns ls vn vl v' := by
  have hbb : w1.heap[b]? = _ := ho.got h.box (fun hm => h.ft.ne_box h.box (by decide) (by simpa using hm))
  exact ⟨hb, by rw [h1, h.hn], by rw [h2, h.hl], own_setB (h.nd.keptS ho (h.nd.ne_of h.ft (by decide))) hbb (by decide) ho2, own_setB (h.lk.keptS ho (h.lk.ne_of h.ft (by decide))) hbb (by decide) ho2, by rw [h3]; exact own_setB hv hbb (by decide) ho2, fun z hz => own_setB ((h.sg z hz).keptS ho ((h.sg z hz).ne_of h.ft (by decide))) hbb (by decide) ho2, fun z hz => own_setB ((h.sv z hz).keptS ho ((h.sv z hz).ne_of h.ft (by decide))) hbb (by decide) ho2, fun z hz => own_setB ((h.ch z hz).keptS ho ((h.ch z hz).ne_of h.ft (by decide))) hbb (by decide) ho2, h.apN, h.apL⟩
theorem own_at {α : Type} {enc : α → List Value} {e : TypeId} {s : Nat} {r : List α} {y : α} {v : Value} (h : Own enc e s B w v (r ++ [y])) : ∃ g cap, v = .slice (some ⟨g, 0, none⟩) (r.length + 1) cap ∧ B ≤ g ∧ RowAt enc e s w g cap (r ++ [y]) := by
  rcases h with ⟨_, h⟩ | ⟨g, cap, h1, h2, h3⟩
  · simp at h
  · exact ⟨g, cap, by rw [h1]; simp, h2, h3⟩
theorem row_last {α : Type} {r : List α} {y : α} : (r ++ [y])[r.length]? = some y := by simp
theorem set_last {α : Type} {r : List α} {y y' : α} : (r ++ [y]).set r.length y' = r ++ [y'] := by simp
/-- the last node changes -/
theorem RdW.setN {r : List NdW} {y y' : NdW} {S : List Nat} {j : Nat} {u : Value} (h : RdW B b w x (r ++ [y]) ls vn vl vf) (ho : Only S w w1) (hbS : b ∉ S)
    (k1 : ∀ k ∈ S, vn.ownBlock ≠ some k) (k2 : ∀ k ∈ S, vl.ownBlock ≠ some k) (k3 : ∀ k ∈ S, vf.ownBlock ≠ some k) (k4 : ∀ z ∈ ls, ∀ k ∈ S, (Value.slice z.p z.l.ch.length z.c).ownBlock ≠ some k)
    (k5 : ∀ z ∈ r, ∀ k ∈ S, (Value.slice z.ps z.n.sg.length z.cs).ownBlock ≠ some k) (k6 : ∀ z ∈ r, ∀ k ∈ S, (Value.slice z.pv z.n.sv.length z.cv).ownBlock ≠ some k)
    (q1 : Own sgC 92 2 B w1 (.slice y'.ps y'.n.sg.length y'.cs) y'.n.sg) (q2 : Own itC 3 1 B w1 (.slice y'.pv y'.n.sv.length y'.cv) y'.n.sv)
    (hap : ∀ z ∈ r, (z.ps ≠ y'.ps ∨ y'.ps = none) ∧ (z.pv ≠ y'.pv ∨ y'.pv = none)) (hj : j < 7) (hu : ndC y' = (ndC y).set j u)
    (h1 : x'.sc.nd = r.map NdW.n ++ [y'.n]) (h2 : x'.sc.lk = x.sc.lk) (h3 : x'.sc.ft = x.sc.ft) (h4 : x'.sc.un = x.sc.un) (h5 : x'.sc.sd = x.sc.sd) (h6 : x'.at_ = x.at_) :
    ∃ gn cap, vn = .slice (some ⟨gn, 0, none⟩) (r.length + 1) cap ∧ B ≤ gn ∧ w1.heap[gn]?.isSome = true ∧ RdW B b (w1.setCell ⟨gn, r.length * 7 + j, none⟩ u) x' (r ++ [y']) ls vn vl vf := by
  obtain ⟨gn, cap, hvn, hgB, hrow⟩ := own_at (h.nd.keptS ho k1)
  have hlt := hrow.lt
  have hput := hrow.put1 ndC_len row_last hj hu
  rw [set_last] at hput
  have hset : Only [gn] w1 (w1.setCell ⟨gn, r.length * 7 + j, none⟩ u) := (Only.refl [gn] w1).setCell (.inl (by simp)) _
  have hbox1 : w1.heap[b]? = _ := ho.got h.box hbS
  have hown : Own ndC 44 7 B w1 vn (r ++ [y]) := h.nd.keptS ho k1
  have hvb : vn.ownBlock = some gn := by rw [hvn]; rfl
  have hgb : gn ≠ b := fun e => hown.ne_box hbox1 (by decide) (by rw [hvb, e])
  have hS : ∀ {α : Type} {enc : α → List Value} {e : TypeId} {s : Nat} {v : Value} {l : List α}, Own enc e s B w1 v l → e ≠ 44 → Own enc e s B (w1.setCell ⟨gn, r.length * 7 + j, none⟩ u) v l := fun hq he =>
    hq.keptS hset (fun k hk => by rw [List.mem_singleton] at hk; rw [hk]; exact hq.ne_of hown he gn (by rw [hvb]; simp))
  refine ⟨gn, cap, hvn, hgB, by simp [hlt], ?_⟩
  refine ⟨?_, by rw [h1]; simp, by rw [h2, h.hl], .inr ⟨gn, cap, by rw [hvn]; simp, hgB, hput⟩, hS (h.lk.keptS ho k2) (by decide), by rw [h3]; exact hS (h.ft.keptS ho k3) (by decide), fun z hz => ?_, fun z hz => ?_, fun z hz => hS ((h.ch z hz).keptS ho (k4 z hz)) (by decide), fun r' z hr => ?_, h.apL⟩
  · rw [h4, h5, h6]; exact hset.got hbox1 (by simpa using fun e => hgb e.symm)
  · rcases mem_snoc hz with hz | rfl
    · exact hS ((h.sg z (by simp [hz])).keptS ho (k5 z hz)) (by decide)
    · exact hS q1 (by decide)
  · rcases mem_snoc hz with hz | rfl
    · exact hS ((h.sv z (by simp [hz])).keptS ho (k6 z hz)) (by decide)
    · exact hS q2 (by decide)
  · obtain ⟨rfl, hz⟩ := List.append_inj' hr rfl
    cases hz
    exact hap
/-- the last link changes -/
theorem RdW.setL {r : List LkW} {y y' : LkW} {S : List Nat} {j : Nat} {u : Value} (h : RdW B b w x ns (r ++ [y]) vn vl vf) (ho : Only S w w1) (hbS : b ∉ S)
    (k1 : ∀ k ∈ S, vn.ownBlock ≠ some k) (k2 : ∀ k ∈ S, vl.ownBlock ≠ some k) (k3 : ∀ k ∈ S, vf.ownBlock ≠ some k) (k4 : ∀ z ∈ r, ∀ k ∈ S, (Value.slice z.p z.l.ch.length z.c).ownBlock ≠ some k)
    (k5 : ∀ z ∈ ns, ∀ k ∈ S, (Value.slice z.ps z.n.sg.length z.cs).ownBlock ≠ some k) (k6 : ∀ z ∈ ns, ∀ k ∈ S, (Value.slice z.pv z.n.sv.length z.cv).ownBlock ≠ some k)
    (q1 : Own chC 95 3 B w1 (.slice y'.p y'.l.ch.length y'.c) y'.l.ch)
    (hap : ∀ z ∈ r, z.p ≠ y'.p ∨ y'.p = none) (hj : j < 9) (hu : lkC y' = (lkC y).set j u)
    (h1 : x'.sc.nd = x.sc.nd) (h2 : x'.sc.lk = r.map LkW.l ++ [y'.l]) (h3 : x'.sc.ft = x.sc.ft) (h4 : x'.sc.un = x.sc.un) (h5 : x'.sc.sd = x.sc.sd) (h6 : x'.at_ = x.at_) :
    ∃ gn cap, vl = .slice (some ⟨gn, 0, none⟩) (r.length + 1) cap ∧ B ≤ gn ∧ w1.heap[gn]?.isSome = true ∧ RdW B b (w1.setCell ⟨gn, r.length * 9 + j, none⟩ u) x' ns (r ++ [y']) vn vl vf := by
  obtain ⟨gn, cap, hvn, hgB, hrow⟩ := own_at (h.lk.keptS ho k2)
  have hlt := hrow.lt
  have hput := hrow.put1 lkC_len row_last hj hu
  rw [set_last] at hput
  have hset : Only [gn] w1 (w1.setCell ⟨gn, r.length * 9 + j, none⟩ u) := (Only.refl [gn] w1).setCell (.inl (by simp)) _
  have hbox1 : w1.heap[b]? = _ := ho.got h.box hbS
  have hown : Own lkC 55 9 B w1 vl (r ++ [y]) := h.lk.keptS ho k2
  have hvb : vl.ownBlock = some gn := by rw [hvn]; rfl
  have hgb : gn ≠ b := fun e => hown.ne_box hbox1 (by decide) (by rw [hvb, e])
  have hS : ∀ {α : Type} {enc : α → List Value} {e : TypeId} {s : Nat} {v : Value} {l : List α}, Own enc e s B w1 v l → e ≠ 55 → Own enc e s B (w1.setCell ⟨gn, r.length * 9 + j, none⟩ u) v l := fun hq he =>
    hq.keptS hset (fun k hk => by rw [List.mem_singleton] at hk; rw [hk]; exact hq.ne_of hown he gn (by rw [hvb]; simp))
  refine ⟨gn, cap, hvn, hgB, by simp [hlt], ?_⟩
  refine ⟨?_, by rw [h1, h.hn], by rw [h2]; simp, hS (h.nd.keptS ho k1) (by decide), .inr ⟨gn, cap, by rw [hvn]; simp, hgB, hput⟩, by rw [h3]; exact hS (h.ft.keptS ho k3) (by decide), fun z hz => hS ((h.sg z hz).keptS ho (k5 z hz)) (by decide), fun z hz => hS ((h.sv z hz).keptS ho (k6 z hz)) (by decide), fun z hz => ?_, h.apN, fun r' z hr => ?_⟩
  · rw [h4, h5, h6]; exact hset.got hbox1 (by simpa using fun e => hgb e.symm)
  · rcases mem_snoc hz with hz | rfl
    · exact hS ((h.ch z (by simp [hz])).keptS ho (k4 z hz)) (by decide)
    · exact hS q1 (by decide)
  · obtain ⟨rfl, hz⟩ := List.append_inj' hr rfl
    cases hz
    exact hap
end
end Go.Proofs.YthmeifdgkodjlaaDoor
