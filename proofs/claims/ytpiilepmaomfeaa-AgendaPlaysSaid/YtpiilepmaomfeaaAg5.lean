/- The heap of package agenda: push and remove. Conditions: as stated. -/
import Derived.Test.YtpiilepmaomfeaaAg4
namespace Go.Proofs.Ytpiilepmaomfeaa
open Go.RowKit

/-- the queue in memory, with the blocks that are its own -/
def QRep (w : World) (q : Nat) (F : List Nat) (a2 a3 a4 : Value) (l : List Ev) : Prop :=
  (F = [q] ∧ l = [] ∧ w.heap[q]? = some (.cells #[.slice none 0 0, .map none, a2, a3, a4] 53 (0, 0))) ∨
  (∃ g cap b, F = [q, g, b] ∧ HRep w q g cap b a2 a3 a4 l)

theorem MOk.nil : MOk (.map [] : DataW Unit) [] := ⟨Maps.isMap_empty, by simp, fun _ _ => rfl, by simp⟩

theorem MOk.snoc {D : DataW Unit} {l : List Ev} (h : MOk D l) (x : Ev) (hx : ∀ e ∈ l, e.i ≠ x.i) (hw : (Lit.int .i64 x.i).wf = true) : MOk (D.put (.int .i64 x.i) (.lit (.int .i64 l.length))) (l ++ [x]) := by
  refine ⟨h.isMap.put _ _, ?_, ?_, ?_⟩
  · intro i e hi
    by_cases hil : i < l.length
    · rw [List.getElem?_append_left hil] at hi
      have hne := hx e (List.mem_of_getElem? hi)
      rw [Maps.has_put_other (lit_ne hne), Maps.atKey_put_other (lit_ne hne)]
      exact h.at_ i e hi
    · rw [List.getElem?_append_right (by omega)] at hi
      have h0 : i - l.length = 0 := by
        rcases Nat.eq_zero_or_pos (i - l.length) with h | h
        · exact h
        · rw [List.getElem?_eq_none (by simp; omega)] at hi; cases hi
      rw [h0] at hi
      simp at hi
      subst hi
      have : i = l.length := by omega
      subst this
      exact ⟨Maps.has_put_same h.isMap (isKey _) _, Maps.atKey_put_same h.isMap (isKey _) _ _⟩
  · intro k hk
    rw [Maps.has_put_other (lit_ne (hk x (by simp)).symm)]
    exact h.none k (fun e he => hk e (by simp [he]))
  · intro e he
    rcases List.mem_append.1 he with h' | h'
    · exact h.wf e h'
    · simp at h'; subst h'; exact hw

theorem Try.info57 : (Try.prog.info? 57).map (fun i => (i.zero, i.size, i.bytes)) = some (some (.agg #[.int .i64 0, .int .i64 0, .int .i64 0]), 3, 24) := by kernel_rfl

/-- what push knows before it appends: the list is `v`, the map is in block `b`, the new event is in block `B` -/
structure PushPre (w w0 : World) (q : Nat) (F : List Nat) (a2 a3 a4 : Value) (l : List Ev) (x : Ev) (v : Value) (b B : Nat) (D : DataW Unit) : Prop where
  qc : w0.heap[q]? = some (.cells #[v, .map (some b), a2, a3, a4] 53 (0, 0))
  own : w0.ownsRow 0 57 3 v l.length (l.flatMap evc)
  vq : ∀ k, v.ownBlock = some k → k ≠ q ∧ k ≠ B ∧ k ∈ F
  map : EMap w0 b l.length D
  ok : MOk D l
  sz : Maps.size D = l.length
  box : w0.heap[B]? = some (.cells #[.int .i64 x.t, .int .i64 x.i, .int .i64 x.x] 57 (0, 0))
  bq : B ≠ q
  bB : B = w.heap.size
  bm : b ∈ F ∨ w.heap.size ≤ b
  qF : q ∈ F
  only : Only F w w0

set_option maxHeartbeats 1600000 in
theorem push_any {w : World} {q : Nat} {F : List Nat} {a2 a3 a4 : Value} {l : List Ev} (h : QRep w q F a2 a3 a4 l) (x : Ev) (hx : ∀ e ∈ l, e.i ≠ x.i) (hw : (Lit.int .i64 x.i).wf = true) (hn : l.length < 1000000) (hheap : Heap l.length (el l)) :
    Calls Try.prog 25 #[.pointer (some ⟨q, 0, none⟩), .agg #[.int .i64 x.t, .int .i64 x.i, .int .i64 x.x]] w fun e w' => e = .returned (.tuple #[]) ∧
      ∃ F' l', QRep w' q F' a2 a3 a4 l' ∧ Only F w w' ∧ (∀ k ∈ F', k ∈ F ∨ w.heap.size ≤ k) ∧ l'.length = l.length + 1 ∧ Heap l'.length (el l') ∧ ∀ e, e ∈ l' ↔ e = x ∨ e ∈ l := by
  have HX := Lib.hid hx; have HH := Lib.hid hheap; clear hx hheap
  have hmm := @run_makeMap Try.prog
  have hen := fun (r : Option Nat) (w : World) => run_eql_map_nil (P := Try.prog) w 49 _ _ r Try.underlying49
  obtain ⟨i0, hi0, hz0, hz1, hz2⟩ := info_parts Try.info57
  have HI0 := Lib.hid hi0; have HZ0 := Lib.hid hz0; have HZ1 := Lib.hid hz1; have HZ2 := Lib.hid hz2; clear hi0 hz0 hz1 hz2
  have pre : Hid (∃ v m, w.heap[q]? = some (.cells #[v, .map m, a2, a3, a4] 53 (0, 0)) ∧ (m = none → l = [] ∧ v = .slice none 0 0 ∧ F = [q]) ∧ ∀ b, m = some b → ∃ g cap, F = [q, g, b] ∧ HRep w q g cap b a2 a3 a4 l ∧ v = .slice (some ⟨g, 0, none⟩) l.length cap) := by
    rcases h with ⟨h1, h2, h3⟩ | ⟨g, cap, b, h1, h2⟩
    · exact ⟨_, _, h3, fun _ => ⟨h2, rfl, h1⟩, fun _ h => by cases h⟩
    · exact ⟨_, _, h2.qc, fun h => (by cases h), fun b' hb' => by cases hb'; exact ⟨g, cap, h1, h2, rfl⟩⟩
  obtain ⟨v, m, hq, hm0, hm1⟩ := pre.out
  clear pre h
  have hqs := got_lt hq
  have c1 := cell_got hq 1
  have f1 := frozen_got hq 1
  have HQ := Lib.hid hq; clear hq
  have HM0 := Lib.hid hm0; have HM1 := Lib.hid hm1; clear hm0 hm1
  cases m with
  | none =>
    obtain ⟨hl0, rfl, rfl⟩ := HM0.out rfl
    have HL0 := Lib.hid hl0
    clear HM0 HM1 hl0
    go_enter Try.func25, Try.ntmps25
    go_wp2
    refine wabs (G := Code.wp _ _ _ _) (R := fun w0 => PushPre w w0 q [q] a2 a3 a4 l x (.slice none 0 0) (w.heap.size + 1) w.heap.size (.map [])) ?_ ?_
    · have e1 := setCell_got (o := 1) (.map (some (w.heap.size + 1))) HQ.out
      have hs : (w.setCell ⟨q, 1, none⟩ (.map (some (w.heap.size + 1)))).heap.size = w.heap.size := size_setCell _ _ _
      refine ⟨?_, by rw [HL0.out]; exact World.ownsRow_nil _ _ _ _, fun k hk => (by cases hk), ?_, by rw [HL0.out]; exact MOk.nil, by rw [HL0.out]; rfl, ?_, by omega, rfl, .inr (by omega), by simp, ?_⟩
      · exact alloc_old (alloc_old e1)
      · have := World.ownsMap_made (H := Unit) ((w.setCell ⟨q, 1, none⟩ (.map (some (w.heap.size + 1)))).alloc (Obj.cells #[Value.int IntKind.i64 x.t, Value.int IntKind.i64 x.i, Value.int IntKind.i64 x.x] 57)) Try.prog 3 (plainElem Try.prog 3)
        simp only [World.size_alloc, hs] at this
        rw [HL0.out]
        exact this
      · have := alloc_new (w.setCell ⟨q, 1, none⟩ (.map (some (w.heap.size + 1)))) (Obj.cells #[Value.int IntKind.i64 x.t, Value.int IntKind.i64 x.i, Value.int IntKind.i64 x.x] 57)
        rw [hs] at this
        exact alloc_old this
      · exact (((Only.refl [q] w).setCell (by simp) _).alloc _).alloc _
    · intro w0 hp
      have HPP := Lib.hid hp; clear hp c1 f1
      have d0 := cell_got HPP.out.qc 0
      have b0 := cell_got HPP.out.box 0
      have b1 := cell_got HPP.out.box 1
      have b2 := cell_got HPP.out.box 2
      have hq0 := got_lt HPP.out.qc
      have hB0 := got_lt HPP.out.box
      have hqn : q ∉ ([] : List Nat) := by simp
      have hBn : w.heap.size ∉ ([] : List Nat) := by simp
      refine wp_region_calm2 [0,1,2,3,4,5] [8,9,10] (OnlyC ([] : List Nat) w0) (by kernel_rfl) (by kernel_rfl) ?_
      simp only [pick, List.map_cons, List.map_nil, List.getD_cons_succ, List.getD_cons_zero]
      iterate 6 (refine wpCalm_step (fun K hK => ?_); go_simp; refine hK _ ?_; clear hK K)
      refine wpCalm_nil ?_
      clear d0 b0 b1 b2
      refine Rest.by (X := Nat × Nat) (fun y a => (((((a.put (some 20) (.slice (some ⟨w0.heap.size, 0, none⟩) 1 1)).put (some 21) (.slice (some ⟨y.1, 0, none⟩) ((l).length + 1) y.2)).put (some 22) (.pointer (some ⟨q, 0, none⟩))).put (some 23) (.pointer (some ⟨q, 0, none⟩))))) (fun y w' => w'.heap[q]? = some (.cells #[.slice (some ⟨y.1, 0, none⟩) ((l).length + 1) y.2, .map (some (w.heap.size + 1)), a2, a3, a4] 53 (0, 0)) ∧ w'.ownsRow 0 57 3 (.slice (some ⟨y.1, 0, none⟩) ((l).length + 1) y.2) ((l).length + 1) ((l).flatMap evc ++ evc x) ∧ Only (q :: ([] : List Nat)) w0 w' ∧ (y.1 ∈ ([] : List Nat) ∨ w0.heap.size ≤ y.1)) ?_ ?_
      · rintro ⟨g', cap'⟩ w1 ⟨h1, h2, h3, h4⟩
        simp only at h1 h2 h4
        simp only [Act.put, List.setIfInBounds_toArray, List.set_cons_succ, List.set_cons_zero]
        have hgq : g' ≠ q := by
          rcases h4 with h | h
          · rintro rfl; exact hqn h
          · omega
        have hbg : w.heap.size + 1 ≠ q ∧ w.heap.size + 1 ∉ ([] : List Nat) := by
          obtain ⟨es, clock, hb, _⟩ := HPP.out.map
          refine ⟨fun e => ?_, ?_⟩
          · rw [e, HPP.out.qc] at hb; cases hb
          · simp
        have hbs := World.ownsMap.lt HPP.out.map
        have hmap1 : EMap w1 (w.heap.size + 1) l.length (.map [] : DataW Unit) := EMap.kept HPP.out.map h3 (by intro h; rcases List.mem_cons.1 h with h | h; exact hbg.1 h; exact hbg.2 h)
        have hbox1 := h3.got HPP.out.box (by intro h; rcases List.mem_cons.1 h with h | h; exact HPP.out.bq h; exact hBn h)
        have hrow1 : ERow w1 g' cap' (l ++ [x]) := RowAt.of_owns (by rw [List.flatMap_append]; simpa using h2) (by simp)
        have hbg' : w.heap.size + 1 ≠ g' := by
          obtain ⟨es, clock, hb, _⟩ := hmap1
          obtain ⟨cur, hg, _⟩ := hrow1
          intro e; rw [e, hg] at hb; cases hb
        have k0 := cell_got h1 0
        have x0 := cell_got hbox1 0
        have x1 := cell_got hbox1 1
        have x2 := cell_got hbox1 2
        have HH1 := Lib.hid h1; have HH4 := Lib.hid h4; have HMP := Lib.hid hmap1; have HRW := Lib.hid hrow1; clear h1 h2 h4 hmap1 hbox1 hrow1
        go_wp2_with fail
        clear k0 x0 x1 x2
        refine (put_any q g' cap' (l.length + 1) (w.heap.size + 1) l.length l.length x.t x.i x.x _ (l ++ [x]) (.map [] : DataW Unit) w1 HH1.out rfl rfl (Ne.symm hgq) HRW.out hbg' HMP.out (by simp [maxLen]; omega) hw (by omega) (by simp) (by omega)).mono ?_
        rintro e w2 ⟨rfl, hrow2, hmap2, ho2⟩
        have HR2 := Lib.hid hrow2; have HM2 := Lib.hid hmap2; clear hrow2 hmap2
        have hset : (l ++ [x]).set l.length ⟨x.t, x.i, x.x⟩ = l ++ [x] := by simp
        have hrep : HRep w2 q g' cap' (w.heap.size + 1) a2 a3 a4 (l ++ [x]) := by
          have hk := HPP.out.ok.snoc x HX.out hw
          have hz : Maps.size (DataW.put (.map [] : DataW Unit) (.int .i64 x.i) (.lit (.int .i64 l.length))) = l.length + 1 := by
            rw [Maps.size_put (EMap.key _ _ _ _ HMP.out), HPP.out.ok.none x.i HX.out, HPP.out.sz]; rfl
          refine ⟨?_, ?_, ⟨_, ?_, hk, ?_⟩, Ne.symm hgq, by simp; omega⟩
          · have := ho2.got HH1.out (by simp only [List.mem_cons, List.not_mem_nil, or_false, not_or]; exact ⟨Ne.symm hgq, Ne.symm hbg.1⟩)
            simpa using this
          · rw [← hset]; exact HR2.out
          · rw [List.length_append]; exact HM2.out
          · rw [hz]; simp
        have HRP := Lib.hid hrep; clear hrep
        have hun : UpInv (l ++ [x]).length (el (l ++ [x])) l.length := by
          rw [List.length_append]
          exact heap_push HH.out (fun j hj => by unfold el; simp only [List.getD_eq_getElem?_getD, List.getElem?_append_left hj])
        have HUN := Lib.hid hun; clear hun
        go_wp2_with fail
        refine (up_any HRP.out (by simp) HUN.out).mono ?_
        rintro e w3 ⟨rfl, l', hrep3, ho3, hlen3, hheap3, hmem3⟩
        have HR3 := Lib.hid hrep3; have HL3 := Lib.hid hlen3; have HP3 := Lib.hid hheap3; have HM3 := Lib.hid hmem3; clear hrep3 hlen3 hheap3 hmem3
        go_wp2
        go_end0
        refine ⟨rfl, [q, g', w.heap.size + 1], l', .inr ⟨g', cap', _, rfl, HR3.out⟩, ?_, ?_, by rw [HL3.out]; simp, HP3.out, fun e => by rw [HM3.out e]; simp [or_comm]⟩
        · have hF : ∀ k ∈ q :: ([] : List Nat), k ∈ [q] ∨ w.heap.size ≤ k := by simp
          have o1 : Only [q] w w1 := HPP.out.only.trans h3 hF
          have hs := HPP.out.only.size
          have hgF : g' ∈ [q] ∨ w.heap.size ≤ g' := by
            rcases HH4.out with h | h
            · exact hF g' (List.mem_cons_of_mem _ h)
            · exact .inr (by omega)
          have hbF := HPP.out.bm
          refine (o1.trans ho2 ?_).trans ho3 ?_
          all_goals
            intro k hk
            simp only [List.mem_cons, List.not_mem_nil, or_false] at hk
            rcases hk with rfl | rfl
            · exact hgF
            · exact hbF
        · have hs := HPP.out.only.size
          intro k hk
          simp only [List.mem_cons, List.not_mem_nil, or_false] at hk
          rcases hk with rfl | rfl | rfl
          · exact .inl (by simp)
          · rcases HH4.out with h | h
            · left; simp at h
            · exact .inr (by omega)
          · exact HPP.out.bm
      · have hC0 : Only ([] : List Nat) w0 w0 := Only.refl _ _
        refine wpAnyC_next [6] (by kernel_rfl) (by simp) (.inr (onlyC hC0.drew)) ?_
        simp only [List.mem_cons, List.not_mem_nil, or_false, forall_eq]
        refine wpOp_one rfl ?_
        go_wp2
        simp only [nrm]
        refine allocd_abs (G := wpAnyC _ _ _ _ _ _ _ _ _) ?_
        intro w1 hn1 ho1 hs1
        refine wpAnyC_next [7] (by kernel_rfl) (by simp) (.inr (onlyC (ho1.weak (by simp)))) ?_
        simp only [List.mem_cons, List.not_mem_nil, or_false, forall_eq]
        refine wpOp_one rfl ?_
        have hown1 : w1.ownsRow 0 57 3 (.slice none 0 0) (l).length ((l).flatMap evc) := HPP.out.own.kept (row := none) ⟨ho1.os, ho1.tape, ho1.output, ho1.size, fun k hk _ => ho1.block k hk (by simp)⟩ (by left; rfl)
        refine wpList_append_row rfl (.tmp 18) (.tmp 20) 48 rfl 57 i0 (.agg #[.int .i64 0, .int .i64 0, .int .i64 0]) 3 24 Try.underlying48 HI0.out HZ0.out HZ1.out HZ2.out rfl (by decide) _ _ _ rfl hown1 ⟨w0.heap.size, 0, none⟩ 1 1 (evc x) rfl rfl ?_ (by simp [evc, Value.oneCell']) (by simp [maxLen]; omega) (by omega) (by decide) ?_
        · intro j u hj
          have hadd : (⟨w0.heap.size, 0, none⟩ : Addr).add j = ⟨w0.heap.size, j, none⟩ := by unfold Addr.add; split <;> simp_all
          rw [hadd, cell_got hn1]
          simpa [evc] using hj
        intro g' cap' w2 hown2 ho2 hblk
        have ho2 : Only ([] : List Nat) w1 w2 := ho2
        have hqc2 := ho2.got (ho1.got HPP.out.qc (by simp)) hqn
        have d0 := cell_got hqc2 0
        have f0 := frozen_got hqc2 0
        have HO2 := Lib.hid hown2; have HB2 := Lib.hid hblk; have HQC := Lib.hid hqc2; clear hown2 hblk hqc2
        go_wp2
        simp only [nrm]
        refine wpAnyC_next [8] (by kernel_rfl) (by simp) (.inr (onlyC (ho1.nil_left ho2))) ?_
        simp only [List.mem_cons, List.not_mem_nil, or_false, forall_eq]
        refine wpOp_one rfl ?_
        go_wp2
        simp only [nrm]
        refine wpAnyC_next [9] (by kernel_rfl) (by simp) (.inr (onlyC (ho1.nil_left ho2))) ?_
        simp only [List.mem_cons, List.not_mem_nil, or_false, forall_eq]
        refine wpOp_one rfl ?_
        go_wp2
        simp only [nrm]
        refine wpAnyC_next [10] (by kernel_rfl) (by simp) (.inr (onlyC (ho1.nil_left ho2))) ?_
        simp only [List.mem_cons, List.not_mem_nil, or_false, forall_eq]
        refine wpOp_one rfl ?_
        go_wp2
        simp only [nrm]
        have hvb : g' ∈ ([] : List Nat) ∨ w0.heap.size ≤ g' := by
          rcases HB2.out with h | h
          · cases h
          · right; rw [h]; exact ho1.size
        have hvq : g' ≠ q := by
          rcases hvb with h | h
          · rintro rfl; exact hqn h
          · omega
        refine wpAnyC_done (by kernel_rfl) (.inl (late_of (by kernel_rfl))) ⟨(g', cap'), rfl, ?_, ?_, ?_, by simpa using hvb⟩
        · exact setCell_got _ HQC.out
        · exact HO2.out.kept (row := some q) ⟨rfl, rfl, rfl, by simp [World.setCell], fun k _ hk => Below.heap_setCell _ _ _ _ (fun e => hk (by rw [e]))⟩ (.inr (by simpa [Value.ownBlock] using hvq))
        · exact (ho1.nil_left (ho2.weak (S' := q :: ([] : List Nat)) (by simp))).setCell (by simp) _
  | some b =>
    obtain ⟨g, cap, rfl, hr, rfl⟩ := HM1.out b rfl
    clear HM0 HM1
    have HR := Lib.hid hr; clear hr
    go_enter Try.func25, Try.ntmps25
    go_wp2
    obtain ⟨D, hD, hok, hsz⟩ := HR.out.map
    refine wabs (G := Code.wp _ _ _ _) (R := fun w0 => PushPre w w0 q [q, g, b] a2 a3 a4 l x (.slice (some ⟨g, 0, none⟩) l.length cap) b w.heap.size D) ?_ ?_
    · have ho : Only [] w (w.alloc (Obj.cells #[Value.int IntKind.i64 x.t, Value.int IntKind.i64 x.i, Value.int IntKind.i64 x.x] 57)) := (Only.refl [] w).alloc _
      have hgs := HR.out.row.lt
      refine ⟨alloc_old HQ.out, (HR.out.row.kept ho (by simp)).owns evc_len (Nat.zero_le _), fun k hk => ?_, EMap.kept hD ho (by simp), hok, hsz, alloc_new _ _, by omega, rfl, .inl (by simp), by simp, ho.weak (by simp)⟩
      cases hk
      exact ⟨HR.out.qg.symm, by simp; omega, by simp⟩
    · intro w0 hp
      have HPP := Lib.hid hp; clear hp c1 f1
      have d0 := cell_got HPP.out.qc 0
      have b0 := cell_got HPP.out.box 0
      have b1 := cell_got HPP.out.box 1
      have b2 := cell_got HPP.out.box 2
      have hq0 := got_lt HPP.out.qc
      have hB0 := got_lt HPP.out.box
      have hqn : q ∉ [g] := by simpa using HR.out.qg
      have hBn : w.heap.size ∉ [g] := by have := HR.out.row.lt; simp; omega
      refine wp_region_calm2 [0,1,2,3,4,5] [8,9,10] (OnlyC [g] w0) (by kernel_rfl) (by kernel_rfl) ?_
      simp only [pick, List.map_cons, List.map_nil, List.getD_cons_succ, List.getD_cons_zero]
      iterate 6 (refine wpCalm_step (fun K hK => ?_); go_simp; refine hK _ ?_; clear hK K)
      refine wpCalm_nil ?_
      clear d0 b0 b1 b2
      refine Rest.by (X := Nat × Nat) (fun y a => (((((a.put (some 20) (.slice (some ⟨w0.heap.size, 0, none⟩) 1 1)).put (some 21) (.slice (some ⟨y.1, 0, none⟩) ((l).length + 1) y.2)).put (some 22) (.pointer (some ⟨q, 0, none⟩))).put (some 23) (.pointer (some ⟨q, 0, none⟩))))) (fun y w' => w'.heap[q]? = some (.cells #[.slice (some ⟨y.1, 0, none⟩) ((l).length + 1) y.2, .map (some (b)), a2, a3, a4] 53 (0, 0)) ∧ w'.ownsRow 0 57 3 (.slice (some ⟨y.1, 0, none⟩) ((l).length + 1) y.2) ((l).length + 1) ((l).flatMap evc ++ evc x) ∧ Only (q :: [g]) w0 w' ∧ (y.1 ∈ [g] ∨ w0.heap.size ≤ y.1)) ?_ ?_
      · rintro ⟨g', cap'⟩ w1 ⟨h1, h2, h3, h4⟩
        simp only at h1 h2 h4
        simp only [Act.put, List.setIfInBounds_toArray, List.set_cons_succ, List.set_cons_zero]
        have hgq : g' ≠ q := by
          rcases h4 with h | h
          · rintro rfl; exact hqn h
          · omega
        have hbg : b ≠ q ∧ b ∉ [g] := by
          obtain ⟨es, clock, hb, _⟩ := HPP.out.map
          refine ⟨fun e => ?_, ?_⟩
          · rw [e, HPP.out.qc] at hb; cases hb
          · intro e; simp at e; rw [e] at hb; obtain ⟨cur, hg, _⟩ := HR.out.row; have hg1 := RowAt.of_owns HPP.out.own rfl; obtain ⟨cur1, hg2, _⟩ := hg1; rw [hb] at hg2; cases hg2
        have hbs := World.ownsMap.lt HPP.out.map
        have hmap1 : EMap w1 (b) l.length D := EMap.kept HPP.out.map h3 (by intro h; rcases List.mem_cons.1 h with h | h; exact hbg.1 h; exact hbg.2 h)
        have hbox1 := h3.got HPP.out.box (by intro h; rcases List.mem_cons.1 h with h | h; exact HPP.out.bq h; exact hBn h)
        have hrow1 : ERow w1 g' cap' (l ++ [x]) := RowAt.of_owns (by rw [List.flatMap_append]; simpa using h2) (by simp)
        have hbg' : b ≠ g' := by
          obtain ⟨es, clock, hb, _⟩ := hmap1
          obtain ⟨cur, hg, _⟩ := hrow1
          intro e; rw [e, hg] at hb; cases hb
        have k0 := cell_got h1 0
        have x0 := cell_got hbox1 0
        have x1 := cell_got hbox1 1
        have x2 := cell_got hbox1 2
        have HH1 := Lib.hid h1; have HH4 := Lib.hid h4; have HMP := Lib.hid hmap1; have HRW := Lib.hid hrow1; clear h1 h2 h4 hmap1 hbox1 hrow1
        go_wp2_with fail
        clear k0 x0 x1 x2
        refine (put_any q g' cap' (l.length + 1) (b) l.length l.length x.t x.i x.x _ (l ++ [x]) D w1 HH1.out rfl rfl (Ne.symm hgq) HRW.out hbg' HMP.out (by simp [maxLen]; omega) hw (by omega) (by simp) (by omega)).mono ?_
        rintro e w2 ⟨rfl, hrow2, hmap2, ho2⟩
        have HR2 := Lib.hid hrow2; have HM2 := Lib.hid hmap2; clear hrow2 hmap2
        have hset : (l ++ [x]).set l.length ⟨x.t, x.i, x.x⟩ = l ++ [x] := by simp
        have hrep : HRep w2 q g' cap' (b) a2 a3 a4 (l ++ [x]) := by
          have hk := HPP.out.ok.snoc x HX.out hw
          have hz : Maps.size (DataW.put D (.int .i64 x.i) (.lit (.int .i64 l.length))) = l.length + 1 := by
            rw [Maps.size_put (EMap.key _ _ _ _ HMP.out), HPP.out.ok.none x.i HX.out, HPP.out.sz]; rfl
          refine ⟨?_, ?_, ⟨_, ?_, hk, ?_⟩, Ne.symm hgq, by simp; omega⟩
          · have := ho2.got HH1.out (by simp only [List.mem_cons, List.not_mem_nil, or_false, not_or]; exact ⟨Ne.symm hgq, Ne.symm hbg.1⟩)
            simpa using this
          · rw [← hset]; exact HR2.out
          · rw [List.length_append]; exact HM2.out
          · rw [hz]; simp
        have HRP := Lib.hid hrep; clear hrep
        have hun : UpInv (l ++ [x]).length (el (l ++ [x])) l.length := by
          rw [List.length_append]
          exact heap_push HH.out (fun j hj => by unfold el; simp only [List.getD_eq_getElem?_getD, List.getElem?_append_left hj])
        have HUN := Lib.hid hun; clear hun
        go_wp2_with fail
        refine (up_any HRP.out (by simp) HUN.out).mono ?_
        rintro e w3 ⟨rfl, l', hrep3, ho3, hlen3, hheap3, hmem3⟩
        have HR3 := Lib.hid hrep3; have HL3 := Lib.hid hlen3; have HP3 := Lib.hid hheap3; have HM3 := Lib.hid hmem3; clear hrep3 hlen3 hheap3 hmem3
        go_wp2
        go_end0
        refine ⟨rfl, [q, g', b], l', .inr ⟨g', cap', _, rfl, HR3.out⟩, ?_, ?_, by rw [HL3.out]; simp, HP3.out, fun e => by rw [HM3.out e]; simp [or_comm]⟩
        · have hF : ∀ k ∈ q :: [g], k ∈ [q, g, b] ∨ w.heap.size ≤ k := by simp
          have o1 : Only [q, g, b] w w1 := HPP.out.only.trans h3 hF
          have hs := HPP.out.only.size
          have hgF : g' ∈ [q, g, b] ∨ w.heap.size ≤ g' := by
            rcases HH4.out with h | h
            · exact hF g' (List.mem_cons_of_mem _ h)
            · exact .inr (by omega)
          have hbF := HPP.out.bm
          refine (o1.trans ho2 ?_).trans ho3 ?_
          all_goals
            intro k hk
            simp only [List.mem_cons, List.not_mem_nil, or_false] at hk
            rcases hk with rfl | rfl
            · exact hgF
            · exact hbF
        · have hs := HPP.out.only.size
          intro k hk
          simp only [List.mem_cons, List.not_mem_nil, or_false] at hk
          rcases hk with rfl | rfl | rfl
          · exact .inl (by simp)
          · rcases HH4.out with h | h
            · left; simp at h; simp [h]
            · exact .inr (by omega)
          · exact HPP.out.bm
      · have hC0 : Only [g] w0 w0 := Only.refl _ _
        refine wpAnyC_next [6] (by kernel_rfl) (by simp) (.inr (onlyC hC0.drew)) ?_
        simp only [List.mem_cons, List.not_mem_nil, or_false, forall_eq]
        refine wpOp_one rfl ?_
        go_wp2
        simp only [nrm]
        refine allocd_abs (G := wpAnyC _ _ _ _ _ _ _ _ _) ?_
        intro w1 hn1 ho1 hs1
        refine wpAnyC_next [7] (by kernel_rfl) (by simp) (.inr (onlyC (ho1.weak (by simp)))) ?_
        simp only [List.mem_cons, List.not_mem_nil, or_false, forall_eq]
        refine wpOp_one rfl ?_
        have hown1 : w1.ownsRow 0 57 3 (.slice (some ⟨g, 0, none⟩) l.length cap) (l).length ((l).flatMap evc) := HPP.out.own.kept (row := none) ⟨ho1.os, ho1.tape, ho1.output, ho1.size, fun k hk _ => ho1.block k hk (by simp)⟩ (by right; simp [Value.ownBlock])
        refine wpList_append_row rfl (.tmp 18) (.tmp 20) 48 rfl 57 i0 (.agg #[.int .i64 0, .int .i64 0, .int .i64 0]) 3 24 Try.underlying48 HI0.out HZ0.out HZ1.out HZ2.out rfl (by decide) _ _ _ rfl hown1 ⟨w0.heap.size, 0, none⟩ 1 1 (evc x) rfl rfl ?_ (by simp [evc, Value.oneCell']) (by simp [maxLen]; omega) (by omega) (by decide) ?_
        · intro j u hj
          have hadd : (⟨w0.heap.size, 0, none⟩ : Addr).add j = ⟨w0.heap.size, j, none⟩ := by unfold Addr.add; split <;> simp_all
          rw [hadd, cell_got hn1]
          simpa [evc] using hj
        intro g' cap' w2 hown2 ho2 hblk
        have ho2 : Only [g] w1 w2 := ho2
        have hqc2 := ho2.got (ho1.got HPP.out.qc (by simp)) hqn
        have d0 := cell_got hqc2 0
        have f0 := frozen_got hqc2 0
        have HO2 := Lib.hid hown2; have HB2 := Lib.hid hblk; have HQC := Lib.hid hqc2; clear hown2 hblk hqc2
        go_wp2
        simp only [nrm]
        refine wpAnyC_next [8] (by kernel_rfl) (by simp) (.inr (onlyC (ho1.nil_left ho2))) ?_
        simp only [List.mem_cons, List.not_mem_nil, or_false, forall_eq]
        refine wpOp_one rfl ?_
        go_wp2
        simp only [nrm]
        refine wpAnyC_next [9] (by kernel_rfl) (by simp) (.inr (onlyC (ho1.nil_left ho2))) ?_
        simp only [List.mem_cons, List.not_mem_nil, or_false, forall_eq]
        refine wpOp_one rfl ?_
        go_wp2
        simp only [nrm]
        refine wpAnyC_next [10] (by kernel_rfl) (by simp) (.inr (onlyC (ho1.nil_left ho2))) ?_
        simp only [List.mem_cons, List.not_mem_nil, or_false, forall_eq]
        refine wpOp_one rfl ?_
        go_wp2
        simp only [nrm]
        have hvb : g' ∈ [g] ∨ w0.heap.size ≤ g' := by
          rcases HB2.out with h | h
          · cases h; left; simp
          · right; rw [h]; exact ho1.size
        have hvq : g' ≠ q := by
          rcases hvb with h | h
          · rintro rfl; exact hqn h
          · omega
        refine wpAnyC_done (by kernel_rfl) (.inl (late_of (by kernel_rfl))) ⟨(g', cap'), rfl, ?_, ?_, ?_, by simpa using hvb⟩
        · exact setCell_got _ HQC.out
        · exact HO2.out.kept (row := some q) ⟨rfl, rfl, rfl, by simp [World.setCell], fun k _ hk => Below.heap_setCell _ _ _ _ (fun e => hk (by rw [e]))⟩ (.inr (by simpa [Value.ownBlock] using hvq))
        · exact (ho1.nil_left (ho2.weak (S' := q :: [g]) (by simp))).setCell (by simp) _
end Go.Proofs.Ytpiilepmaomfeaa
