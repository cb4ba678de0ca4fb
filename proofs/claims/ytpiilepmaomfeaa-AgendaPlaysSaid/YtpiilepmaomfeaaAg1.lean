/- The heap of package agenda: what put, swap and their callees do to memory. Conditions: as stated. -/
import Derived.Test.YtpiilepmaomfeaaRowsOf
import Derived.Maps.OwnSet
namespace Go.Proofs.Ytpiilepmaomfeaa
open Go.RowKit

/-- an event -/
structure Ev where
  t : Int
  i : Int
  x : Int

abbrev evc (e : Ev) : List Value := [.int .i64 e.t, .int .i64 e.i, .int .i64 e.x]
theorem evc_len (e : Ev) : (evc e).length = 3 := rfl
/-- the list of a heap in memory -/
abbrev ERow (w : World) (g cap : Nat) (l : List Ev) : Prop := RowAt evc 57 3 w g cap l
/-- the map of a heap in memory -/
abbrev EMap (w : World) (b n : Nat) (D : DataW Unit) : Prop := w.ownsMap Try.prog 3 (plainElem Try.prog 3) b n D

theorem EMap.kept {w w' : World} {S : List Nat} {b n : Nat} {D : DataW Unit} (h : EMap w b n D) (ho : Only S w w') (hn : b ∉ S) : EMap w' b n D := by
  obtain ⟨es, clock, hb, r⟩ := h
  exact ⟨es, clock, ho.got hb hn, r⟩

theorem key_any (t i x : Int) (w : World) :
    Calls Try.prog 50 #[.agg #[.int .i64 t, .int .i64 i, .int .i64 x]] w fun e w' => e = .returned (.int .i64 i) ∧ Below w.heap.size w w' := by
  go_enter Try.func50, Try.ntmps50
  go_wp2
  go_ret
  exact ⟨rfl, (Below.refl _ _).alloc (Nat.le_refl _) _⟩

set_option maxHeartbeats 400000 in
theorem put_any (q g cap n b i m : Nat) (t k x : Int) (qc : Array Value) (l : List Ev) (D : DataW Unit) (w : World)
   (hq : w.heap[q]? = some (.cells qc 53 (0, 0))) (hq0 : qc[0]? = some (.slice (some ⟨g, 0, none⟩) n cap)) (hq1 : qc[1]? = some (.map (some b)))
   (hqg : q ≠ g) (hrow : ERow w g cap l) (hbg : b ≠ g) (hmap : EMap w b m D) (hmm : m < maxLen) (hkw : (Lit.int .i64 k).wf = true) (hi : i < n) (hln : n = l.length) (hn : n ≤ 9223372036854775807) :
    Calls Try.prog 29 #[.pointer (some ⟨q, 0, none⟩), .int .i64 i, .agg #[.int .i64 t, .int .i64 k, .int .i64 x]] w fun e w' => e = .returned (.tuple #[]) ∧ ERow w' g cap (l.set i ⟨t, k, x⟩) ∧ EMap w' b (m + 1) (D.put (.int .i64 k) (.lit (.int .i64 i))) ∧ Only [g, b] w w' := by
  have hqs := got_lt hq
  have hgs := hrow.lt
  obtain ⟨cur, hg, hcs, hlc, hcm, hct⟩ := hrow
  have HQ := Lib.hid hq; have HG := Lib.hid hg; have HCS := Lib.hid hcs; have HL := Lib.hid hln; have HCT := Lib.hid hct; have Hq0 := Lib.hid hq0; have Hq1 := Lib.hid hq1
  clear hq hg hcs hln hct hq0 hq1
  go_enter Try.func29, Try.ntmps29
  go_wp2
  refine alloc_abs (G := Code.wp _ _ _ _) ?_
  intro w0 hb0 ho0 hs0
  have d0 := (cell_got (ho0.got HQ.out (by simp)) 0).trans Hq0.out
  have b0 := cell_got hb0 0
  have b1 := cell_got hb0 1
  have b2 := cell_got hb0 2
  have HB := Lib.hid hb0; clear hb0
  have HS := Lib.hid hs0; have hs0' : w.heap.size < w0.heap.size := by omega
  clear hs0
  have hqs0 : q < w0.heap.size := by omega
  refine wp_region_grown [0,1,2,3,4,5,6] [7] (by kernel_rfl) (by kernel_rfl) ?_
  simp only [pick, List.map_cons, List.map_nil, List.getD_cons_succ, List.getD_cons_zero]
  iterate 7 (refine wpQuiet_step (fun K hK => ?_); go_simp; refine hK _ ?_; clear hK K)
  refine wpQuiet_nil ?_
  intro w1 hw1
  have ho1 := only_of_plus hw1; clear hw1
  refine wpList_store_row rfl 57 _ _ rfl 3 (by kernel_rfl) g (i * 3) rfl (.agg #[.int .i64 t, .int .i64 k, .int .i64 x]) rfl rfl rfl cur 57 (ho1.got (ho0.got HG.out (by simp)) (by simp)) (by have := HL.out; have := HCS.out; omega) ?_
  intro w2 hg2 ho2 hs2
  have d1 := (cell_got (ho2.got (ho1.got (ho0.got HQ.out (by simp)) (by simp)) (by simpa using hqg)) 1).trans Hq1.out
  have hb2 := ho2.got (ho1.got HB.out (by simp)) (by simp; omega)
  have hqs2 : q < w2.heap.size := by have := ho1.size; omega
  have hbs2 : w.heap.size < w2.heap.size := by have := ho1.size; omega
  clear d0 b0 b1 b2
  have b0 := cell_got hb2 0
  have b1 := cell_got hb2 1
  have b2 := cell_got hb2 2
  have HB2 := Lib.hid hb2; clear hb2
  have HG2 := Lib.hid hg2; clear hg2
  have HS2 := Lib.hid hs2; clear hs2
  go_wp2
  refine wp_region_grown [0,1,2,3,4,5,6,7] [8] (by kernel_rfl) (by kernel_rfl) ?_
  simp only [pick, List.map_cons, List.map_nil, List.getD_cons_succ, List.getD_cons_zero]
  iterate 6 (refine wpQuiet_step (fun K hK => ?_); go_simp; refine hK _ ?_; clear hK K)
  refine wpQuiet_enter rfl 50 #[.agg #[.int .i64 t, .int .i64 k, .int .i64 x]] (fun _ => by kernel_rfl) (.int .i64 k) (grown_calls fun w' _ => key_any t k x w') ?_
  iterate 1 (refine wpQuiet_step (fun K hK => ?_); go_simp; refine hK _ ?_; clear hK K)
  refine wpQuiet_nil ?_
  intro w3 hw3
  have ho3 := only_of_plus hw3; clear hw3
  have ho := ((((Only.nil_trans ho0 ho1).nil_left ho2).nil_trans ho3))
  refine wpList_mapUpdate_own _ rfl _ _ _ 49 rfl 3 3 (Maps.int_keyed Try.underlying3) Try.underlying49 (plainElem Try.prog 3) b m D rfl ?_ ?_ _ _ (.int .i64 k) rfl rfl ?_ (.lit (.int .i64 i)) [] ?_ ?_
  · exact EMap.kept hmap ho (by simpa using hbg)
  · exact hmm
  · exact Maps.keyOf_int_mk Try.underlying3 hkw
  · exact plainElem_int Try.underlying3 (WalkArith.wf_i64 (by omega))
  intro w4 hm4 hg4
  go_wp2
  go_end0
  have hrow' : ERow w3 g cap (l.set i ⟨t, k, x⟩) := RowAt.set evc_len (by have := HL.out; omega) ⟨cur, HG.out, HCS.out, hlc, hcm, HCT.out⟩ HG.out (ho3.got HG2.out (by simp))
  have ho4 : Only [b] w3 w4 := (Only.refl [b] w3).grown hg4 (by simp)
  refine ⟨rfl, hrow'.kept ho4 (by simpa using hbg.symm), hm4, (ho.weak (by simp)).trans ho4 (by simp)⟩
end Go.Proofs.Ytpiilepmaomfeaa
