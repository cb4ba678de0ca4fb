/- words and Text of package logbook. Conditions: the library's variables are laid; the length. -/
import Derived.Test.YtdpfbedcejahjaaDoorLm
import Derived.Test.YtdpfbedcejahjaaDoorBd
import Derived.Deep.Cut
namespace Go.Proofs.YtdpfbedcejahjaaDoor
open Go.RowKit

/-- what words returns -/
def WordsV (e : En) (r : Ending) (w : World) : Prop := ∃ g, r = .returned (.slice (some ⟨g, 0, none⟩) (wordsE e).length (wordsE e).length) ∧ RowAt strC 9 1 w g (wordsE e).length (wordsE e)
theorem grown_only2 {P : Program} {f : FuncId} {args : Array Value} {w : World} {v : Value} (h : ∀ w', Only [] w w' → Calls P f args w' fun e w'' => e = .returned v ∧ Only [] w' w'') :
    ∀ w', (∃ x, w' = plus w x) → Calls P f args w' fun e w'' => e = .returned v ∧ ∃ x, w'' = plus w x :=
  grown_calls fun w' hw' => (h w' (only_of_plus hw')).mono fun _ _ ⟨he, ho⟩ => ⟨he, ho.nil_below⟩

set_option maxRecDepth 100000 in
set_option maxHeartbeats 1000000 in
theorem Pwords_a (k n p m c v : Int) (w : World) (hr : rngOk ⟨k, n, p, m, c, v⟩) (hk : k = 1) (ht : Tab w) :
    Calls Tryd.prog 32 #[.agg #[.int .i64 k, .int .i64 n, .int .i64 p, .int .i64 m, .int .i64 c, .int .i64 v]] w fun e w' => WordsV ⟨k, n, p, m, c, v⟩ e w' ∧ Only [] w w' := by
  unfold rngOk at hr
  dsimp only at hr
  have HT := Lib.hid ht; clear ht
  have hi0 : ∀ w', Only [] w w' → Calls Tryd.prog 46 #[.int .i64 n] w' fun e w'' => e = .returned (.string (bstr (Lib.itoa n))) ∧ Only [] w' w'' := fun w' ho => itoa_plus n w' (by omega) (by omega) (HT.out.kept ho)
  have hi1 : ∀ w', Only [] w w' → Calls Tryd.prog 46 #[.int .i64 p] w' fun e w'' => e = .returned (.string (bstr (Lib.itoa p))) ∧ Only [] w' w'' := fun w' ho => itoa_plus p w' (by omega) (by omega) (HT.out.kept ho)
  have hi2 : ∀ w', Only [] w w' → Calls Tryd.prog 46 #[.int .i64 m] w' fun e w'' => e = .returned (.string (bstr (Lib.itoa m))) ∧ Only [] w' w'' := fun w' ho => itoa_plus m w' (by omega) (by omega) (HT.out.kept ho)
  have hi3 : ∀ w', Only [] w w' → Calls Tryd.prog 46 #[.int .i64 c] w' fun e w'' => e = .returned (.string (bstr (Lib.itoa c))) ∧ Only [] w' w'' := fun w' ho => itoa_plus c w' (by omega) (by omega) (HT.out.kept ho)
  have hws : wordsE ⟨k, n, p, m, c, v⟩ = [wSend, Lib.itoa n, Lib.itoa p, Lib.itoa m, Lib.itoa c] := by subst hk; simp [wordsE]
  obtain ⟨X0, hX0⟩ : ∃ X, X = bstr (Lib.itoa n) := ⟨_, rfl⟩
  rw [← hX0] at hi0
  obtain ⟨X1, hX1⟩ : ∃ X, X = bstr (Lib.itoa p) := ⟨_, rfl⟩
  rw [← hX1] at hi1
  obtain ⟨X2, hX2⟩ : ∃ X, X = bstr (Lib.itoa m) := ⟨_, rfl⟩
  rw [← hX2] at hi2
  obtain ⟨X3, hX3⟩ : ∃ X, X = bstr (Lib.itoa c) := ⟨_, rfl⟩
  rw [← hX3] at hi3
  have HX : Hid (X0 = bstr (Lib.itoa n) ∧ X1 = bstr (Lib.itoa p) ∧ X2 = bstr (Lib.itoa m) ∧ X3 = bstr (Lib.itoa c)) := Lib.hid ⟨hX0, hX1, hX2, hX3⟩
  have HWS := Lib.hid hws
  have HI0 := Lib.hid hi0; have HI1 := Lib.hid hi1; have HI2 := Lib.hid hi2; have HI3 := Lib.hid hi3
  clear hws hX0 hi0 hX1 hi1 hX2 hi2 hX3 hi3
  have k1 : (k == 1) = true := by simp [hk]
  have k2 : (k == 2) = false := by simp [hk]
  clear hk hr
  go_enter Tryd.func32, Tryd.ntmps32
  go_upto_region 2 with (fail)
  refine alloc_abs (G := fun w0 => Code.wp _ _ _ _ w0) ?_
  intro w1 hb1 ho1 hs1
  have B1 := Lib.hid hb1; have O1 := Lib.hid ho1
  clear hb1 ho1 hs1
  have g0 := cell_got B1.out 0; have g1 := cell_got B1.out 1; have g2 := cell_got B1.out 2; have g3 := cell_got B1.out 3; have g4 := cell_got B1.out 4; have g5 := cell_got B1.out 5
  have l0 := got_lt B1.out
  go_wp2_with fail
  refine wp_region_grown [0, 1, 2, 3, 4, 5, 6, 7, 8, 9, 10, 11, 12] [13, 14] (by kernel_rfl) (by kernel_rfl) ?_
  simp only [pick, List.map_cons, List.map_nil, List.getD_cons_succ, List.getD_cons_zero]
  iterate 3 (refine wpQuiet_step (fun K hK => ?_); go_simp; refine hK _ ?_; clear hK K)
  refine wpQuiet_enter rfl 46 #[.int .i64 n] (fun _ => by kernel_rfl) (.string X0) (grown_only2 fun w' ho => HI0.out w' (O1.out.nil_trans ho)) ?_
  iterate 2 (refine wpQuiet_step (fun K hK => ?_); go_simp; refine hK _ ?_; clear hK K)
  refine wpQuiet_enter rfl 46 #[.int .i64 p] (fun _ => by kernel_rfl) (.string X1) (grown_only2 fun w' ho => HI1.out w' (O1.out.nil_trans ho)) ?_
  iterate 2 (refine wpQuiet_step (fun K hK => ?_); go_simp; refine hK _ ?_; clear hK K)
  refine wpQuiet_enter rfl 46 #[.int .i64 m] (fun _ => by kernel_rfl) (.string X2) (grown_only2 fun w' ho => HI2.out w' (O1.out.nil_trans ho)) ?_
  iterate 2 (refine wpQuiet_step (fun K hK => ?_); go_simp; refine hK _ ?_; clear hK K)
  refine wpQuiet_enter rfl 46 #[.int .i64 c] (fun _ => by kernel_rfl) (.string X3) (grown_only2 fun w' ho => HI3.out w' (O1.out.nil_trans ho)) ?_
  refine wpQuiet_nil ?_
  intro w2 hw2
  have O2 := Lib.hid (O1.out.nil_trans (only_of_plus hw2))
  clear hw2 g0 g1 g2 g3 g4 g5 l0 B1 O1
  go_wp2
  go_ret
  refine ⟨⟨w2.heap.size, by rw [HWS.out]; rfl, ⟨_, alloc_new _ _, ?_, Nat.le_refl _, ?_, ?_⟩⟩, O2.out.alloc _⟩
  · rw [HWS.out]; rfl
  · rw [HWS.out]; simp [maxLen]
  · rw [HWS.out]
    obtain ⟨e0, e1, e2, e3⟩ := HX.out
    rw [e0, e1, e2, e3]; rfl
set_option maxRecDepth 100000 in
set_option maxHeartbeats 1000000 in
theorem Pwords_b (k n p m c v : Int) (w : World) (hr : rngOk ⟨k, n, p, m, c, v⟩) (hk : k = 2) (ht : Tab w) :
    Calls Tryd.prog 32 #[.agg #[.int .i64 k, .int .i64 n, .int .i64 p, .int .i64 m, .int .i64 c, .int .i64 v]] w fun e w' => WordsV ⟨k, n, p, m, c, v⟩ e w' ∧ Only [] w w' := by
  unfold rngOk at hr
  dsimp only at hr
  have HT := Lib.hid ht; clear ht
  have hi0 : ∀ w', Only [] w w' → Calls Tryd.prog 46 #[.int .i64 n] w' fun e w'' => e = .returned (.string (bstr (Lib.itoa n))) ∧ Only [] w' w'' := fun w' ho => itoa_plus n w' (by omega) (by omega) (HT.out.kept ho)
  have hi1 : ∀ w', Only [] w w' → Calls Tryd.prog 46 #[.int .i64 p] w' fun e w'' => e = .returned (.string (bstr (Lib.itoa p))) ∧ Only [] w' w'' := fun w' ho => itoa_plus p w' (by omega) (by omega) (HT.out.kept ho)
  have hi2 : ∀ w', Only [] w w' → Calls Tryd.prog 46 #[.int .i64 m] w' fun e w'' => e = .returned (.string (bstr (Lib.itoa m))) ∧ Only [] w' w'' := fun w' ho => itoa_plus m w' (by omega) (by omega) (HT.out.kept ho)
  have hi3 : ∀ w', Only [] w w' → Calls Tryd.prog 46 #[.int .i64 c] w' fun e w'' => e = .returned (.string (bstr (Lib.itoa c))) ∧ Only [] w' w'' := fun w' ho => itoa_plus c w' (by omega) (by omega) (HT.out.kept ho)
  have hws : wordsE ⟨k, n, p, m, c, v⟩ = [wRecv, Lib.itoa n, Lib.itoa p, Lib.itoa m, Lib.itoa c] := by subst hk; simp [wordsE]
  obtain ⟨X0, hX0⟩ : ∃ X, X = bstr (Lib.itoa n) := ⟨_, rfl⟩
  rw [← hX0] at hi0
  obtain ⟨X1, hX1⟩ : ∃ X, X = bstr (Lib.itoa p) := ⟨_, rfl⟩
  rw [← hX1] at hi1
  obtain ⟨X2, hX2⟩ : ∃ X, X = bstr (Lib.itoa m) := ⟨_, rfl⟩
  rw [← hX2] at hi2
  obtain ⟨X3, hX3⟩ : ∃ X, X = bstr (Lib.itoa c) := ⟨_, rfl⟩
  rw [← hX3] at hi3
  have HX : Hid (X0 = bstr (Lib.itoa n) ∧ X1 = bstr (Lib.itoa p) ∧ X2 = bstr (Lib.itoa m) ∧ X3 = bstr (Lib.itoa c)) := Lib.hid ⟨hX0, hX1, hX2, hX3⟩
  have HWS := Lib.hid hws
  have HI0 := Lib.hid hi0; have HI1 := Lib.hid hi1; have HI2 := Lib.hid hi2; have HI3 := Lib.hid hi3
  clear hws hX0 hi0 hX1 hi1 hX2 hi2 hX3 hi3
  have k1 : (k == 1) = false := by simp [hk]
  have k2 : (k == 2) = true := by simp [hk]
  clear hk hr
  go_enter Tryd.func32, Tryd.ntmps32
  go_upto_region 2 with (fail)
  refine alloc_abs (G := fun w0 => Code.wp _ _ _ _ w0) ?_
  intro w1 hb1 ho1 hs1
  have B1 := Lib.hid hb1; have O1 := Lib.hid ho1
  clear hb1 ho1 hs1
  have g0 := cell_got B1.out 0; have g1 := cell_got B1.out 1; have g2 := cell_got B1.out 2; have g3 := cell_got B1.out 3; have g4 := cell_got B1.out 4; have g5 := cell_got B1.out 5
  have l0 := got_lt B1.out
  go_wp2_with fail
  refine wp_region_grown [0, 1, 2, 3, 4, 5, 6, 7, 8, 9, 10, 11, 12] [13, 14] (by kernel_rfl) (by kernel_rfl) ?_
  simp only [pick, List.map_cons, List.map_nil, List.getD_cons_succ, List.getD_cons_zero]
  iterate 3 (refine wpQuiet_step (fun K hK => ?_); go_simp; refine hK _ ?_; clear hK K)
  refine wpQuiet_enter rfl 46 #[.int .i64 n] (fun _ => by kernel_rfl) (.string X0) (grown_only2 fun w' ho => HI0.out w' (O1.out.nil_trans ho)) ?_
  iterate 2 (refine wpQuiet_step (fun K hK => ?_); go_simp; refine hK _ ?_; clear hK K)
  refine wpQuiet_enter rfl 46 #[.int .i64 p] (fun _ => by kernel_rfl) (.string X1) (grown_only2 fun w' ho => HI1.out w' (O1.out.nil_trans ho)) ?_
  iterate 2 (refine wpQuiet_step (fun K hK => ?_); go_simp; refine hK _ ?_; clear hK K)
  refine wpQuiet_enter rfl 46 #[.int .i64 m] (fun _ => by kernel_rfl) (.string X2) (grown_only2 fun w' ho => HI2.out w' (O1.out.nil_trans ho)) ?_
  iterate 2 (refine wpQuiet_step (fun K hK => ?_); go_simp; refine hK _ ?_; clear hK K)
  refine wpQuiet_enter rfl 46 #[.int .i64 c] (fun _ => by kernel_rfl) (.string X3) (grown_only2 fun w' ho => HI3.out w' (O1.out.nil_trans ho)) ?_
  refine wpQuiet_nil ?_
  intro w2 hw2
  have O2 := Lib.hid (O1.out.nil_trans (only_of_plus hw2))
  clear hw2 g0 g1 g2 g3 g4 g5 l0 B1 O1
  go_wp2
  go_ret
  refine ⟨⟨w2.heap.size, by rw [HWS.out]; rfl, ⟨_, alloc_new _ _, ?_, Nat.le_refl _, ?_, ?_⟩⟩, O2.out.alloc _⟩
  · rw [HWS.out]; rfl
  · rw [HWS.out]; simp [maxLen]
  · rw [HWS.out]
    obtain ⟨e0, e1, e2, e3⟩ := HX.out
    rw [e0, e1, e2, e3]; rfl
set_option maxRecDepth 100000 in
set_option maxHeartbeats 1000000 in
theorem Pwords_c (k n p m c v : Int) (w : World) (hr : rngOk ⟨k, n, p, m, c, v⟩) (hk : k = 3) (ht : Tab w) :
    Calls Tryd.prog 32 #[.agg #[.int .i64 k, .int .i64 n, .int .i64 p, .int .i64 m, .int .i64 c, .int .i64 v]] w fun e w' => WordsV ⟨k, n, p, m, c, v⟩ e w' ∧ Only [] w w' := by
  unfold rngOk at hr
  dsimp only at hr
  have HT := Lib.hid ht; clear ht
  have hi0 : ∀ w', Only [] w w' → Calls Tryd.prog 46 #[.int .i64 n] w' fun e w'' => e = .returned (.string (bstr (Lib.itoa n))) ∧ Only [] w' w'' := fun w' ho => itoa_plus n w' (by omega) (by omega) (HT.out.kept ho)
  have hi1 : ∀ w', Only [] w w' → Calls Tryd.prog 46 #[.int .i64 c] w' fun e w'' => e = .returned (.string (bstr (Lib.itoa c))) ∧ Only [] w' w'' := fun w' ho => itoa_plus c w' (by omega) (by omega) (HT.out.kept ho)
  have hi2 : ∀ w', Only [] w w' → Calls Tryd.prog 46 #[.int .i64 v] w' fun e w'' => e = .returned (.string (bstr (Lib.itoa v))) ∧ Only [] w' w'' := fun w' ho => itoa_plus v w' (by omega) (by omega) (HT.out.kept ho)
  have hws : wordsE ⟨k, n, p, m, c, v⟩ = [wStep, Lib.itoa n, Lib.itoa c, Lib.itoa v] := by subst hk; simp [wordsE]
  obtain ⟨X0, hX0⟩ : ∃ X, X = bstr (Lib.itoa n) := ⟨_, rfl⟩
  rw [← hX0] at hi0
  obtain ⟨X1, hX1⟩ : ∃ X, X = bstr (Lib.itoa c) := ⟨_, rfl⟩
  rw [← hX1] at hi1
  obtain ⟨X2, hX2⟩ : ∃ X, X = bstr (Lib.itoa v) := ⟨_, rfl⟩
  rw [← hX2] at hi2
  have HX : Hid (X0 = bstr (Lib.itoa n) ∧ X1 = bstr (Lib.itoa c) ∧ X2 = bstr (Lib.itoa v)) := Lib.hid ⟨hX0, hX1, hX2⟩
  have HWS := Lib.hid hws
  have HI0 := Lib.hid hi0; have HI1 := Lib.hid hi1; have HI2 := Lib.hid hi2
  clear hws hX0 hi0 hX1 hi1 hX2 hi2
  have k1 : (k == 1) = false := by simp [hk]
  have k2 : (k == 2) = false := by simp [hk]
  have k3 : (k == 3) = true := by simp [hk]
  clear hk hr
  go_enter Tryd.func32, Tryd.ntmps32
  go_upto_region 2 with (fail)
  refine alloc_abs (G := fun w0 => Code.wp _ _ _ _ w0) ?_
  intro w1 hb1 ho1 hs1
  have B1 := Lib.hid hb1; have O1 := Lib.hid ho1
  clear hb1 ho1 hs1
  have g0 := cell_got B1.out 0; have g1 := cell_got B1.out 1; have g2 := cell_got B1.out 2; have g3 := cell_got B1.out 3; have g4 := cell_got B1.out 4; have g5 := cell_got B1.out 5
  have l0 := got_lt B1.out
  go_wp2_with fail
  refine wp_region_grown [0, 1, 2, 3, 4, 5, 6, 7, 8] [9, 10] (by kernel_rfl) (by kernel_rfl) ?_
  simp only [pick, List.map_cons, List.map_nil, List.getD_cons_succ, List.getD_cons_zero]
  iterate 2 (refine wpQuiet_step (fun K hK => ?_); go_simp; refine hK _ ?_; clear hK K)
  refine wpQuiet_enter rfl 46 #[.int .i64 n] (fun _ => by kernel_rfl) (.string X0) (grown_only2 fun w' ho => HI0.out w' (O1.out.nil_trans ho)) ?_
  iterate 2 (refine wpQuiet_step (fun K hK => ?_); go_simp; refine hK _ ?_; clear hK K)
  refine wpQuiet_enter rfl 46 #[.int .i64 c] (fun _ => by kernel_rfl) (.string X1) (grown_only2 fun w' ho => HI1.out w' (O1.out.nil_trans ho)) ?_
  iterate 2 (refine wpQuiet_step (fun K hK => ?_); go_simp; refine hK _ ?_; clear hK K)
  refine wpQuiet_enter rfl 46 #[.int .i64 v] (fun _ => by kernel_rfl) (.string X2) (grown_only2 fun w' ho => HI2.out w' (O1.out.nil_trans ho)) ?_
  refine wpQuiet_nil ?_
  intro w2 hw2
  have O2 := Lib.hid (O1.out.nil_trans (only_of_plus hw2))
  clear hw2 g0 g1 g2 g3 g4 g5 l0 B1 O1
  go_wp2
  go_ret
  refine ⟨⟨w2.heap.size, by rw [HWS.out]; rfl, ⟨_, alloc_new _ _, ?_, Nat.le_refl _, ?_, ?_⟩⟩, O2.out.alloc _⟩
  · rw [HWS.out]; rfl
  · rw [HWS.out]; simp [maxLen]
  · rw [HWS.out]
    obtain ⟨e0, e1, e2⟩ := HX.out
    rw [e0, e1, e2]; rfl
set_option maxRecDepth 100000 in
set_option maxHeartbeats 1000000 in
theorem Pwords_d (k n p m c v : Int) (w : World) (hr : rngOk ⟨k, n, p, m, c, v⟩) (hk : k = 4) (ht : Tab w) :
    Calls Tryd.prog 32 #[.agg #[.int .i64 k, .int .i64 n, .int .i64 p, .int .i64 m, .int .i64 c, .int .i64 v]] w fun e w' => WordsV ⟨k, n, p, m, c, v⟩ e w' ∧ Only [] w w' := by
  unfold rngOk at hr
  dsimp only at hr
  have HT := Lib.hid ht; clear ht
  have hi0 : ∀ w', Only [] w w' → Calls Tryd.prog 46 #[.int .i64 n] w' fun e w'' => e = .returned (.string (bstr (Lib.itoa n))) ∧ Only [] w' w'' := fun w' ho => itoa_plus n w' (by omega) (by omega) (HT.out.kept ho)
  have hi1 : ∀ w', Only [] w w' → Calls Tryd.prog 46 #[.int .i64 c] w' fun e w'' => e = .returned (.string (bstr (Lib.itoa c))) ∧ Only [] w' w'' := fun w' ho => itoa_plus c w' (by omega) (by omega) (HT.out.kept ho)
  have hws : wordsE ⟨k, n, p, m, c, v⟩ = [wMark, Lib.itoa n, Lib.itoa c] := by subst hk; simp [wordsE]
  obtain ⟨X0, hX0⟩ : ∃ X, X = bstr (Lib.itoa n) := ⟨_, rfl⟩
  rw [← hX0] at hi0
  obtain ⟨X1, hX1⟩ : ∃ X, X = bstr (Lib.itoa c) := ⟨_, rfl⟩
  rw [← hX1] at hi1
  have HX : Hid (X0 = bstr (Lib.itoa n) ∧ X1 = bstr (Lib.itoa c)) := Lib.hid ⟨hX0, hX1⟩
  have HWS := Lib.hid hws
  have HI0 := Lib.hid hi0; have HI1 := Lib.hid hi1
  clear hws hX0 hi0 hX1 hi1
  have k1 : (k == 1) = false := by simp [hk]
  have k2 : (k == 2) = false := by simp [hk]
  have k3 : (k == 3) = false := by simp [hk]
  clear hk hr
  go_enter Tryd.func32, Tryd.ntmps32
  go_upto_region 2 with (fail)
  refine alloc_abs (G := fun w0 => Code.wp _ _ _ _ w0) ?_
  intro w1 hb1 ho1 hs1
  have B1 := Lib.hid hb1; have O1 := Lib.hid ho1
  clear hb1 ho1 hs1
  have g0 := cell_got B1.out 0; have g1 := cell_got B1.out 1; have g2 := cell_got B1.out 2; have g3 := cell_got B1.out 3; have g4 := cell_got B1.out 4; have g5 := cell_got B1.out 5
  have l0 := got_lt B1.out
  go_wp2_with fail
  refine wp_region_grown [0, 1, 2, 3, 4, 5] [6, 7] (by kernel_rfl) (by kernel_rfl) ?_
  simp only [pick, List.map_cons, List.map_nil, List.getD_cons_succ, List.getD_cons_zero]
  iterate 2 (refine wpQuiet_step (fun K hK => ?_); go_simp; refine hK _ ?_; clear hK K)
  refine wpQuiet_enter rfl 46 #[.int .i64 n] (fun _ => by kernel_rfl) (.string X0) (grown_only2 fun w' ho => HI0.out w' (O1.out.nil_trans ho)) ?_
  iterate 2 (refine wpQuiet_step (fun K hK => ?_); go_simp; refine hK _ ?_; clear hK K)
  refine wpQuiet_enter rfl 46 #[.int .i64 c] (fun _ => by kernel_rfl) (.string X1) (grown_only2 fun w' ho => HI1.out w' (O1.out.nil_trans ho)) ?_
  refine wpQuiet_nil ?_
  intro w2 hw2
  have O2 := Lib.hid (O1.out.nil_trans (only_of_plus hw2))
  clear hw2 g0 g1 g2 g3 g4 g5 l0 B1 O1
  go_wp2
  go_ret
  refine ⟨⟨w2.heap.size, by rw [HWS.out]; rfl, ⟨_, alloc_new _ _, ?_, Nat.le_refl _, ?_, ?_⟩⟩, O2.out.alloc _⟩
  · rw [HWS.out]; rfl
  · rw [HWS.out]; simp [maxLen]
  · rw [HWS.out]
    obtain ⟨e0, e1⟩ := HX.out
    rw [e0, e1]; rfl
theorem Pwords (e : En) (w : World) (he : eChk e = 0) (ht : Tab w) :
    Calls Tryd.prog 32 #[.agg #[.int .i64 e.k, .int .i64 e.n, .int .i64 e.p, .int .i64 e.m, .int .i64 e.c, .int .i64 e.v]] w fun r w' => WordsV e r w' ∧ Only [] w w' := by
  obtain ⟨k, n, p, m, c, v⟩ := e
  unfold eChk at he
  split at he
  · cases he
  · rename_i hk
    split at he
    · cases he
    · rename_i hr
      have hr := Classical.not_not.1 hr
      dsimp only at hk ⊢
      rcases (show k = 1 ∨ k = 2 ∨ k = 3 ∨ k = 4 by omega) with h | h | h | h
      · exact Pwords_a k n p m c v w hr h ht
      · exact Pwords_b k n p m c v w hr h ht
      · exact Pwords_c k n p m c v w hr h ht
      · exact Pwords_d k n p m c v w hr h ht
end Go.Proofs.YtdpfbedcejahjaaDoor
