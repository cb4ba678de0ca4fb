/- line and Text of the reference. Condition: the length. -/
import Derived.Test.YtdpfbedcejahjaaDoorRp
import Derived.Test.YtdpfbedcejahjaaDoorLy
namespace Go.Proofs.YtdpfbedcejahjaaDoor
open Go.RowKit

set_option maxRecDepth 100000 in
set_option maxHeartbeats 1000000 in
theorem rline_a (k n p m c v : Int) (w : World) (hr : rngOk ⟨k, n, p, m, c, v⟩) (hk : k = 1) :
    Calls Tryd.prog 35 #[.agg #[.int .i64 k, .int .i64 n, .int .i64 p, .int .i64 m, .int .i64 c, .int .i64 v]] w fun e w' => e = .returned (.string (bstr (lineT ⟨k, n, p, m, c, v⟩ ++ [10]))) ∧ Only [] w w' := by
  subst hk
  unfold rngOk at hr
  dsimp only at hr
  have hw : lineT ⟨1, n, p, m, c, v⟩ = wSend ++ 32 :: Lib.itoa n ++ 32 :: Lib.itoa p ++ 32 :: Lib.itoa m ++ 32 :: Lib.itoa c := by simp [lineT, wordsE, joinC]
  obtain ⟨N, hN⟩ : ∃ N, N = bstr wSend := ⟨_, rfl⟩
  have hNs : N.size ≤ 4 := by rw [hN]; exact Nat.le_refl _
  have hnm : ∀ w', Calls Tryd.prog 42 #[.int .i64 1] w' fun e w'' => e = .returned (.string N) ∧ Only [] w' w'' := fun w' => by rw [hN]; exact rname 1 (by decide) w'
  obtain ⟨Dn, hDn⟩ : ∃ X, X = bstr (Lib.itoa n) := ⟨_, rfl⟩
  have hsn : Dn.size ≤ 21 := by rw [hDn, bstr_size]; exact Lib.itoa_length_le n (by omega) (by omega)
  have hcn : ∀ w', Calls Tryd.prog 47 #[.int .i64 n] w' fun e w'' => e = .returned (.string Dn) ∧ Only [] w' w'' := fun w' => by rw [hDn]; exact rdecimal n ⟨by omega, by omega⟩ w'
  obtain ⟨Dp, hDp⟩ : ∃ X, X = bstr (Lib.itoa p) := ⟨_, rfl⟩
  have hsp : Dp.size ≤ 21 := by rw [hDp, bstr_size]; exact Lib.itoa_length_le p (by omega) (by omega)
  have hcp : ∀ w', Calls Tryd.prog 47 #[.int .i64 p] w' fun e w'' => e = .returned (.string Dp) ∧ Only [] w' w'' := fun w' => by rw [hDp]; exact rdecimal p ⟨by omega, by omega⟩ w'
  obtain ⟨Dm, hDm⟩ : ∃ X, X = bstr (Lib.itoa m) := ⟨_, rfl⟩
  have hsm : Dm.size ≤ 21 := by rw [hDm, bstr_size]; exact Lib.itoa_length_le m (by omega) (by omega)
  have hcm : ∀ w', Calls Tryd.prog 47 #[.int .i64 m] w' fun e w'' => e = .returned (.string Dm) ∧ Only [] w' w'' := fun w' => by rw [hDm]; exact rdecimal m ⟨by omega, by omega⟩ w'
  obtain ⟨Dc, hDc⟩ : ∃ X, X = bstr (Lib.itoa c) := ⟨_, rfl⟩
  have hsc : Dc.size ≤ 21 := by rw [hDc, bstr_size]; exact Lib.itoa_length_le c (by omega) (by omega)
  have hcc : ∀ w', Calls Tryd.prog 47 #[.int .i64 c] w' fun e w'' => e = .returned (.string Dc) ∧ Only [] w' w'' := fun w' => by rw [hDc]; exact rdecimal c ⟨by omega, by omega⟩ w'
  have HW := Lib.hid hw; have HN := Lib.hid hN; have HNM := Lib.hid hnm
  have HDn := Lib.hid hDn; have HCn := Lib.hid hcn; have HDp := Lib.hid hDp; have HCp := Lib.hid hcp; have HDm := Lib.hid hDm; have HCm := Lib.hid hcm; have HDc := Lib.hid hDc; have HCc := Lib.hid hcc
  clear hw hN hnm hr hDn hcn hDp hcp hDm hcm hDc hcc
  go_enter Tryd.func35, Tryd.ntmps35
  go_upto_region 1 with (fail)
  refine alloc_abs (G := fun w0 => Code.wp _ _ _ _ w0) ?_
  intro w1 hb1 ho1 hs1
  have B1 := Lib.hid hb1; have O1 := Lib.hid ho1
  clear hb1 ho1 hs1
  have g0 := cell_got B1.out 0; have g1 := cell_got B1.out 1; have g2 := cell_got B1.out 2; have g3 := cell_got B1.out 3; have g4 := cell_got B1.out 4; have g5 := cell_got B1.out 5
  have l0 := got_lt B1.out
  have z1 : ¬ 9223372036854775807 < N.size + 1 := by omega
  have z2 : ¬ 9223372036854775807 < N.size + 1 + Dn.size := by omega
  refine wp_region_grown [0, 1, 2, 3, 4, 5, 6, 7, 8] [] (by kernel_rfl) (by kernel_rfl) ?_
  simp only [pick, List.map_cons, List.map_nil, List.getD_cons_succ, List.getD_cons_zero]
  iterate 2 (refine wpQuiet_step (fun K hK => ?_); go_simp; refine hK _ ?_; clear hK K)
  refine wpQuiet_enter rfl 42 #[.int .i64 1] (fun _ => by kernel_rfl) (.string N) (grown_only' fun w' _ => HNM.out w') ?_
  iterate 3 (refine wpQuiet_step (fun K hK => ?_); go_simp; refine hK _ ?_; clear hK K)
  refine wpQuiet_enter rfl 47 #[.int .i64 n] (fun _ => by kernel_rfl) (.string Dn) (grown_only' fun w' _ => HCn.out w') ?_
  iterate 2 (refine wpQuiet_step (fun K hK => ?_); go_simp; refine hK _ ?_; clear hK K)
  refine wpQuiet_nil ?_
  intro w2 hw2
  have O2 := Lib.hid (O1.out.nil_trans (only_of_plus hw2)); have B2 := Lib.hid ((only_of_plus hw2).got B1.out (by simp))
  clear hw2 B1 O1 z1 z2
  clear g0 g1 g2 g3 g4 g5 l0
  obtain ⟨S1, hS1⟩ : ∃ S, S = N ++ ⟨#[32]⟩ ++ Dn := ⟨_, rfl⟩
  have hs1 : S1.size ≤ 30 := by rw [hS1]; have e32 : (⟨#[32]⟩ : ByteArray).size = 1 := rfl; simp only [ByteArray.size_append]; omega
  rw [← hS1]
  have HS1 := Lib.hid hS1; clear hS1
  have g0 := cell_got B2.out 0; have g1 := cell_got B2.out 1; have g2 := cell_got B2.out 2; have g3 := cell_got B2.out 3; have g4 := cell_got B2.out 4; have g5 := cell_got B2.out 5
  have l0 := got_lt B2.out
  go_wp2_with fail
  refine (trav_any 1 n p m c v w2).mono ?_
  rintro e w3 ⟨rfl, ho3⟩
  have O3 := Lib.hid (O2.out.nil_trans ho3); have B3 := Lib.hid (ho3.got B2.out (by simp))
  clear ho3 B2 O2
  clear g0 g1 g2 g3 g4 g5 l0
  rw [show travB 1 = true by decide]
  have g0 := cell_got B3.out 0; have g1 := cell_got B3.out 1; have g2 := cell_got B3.out 2; have g3 := cell_got B3.out 3; have g4 := cell_got B3.out 4; have g5 := cell_got B3.out 5
  have l0 := got_lt B3.out
  go_wp2_with fail
  have z1 : ¬ 9223372036854775807 < S1.size + 1 := by omega
  have z2 : ¬ 9223372036854775807 < S1.size + 1 + Dp.size := by omega
  have z3 : ¬ 9223372036854775807 < S1.size + 1 + Dp.size + 1 := by omega
  have z4 : ¬ 9223372036854775807 < S1.size + 1 + Dp.size + 1 + Dm.size := by omega
  refine wp_region_grown [0, 1, 2, 3, 4, 5, 6, 7, 8, 9, 10, 11] [] (by kernel_rfl) (by kernel_rfl) ?_
  simp only [pick, List.map_cons, List.map_nil, List.getD_cons_succ, List.getD_cons_zero]
  iterate 4 (refine wpQuiet_step (fun K hK => ?_); go_simp; refine hK _ ?_; clear hK K)
  refine wpQuiet_enter rfl 47 #[.int .i64 p] (fun _ => by kernel_rfl) (.string Dp) (grown_only' fun w' _ => HCp.out w') ?_
  iterate 4 (refine wpQuiet_step (fun K hK => ?_); go_simp; refine hK _ ?_; clear hK K)
  refine wpQuiet_enter rfl 47 #[.int .i64 m] (fun _ => by kernel_rfl) (.string Dm) (grown_only' fun w' _ => HCm.out w') ?_
  iterate 2 (refine wpQuiet_step (fun K hK => ?_); go_simp; refine hK _ ?_; clear hK K)
  refine wpQuiet_nil ?_
  intro w4 hw4
  have O4 := Lib.hid (O3.out.nil_trans (only_of_plus hw4)); have B4 := Lib.hid ((only_of_plus hw4).got B3.out (by simp))
  clear hw4 B3 O3 z1 z2 z3 z4
  clear g0 g1 g2 g3 g4 g5 l0
  obtain ⟨S2, hS2⟩ : ∃ S, S = S1 ++ ⟨#[32]⟩ ++ Dp ++ ⟨#[32]⟩ ++ Dm := ⟨_, rfl⟩
  have hs2 : S2.size ≤ 80 := by rw [hS2]; have e32 : (⟨#[32]⟩ : ByteArray).size = 1 := rfl; simp only [ByteArray.size_append]; omega
  rw [← hS2]
  have HS2 := Lib.hid hS2; clear hS2
  have g0 := cell_got B4.out 0; have g1 := cell_got B4.out 1; have g2 := cell_got B4.out 2; have g3 := cell_got B4.out 3; have g4 := cell_got B4.out 4; have g5 := cell_got B4.out 5
  have l0 := got_lt B4.out
  have z1 : ¬ 9223372036854775807 < S2.size + 1 := by omega
  have z2 : ¬ 9223372036854775807 < S2.size + 1 + Dc.size := by omega
  go_wp2_with fail
  refine (HCc.out w4).mono ?_
  rintro e w5 ⟨rfl, ho5⟩
  have O5 := Lib.hid (O4.out.nil_trans ho5); have B5 := Lib.hid (ho5.got B4.out (by simp))
  clear ho5 B4 O4
  clear g0 g1 g2 g3 g4 g5 l0
  have g0 := cell_got B5.out 0; have g1 := cell_got B5.out 1; have g2 := cell_got B5.out 2; have g3 := cell_got B5.out 3; have g4 := cell_got B5.out 4; have g5 := cell_got B5.out 5
  have l0 := got_lt B5.out
  have z5 : ¬ 9223372036854775807 < S2.size + 1 + Dc.size + 1 := by omega
  go_wp2
  go_ret
  refine ⟨?_, O5.out⟩
  have hfin : S2 ++ ⟨#[32]⟩ ++ Dc ++ ⟨#[10]⟩ = bstr (lineT ⟨1, n, p, m, c, v⟩ ++ [10]) := by
    rw [HW.out, HS2.out, HS1.out, HN.out, HDn.out, HDp.out, HDm.out, HDc.out]
    rw [show (⟨#[32]⟩ : ByteArray) = bstr [32] from rfl, show (⟨#[10]⟩ : ByteArray) = bstr [10] from rfl]
    simp only [bstr_append]
    simp
  rw [← hfin]
  rfl
set_option maxRecDepth 100000 in
set_option maxHeartbeats 1000000 in
theorem rline_b (k n p m c v : Int) (w : World) (hr : rngOk ⟨k, n, p, m, c, v⟩) (hk : k = 2) :
    Calls Tryd.prog 35 #[.agg #[.int .i64 k, .int .i64 n, .int .i64 p, .int .i64 m, .int .i64 c, .int .i64 v]] w fun e w' => e = .returned (.string (bstr (lineT ⟨k, n, p, m, c, v⟩ ++ [10]))) ∧ Only [] w w' := by
  subst hk
  unfold rngOk at hr
  dsimp only at hr
  have hw : lineT ⟨2, n, p, m, c, v⟩ = wRecv ++ 32 :: Lib.itoa n ++ 32 :: Lib.itoa p ++ 32 :: Lib.itoa m ++ 32 :: Lib.itoa c := by simp [lineT, wordsE, joinC]
  obtain ⟨N, hN⟩ : ∃ N, N = bstr wRecv := ⟨_, rfl⟩
  have hNs : N.size ≤ 4 := by rw [hN]; exact Nat.le_refl _
  have hnm : ∀ w', Calls Tryd.prog 42 #[.int .i64 2] w' fun e w'' => e = .returned (.string N) ∧ Only [] w' w'' := fun w' => by rw [hN]; exact rname 2 (by decide) w'
  obtain ⟨Dn, hDn⟩ : ∃ X, X = bstr (Lib.itoa n) := ⟨_, rfl⟩
  have hsn : Dn.size ≤ 21 := by rw [hDn, bstr_size]; exact Lib.itoa_length_le n (by omega) (by omega)
  have hcn : ∀ w', Calls Tryd.prog 47 #[.int .i64 n] w' fun e w'' => e = .returned (.string Dn) ∧ Only [] w' w'' := fun w' => by rw [hDn]; exact rdecimal n ⟨by omega, by omega⟩ w'
  obtain ⟨Dp, hDp⟩ : ∃ X, X = bstr (Lib.itoa p) := ⟨_, rfl⟩
  have hsp : Dp.size ≤ 21 := by rw [hDp, bstr_size]; exact Lib.itoa_length_le p (by omega) (by omega)
  have hcp : ∀ w', Calls Tryd.prog 47 #[.int .i64 p] w' fun e w'' => e = .returned (.string Dp) ∧ Only [] w' w'' := fun w' => by rw [hDp]; exact rdecimal p ⟨by omega, by omega⟩ w'
  obtain ⟨Dm, hDm⟩ : ∃ X, X = bstr (Lib.itoa m) := ⟨_, rfl⟩
  have hsm : Dm.size ≤ 21 := by rw [hDm, bstr_size]; exact Lib.itoa_length_le m (by omega) (by omega)
  have hcm : ∀ w', Calls Tryd.prog 47 #[.int .i64 m] w' fun e w'' => e = .returned (.string Dm) ∧ Only [] w' w'' := fun w' => by rw [hDm]; exact rdecimal m ⟨by omega, by omega⟩ w'
  obtain ⟨Dc, hDc⟩ : ∃ X, X = bstr (Lib.itoa c) := ⟨_, rfl⟩
  have hsc : Dc.size ≤ 21 := by rw [hDc, bstr_size]; exact Lib.itoa_length_le c (by omega) (by omega)
  have hcc : ∀ w', Calls Tryd.prog 47 #[.int .i64 c] w' fun e w'' => e = .returned (.string Dc) ∧ Only [] w' w'' := fun w' => by rw [hDc]; exact rdecimal c ⟨by omega, by omega⟩ w'
  have HW := Lib.hid hw; have HN := Lib.hid hN; have HNM := Lib.hid hnm
  have HDn := Lib.hid hDn; have HCn := Lib.hid hcn; have HDp := Lib.hid hDp; have HCp := Lib.hid hcp; have HDm := Lib.hid hDm; have HCm := Lib.hid hcm; have HDc := Lib.hid hDc; have HCc := Lib.hid hcc
  clear hw hN hnm hr hDn hcn hDp hcp hDm hcm hDc hcc
  go_enter Tryd.func35, Tryd.ntmps35
  go_upto_region 1 with (fail)
  refine alloc_abs (G := fun w0 => Code.wp _ _ _ _ w0) ?_
  intro w1 hb1 ho1 hs1
  have B1 := Lib.hid hb1; have O1 := Lib.hid ho1
  clear hb1 ho1 hs1
  have g0 := cell_got B1.out 0; have g1 := cell_got B1.out 1; have g2 := cell_got B1.out 2; have g3 := cell_got B1.out 3; have g4 := cell_got B1.out 4; have g5 := cell_got B1.out 5
  have l0 := got_lt B1.out
  have z1 : ¬ 9223372036854775807 < N.size + 1 := by omega
  have z2 : ¬ 9223372036854775807 < N.size + 1 + Dn.size := by omega
  refine wp_region_grown [0, 1, 2, 3, 4, 5, 6, 7, 8] [] (by kernel_rfl) (by kernel_rfl) ?_
  simp only [pick, List.map_cons, List.map_nil, List.getD_cons_succ, List.getD_cons_zero]
  iterate 2 (refine wpQuiet_step (fun K hK => ?_); go_simp; refine hK _ ?_; clear hK K)
  refine wpQuiet_enter rfl 42 #[.int .i64 2] (fun _ => by kernel_rfl) (.string N) (grown_only' fun w' _ => HNM.out w') ?_
  iterate 3 (refine wpQuiet_step (fun K hK => ?_); go_simp; refine hK _ ?_; clear hK K)
  refine wpQuiet_enter rfl 47 #[.int .i64 n] (fun _ => by kernel_rfl) (.string Dn) (grown_only' fun w' _ => HCn.out w') ?_
  iterate 2 (refine wpQuiet_step (fun K hK => ?_); go_simp; refine hK _ ?_; clear hK K)
  refine wpQuiet_nil ?_
  intro w2 hw2
  have O2 := Lib.hid (O1.out.nil_trans (only_of_plus hw2)); have B2 := Lib.hid ((only_of_plus hw2).got B1.out (by simp))
  clear hw2 B1 O1 z1 z2
  clear g0 g1 g2 g3 g4 g5 l0
  obtain ⟨S1, hS1⟩ : ∃ S, S = N ++ ⟨#[32]⟩ ++ Dn := ⟨_, rfl⟩
  have hs1 : S1.size ≤ 30 := by rw [hS1]; have e32 : (⟨#[32]⟩ : ByteArray).size = 1 := rfl; simp only [ByteArray.size_append]; omega
  rw [← hS1]
  have HS1 := Lib.hid hS1; clear hS1
  have g0 := cell_got B2.out 0; have g1 := cell_got B2.out 1; have g2 := cell_got B2.out 2; have g3 := cell_got B2.out 3; have g4 := cell_got B2.out 4; have g5 := cell_got B2.out 5
  have l0 := got_lt B2.out
  go_wp2_with fail
  refine (trav_any 2 n p m c v w2).mono ?_
  rintro e w3 ⟨rfl, ho3⟩
  have O3 := Lib.hid (O2.out.nil_trans ho3); have B3 := Lib.hid (ho3.got B2.out (by simp))
  clear ho3 B2 O2
  clear g0 g1 g2 g3 g4 g5 l0
  rw [show travB 2 = true by decide]
  have g0 := cell_got B3.out 0; have g1 := cell_got B3.out 1; have g2 := cell_got B3.out 2; have g3 := cell_got B3.out 3; have g4 := cell_got B3.out 4; have g5 := cell_got B3.out 5
  have l0 := got_lt B3.out
  go_wp2_with fail
  have z1 : ¬ 9223372036854775807 < S1.size + 1 := by omega
  have z2 : ¬ 9223372036854775807 < S1.size + 1 + Dp.size := by omega
  have z3 : ¬ 9223372036854775807 < S1.size + 1 + Dp.size + 1 := by omega
  have z4 : ¬ 9223372036854775807 < S1.size + 1 + Dp.size + 1 + Dm.size := by omega
  refine wp_region_grown [0, 1, 2, 3, 4, 5, 6, 7, 8, 9, 10, 11] [] (by kernel_rfl) (by kernel_rfl) ?_
  simp only [pick, List.map_cons, List.map_nil, List.getD_cons_succ, List.getD_cons_zero]
  iterate 4 (refine wpQuiet_step (fun K hK => ?_); go_simp; refine hK _ ?_; clear hK K)
  refine wpQuiet_enter rfl 47 #[.int .i64 p] (fun _ => by kernel_rfl) (.string Dp) (grown_only' fun w' _ => HCp.out w') ?_
  iterate 4 (refine wpQuiet_step (fun K hK => ?_); go_simp; refine hK _ ?_; clear hK K)
  refine wpQuiet_enter rfl 47 #[.int .i64 m] (fun _ => by kernel_rfl) (.string Dm) (grown_only' fun w' _ => HCm.out w') ?_
  iterate 2 (refine wpQuiet_step (fun K hK => ?_); go_simp; refine hK _ ?_; clear hK K)
  refine wpQuiet_nil ?_
  intro w4 hw4
  have O4 := Lib.hid (O3.out.nil_trans (only_of_plus hw4)); have B4 := Lib.hid ((only_of_plus hw4).got B3.out (by simp))
  clear hw4 B3 O3 z1 z2 z3 z4
  clear g0 g1 g2 g3 g4 g5 l0
  obtain ⟨S2, hS2⟩ : ∃ S, S = S1 ++ ⟨#[32]⟩ ++ Dp ++ ⟨#[32]⟩ ++ Dm := ⟨_, rfl⟩
  have hs2 : S2.size ≤ 80 := by rw [hS2]; have e32 : (⟨#[32]⟩ : ByteArray).size = 1 := rfl; simp only [ByteArray.size_append]; omega
  rw [← hS2]
  have HS2 := Lib.hid hS2; clear hS2
  have g0 := cell_got B4.out 0; have g1 := cell_got B4.out 1; have g2 := cell_got B4.out 2; have g3 := cell_got B4.out 3; have g4 := cell_got B4.out 4; have g5 := cell_got B4.out 5
  have l0 := got_lt B4.out
  have z1 : ¬ 9223372036854775807 < S2.size + 1 := by omega
  have z2 : ¬ 9223372036854775807 < S2.size + 1 + Dc.size := by omega
  go_wp2_with fail
  refine (HCc.out w4).mono ?_
  rintro e w5 ⟨rfl, ho5⟩
  have O5 := Lib.hid (O4.out.nil_trans ho5); have B5 := Lib.hid (ho5.got B4.out (by simp))
  clear ho5 B4 O4
  clear g0 g1 g2 g3 g4 g5 l0
  have g0 := cell_got B5.out 0; have g1 := cell_got B5.out 1; have g2 := cell_got B5.out 2; have g3 := cell_got B5.out 3; have g4 := cell_got B5.out 4; have g5 := cell_got B5.out 5
  have l0 := got_lt B5.out
  have z5 : ¬ 9223372036854775807 < S2.size + 1 + Dc.size + 1 := by omega
  go_wp2
  go_ret
  refine ⟨?_, O5.out⟩
  have hfin : S2 ++ ⟨#[32]⟩ ++ Dc ++ ⟨#[10]⟩ = bstr (lineT ⟨2, n, p, m, c, v⟩ ++ [10]) := by
    rw [HW.out, HS2.out, HS1.out, HN.out, HDn.out, HDp.out, HDm.out, HDc.out]
    rw [show (⟨#[32]⟩ : ByteArray) = bstr [32] from rfl, show (⟨#[10]⟩ : ByteArray) = bstr [10] from rfl]
    simp only [bstr_append]
    simp
  rw [← hfin]
  rfl
set_option maxRecDepth 100000 in
set_option maxHeartbeats 1000000 in
theorem rline_c (k n p m c v : Int) (w : World) (hr : rngOk ⟨k, n, p, m, c, v⟩) (hk : k = 3) :
    Calls Tryd.prog 35 #[.agg #[.int .i64 k, .int .i64 n, .int .i64 p, .int .i64 m, .int .i64 c, .int .i64 v]] w fun e w' => e = .returned (.string (bstr (lineT ⟨k, n, p, m, c, v⟩ ++ [10]))) ∧ Only [] w w' := by
  subst hk
  unfold rngOk at hr
  dsimp only at hr
  have hw : lineT ⟨3, n, p, m, c, v⟩ = wStep ++ 32 :: Lib.itoa n ++ 32 :: Lib.itoa c ++ 32 :: Lib.itoa v := by simp [lineT, wordsE, joinC]
  obtain ⟨N, hN⟩ : ∃ N, N = bstr wStep := ⟨_, rfl⟩
  have hNs : N.size ≤ 4 := by rw [hN]; exact Nat.le_refl _
  have hnm : ∀ w', Calls Tryd.prog 42 #[.int .i64 3] w' fun e w'' => e = .returned (.string N) ∧ Only [] w' w'' := fun w' => by rw [hN]; exact rname 3 (by decide) w'
  obtain ⟨Dn, hDn⟩ : ∃ X, X = bstr (Lib.itoa n) := ⟨_, rfl⟩
  have hsn : Dn.size ≤ 21 := by rw [hDn, bstr_size]; exact Lib.itoa_length_le n (by omega) (by omega)
  have hcn : ∀ w', Calls Tryd.prog 47 #[.int .i64 n] w' fun e w'' => e = .returned (.string Dn) ∧ Only [] w' w'' := fun w' => by rw [hDn]; exact rdecimal n ⟨by omega, by omega⟩ w'
  obtain ⟨Dc, hDc⟩ : ∃ X, X = bstr (Lib.itoa c) := ⟨_, rfl⟩
  have hsc : Dc.size ≤ 21 := by rw [hDc, bstr_size]; exact Lib.itoa_length_le c (by omega) (by omega)
  have hcc : ∀ w', Calls Tryd.prog 47 #[.int .i64 c] w' fun e w'' => e = .returned (.string Dc) ∧ Only [] w' w'' := fun w' => by rw [hDc]; exact rdecimal c ⟨by omega, by omega⟩ w'
  obtain ⟨Dv, hDv⟩ : ∃ X, X = bstr (Lib.itoa v) := ⟨_, rfl⟩
  have hsv : Dv.size ≤ 21 := by rw [hDv, bstr_size]; exact Lib.itoa_length_le v (by omega) (by omega)
  have hcv : ∀ w', Calls Tryd.prog 47 #[.int .i64 v] w' fun e w'' => e = .returned (.string Dv) ∧ Only [] w' w'' := fun w' => by rw [hDv]; exact rdecimal v ⟨by omega, by omega⟩ w'
  have HW := Lib.hid hw; have HN := Lib.hid hN; have HNM := Lib.hid hnm
  have HDn := Lib.hid hDn; have HCn := Lib.hid hcn; have HDc := Lib.hid hDc; have HCc := Lib.hid hcc; have HDv := Lib.hid hDv; have HCv := Lib.hid hcv
  clear hw hN hnm hr hDn hcn hDc hcc hDv hcv
  go_enter Tryd.func35, Tryd.ntmps35
  go_upto_region 1 with (fail)
  refine alloc_abs (G := fun w0 => Code.wp _ _ _ _ w0) ?_
  intro w1 hb1 ho1 hs1
  have B1 := Lib.hid hb1; have O1 := Lib.hid ho1
  clear hb1 ho1 hs1
  have g0 := cell_got B1.out 0; have g1 := cell_got B1.out 1; have g2 := cell_got B1.out 2; have g3 := cell_got B1.out 3; have g4 := cell_got B1.out 4; have g5 := cell_got B1.out 5
  have l0 := got_lt B1.out
  have z1 : ¬ 9223372036854775807 < N.size + 1 := by omega
  have z2 : ¬ 9223372036854775807 < N.size + 1 + Dn.size := by omega
  refine wp_region_grown [0, 1, 2, 3, 4, 5, 6, 7, 8] [] (by kernel_rfl) (by kernel_rfl) ?_
  simp only [pick, List.map_cons, List.map_nil, List.getD_cons_succ, List.getD_cons_zero]
  iterate 2 (refine wpQuiet_step (fun K hK => ?_); go_simp; refine hK _ ?_; clear hK K)
  refine wpQuiet_enter rfl 42 #[.int .i64 3] (fun _ => by kernel_rfl) (.string N) (grown_only' fun w' _ => HNM.out w') ?_
  iterate 3 (refine wpQuiet_step (fun K hK => ?_); go_simp; refine hK _ ?_; clear hK K)
  refine wpQuiet_enter rfl 47 #[.int .i64 n] (fun _ => by kernel_rfl) (.string Dn) (grown_only' fun w' _ => HCn.out w') ?_
  iterate 2 (refine wpQuiet_step (fun K hK => ?_); go_simp; refine hK _ ?_; clear hK K)
  refine wpQuiet_nil ?_
  intro w2 hw2
  have O2 := Lib.hid (O1.out.nil_trans (only_of_plus hw2)); have B2 := Lib.hid ((only_of_plus hw2).got B1.out (by simp))
  clear hw2 B1 O1 z1 z2
  clear g0 g1 g2 g3 g4 g5 l0
  obtain ⟨S1, hS1⟩ : ∃ S, S = N ++ ⟨#[32]⟩ ++ Dn := ⟨_, rfl⟩
  have hs1 : S1.size ≤ 30 := by rw [hS1]; have e32 : (⟨#[32]⟩ : ByteArray).size = 1 := rfl; simp only [ByteArray.size_append]; omega
  rw [← hS1]
  have HS1 := Lib.hid hS1; clear hS1
  have g0 := cell_got B2.out 0; have g1 := cell_got B2.out 1; have g2 := cell_got B2.out 2; have g3 := cell_got B2.out 3; have g4 := cell_got B2.out 4; have g5 := cell_got B2.out 5
  have l0 := got_lt B2.out
  go_wp2_with fail
  refine (trav_any 3 n p m c v w2).mono ?_
  rintro e w3 ⟨rfl, ho3⟩
  have O3 := Lib.hid (O2.out.nil_trans ho3); have B3 := Lib.hid (ho3.got B2.out (by simp))
  clear ho3 B2 O2
  clear g0 g1 g2 g3 g4 g5 l0
  rw [show travB 3 = false by decide]
  have g0 := cell_got B3.out 0; have g1 := cell_got B3.out 1; have g2 := cell_got B3.out 2; have g3 := cell_got B3.out 3; have g4 := cell_got B3.out 4; have g5 := cell_got B3.out 5
  have l0 := got_lt B3.out
  have z1 : ¬ 9223372036854775807 < S1.size + 1 := by omega
  have z2 : ¬ 9223372036854775807 < S1.size + 1 + Dc.size := by omega
  go_wp2_with fail
  refine (HCc.out w3).mono ?_
  rintro e w5 ⟨rfl, ho5⟩
  have O5 := Lib.hid (O3.out.nil_trans ho5); have B5 := Lib.hid (ho5.got B3.out (by simp))
  clear ho5 B3 O3
  clear g0 g1 g2 g3 g4 g5 l0
  have g0 := cell_got B5.out 0; have g1 := cell_got B5.out 1; have g2 := cell_got B5.out 2; have g3 := cell_got B5.out 3; have g4 := cell_got B5.out 4; have g5 := cell_got B5.out 5
  have l0 := got_lt B5.out
  have z3 : ¬ 9223372036854775807 < S1.size + 1 + Dc.size + 1 := by omega
  have z4 : ¬ 9223372036854775807 < S1.size + 1 + Dc.size + 1 + Dv.size := by omega
  go_wp2_with fail
  refine (HCv.out w5).mono ?_
  rintro e w6 ⟨rfl, ho6⟩
  have O6 := Lib.hid (O5.out.nil_trans ho6); have B6 := Lib.hid (ho6.got B5.out (by simp))
  clear ho6 B5 O5
  clear g0 g1 g2 g3 g4 g5 l0
  have z5 : ¬ 9223372036854775807 < S1.size + 1 + Dc.size + 1 + Dv.size + 1 := by omega
  go_wp2
  go_ret
  refine ⟨?_, O6.out⟩
  have hfin : S1 ++ ⟨#[32]⟩ ++ Dc ++ ⟨#[32]⟩ ++ Dv ++ ⟨#[10]⟩ = bstr (lineT ⟨3, n, p, m, c, v⟩ ++ [10]) := by
    rw [HW.out, HS1.out, HN.out, HDn.out, HDc.out, HDv.out]
    rw [show (⟨#[32]⟩ : ByteArray) = bstr [32] from rfl, show (⟨#[10]⟩ : ByteArray) = bstr [10] from rfl]
    simp only [bstr_append]
    simp
  rw [← hfin]
  rfl
set_option maxRecDepth 100000 in
set_option maxHeartbeats 1000000 in
theorem rline_d (k n p m c v : Int) (w : World) (hr : rngOk ⟨k, n, p, m, c, v⟩) (hk : k = 4) :
    Calls Tryd.prog 35 #[.agg #[.int .i64 k, .int .i64 n, .int .i64 p, .int .i64 m, .int .i64 c, .int .i64 v]] w fun e w' => e = .returned (.string (bstr (lineT ⟨k, n, p, m, c, v⟩ ++ [10]))) ∧ Only [] w w' := by
  subst hk
  unfold rngOk at hr
  dsimp only at hr
  have hw : lineT ⟨4, n, p, m, c, v⟩ = wMark ++ 32 :: Lib.itoa n ++ 32 :: Lib.itoa c := by simp [lineT, wordsE, joinC]
  obtain ⟨N, hN⟩ : ∃ N, N = bstr wMark := ⟨_, rfl⟩
  have hNs : N.size ≤ 4 := by rw [hN]; exact Nat.le_refl _
  have hnm : ∀ w', Calls Tryd.prog 42 #[.int .i64 4] w' fun e w'' => e = .returned (.string N) ∧ Only [] w' w'' := fun w' => by rw [hN]; exact rname 4 (by decide) w'
  obtain ⟨Dn, hDn⟩ : ∃ X, X = bstr (Lib.itoa n) := ⟨_, rfl⟩
  have hsn : Dn.size ≤ 21 := by rw [hDn, bstr_size]; exact Lib.itoa_length_le n (by omega) (by omega)
  have hcn : ∀ w', Calls Tryd.prog 47 #[.int .i64 n] w' fun e w'' => e = .returned (.string Dn) ∧ Only [] w' w'' := fun w' => by rw [hDn]; exact rdecimal n ⟨by omega, by omega⟩ w'
  obtain ⟨Dc, hDc⟩ : ∃ X, X = bstr (Lib.itoa c) := ⟨_, rfl⟩
  have hsc : Dc.size ≤ 21 := by rw [hDc, bstr_size]; exact Lib.itoa_length_le c (by omega) (by omega)
  have hcc : ∀ w', Calls Tryd.prog 47 #[.int .i64 c] w' fun e w'' => e = .returned (.string Dc) ∧ Only [] w' w'' := fun w' => by rw [hDc]; exact rdecimal c ⟨by omega, by omega⟩ w'
  have HW := Lib.hid hw; have HN := Lib.hid hN; have HNM := Lib.hid hnm
  have HDn := Lib.hid hDn; have HCn := Lib.hid hcn; have HDc := Lib.hid hDc; have HCc := Lib.hid hcc
  clear hw hN hnm hr hDn hcn hDc hcc
  go_enter Tryd.func35, Tryd.ntmps35
  go_upto_region 1 with (fail)
  refine alloc_abs (G := fun w0 => Code.wp _ _ _ _ w0) ?_
  intro w1 hb1 ho1 hs1
  have B1 := Lib.hid hb1; have O1 := Lib.hid ho1
  clear hb1 ho1 hs1
  have g0 := cell_got B1.out 0; have g1 := cell_got B1.out 1; have g2 := cell_got B1.out 2; have g3 := cell_got B1.out 3; have g4 := cell_got B1.out 4; have g5 := cell_got B1.out 5
  have l0 := got_lt B1.out
  have z1 : ¬ 9223372036854775807 < N.size + 1 := by omega
  have z2 : ¬ 9223372036854775807 < N.size + 1 + Dn.size := by omega
  refine wp_region_grown [0, 1, 2, 3, 4, 5, 6, 7, 8] [] (by kernel_rfl) (by kernel_rfl) ?_
  simp only [pick, List.map_cons, List.map_nil, List.getD_cons_succ, List.getD_cons_zero]
  iterate 2 (refine wpQuiet_step (fun K hK => ?_); go_simp; refine hK _ ?_; clear hK K)
  refine wpQuiet_enter rfl 42 #[.int .i64 4] (fun _ => by kernel_rfl) (.string N) (grown_only' fun w' _ => HNM.out w') ?_
  iterate 3 (refine wpQuiet_step (fun K hK => ?_); go_simp; refine hK _ ?_; clear hK K)
  refine wpQuiet_enter rfl 47 #[.int .i64 n] (fun _ => by kernel_rfl) (.string Dn) (grown_only' fun w' _ => HCn.out w') ?_
  iterate 2 (refine wpQuiet_step (fun K hK => ?_); go_simp; refine hK _ ?_; clear hK K)
  refine wpQuiet_nil ?_
  intro w2 hw2
  have O2 := Lib.hid (O1.out.nil_trans (only_of_plus hw2)); have B2 := Lib.hid ((only_of_plus hw2).got B1.out (by simp))
  clear hw2 B1 O1 z1 z2
  clear g0 g1 g2 g3 g4 g5 l0
  obtain ⟨S1, hS1⟩ : ∃ S, S = N ++ ⟨#[32]⟩ ++ Dn := ⟨_, rfl⟩
  have hs1 : S1.size ≤ 30 := by rw [hS1]; have e32 : (⟨#[32]⟩ : ByteArray).size = 1 := rfl; simp only [ByteArray.size_append]; omega
  rw [← hS1]
  have HS1 := Lib.hid hS1; clear hS1
  have g0 := cell_got B2.out 0; have g1 := cell_got B2.out 1; have g2 := cell_got B2.out 2; have g3 := cell_got B2.out 3; have g4 := cell_got B2.out 4; have g5 := cell_got B2.out 5
  have l0 := got_lt B2.out
  go_wp2_with fail
  refine (trav_any 4 n p m c v w2).mono ?_
  rintro e w3 ⟨rfl, ho3⟩
  have O3 := Lib.hid (O2.out.nil_trans ho3); have B3 := Lib.hid (ho3.got B2.out (by simp))
  clear ho3 B2 O2
  clear g0 g1 g2 g3 g4 g5 l0
  rw [show travB 4 = false by decide]
  have g0 := cell_got B3.out 0; have g1 := cell_got B3.out 1; have g2 := cell_got B3.out 2; have g3 := cell_got B3.out 3; have g4 := cell_got B3.out 4; have g5 := cell_got B3.out 5
  have l0 := got_lt B3.out
  have z1 : ¬ 9223372036854775807 < S1.size + 1 := by omega
  have z2 : ¬ 9223372036854775807 < S1.size + 1 + Dc.size := by omega
  go_wp2_with fail
  refine (HCc.out w3).mono ?_
  rintro e w5 ⟨rfl, ho5⟩
  have O5 := Lib.hid (O3.out.nil_trans ho5); have B5 := Lib.hid (ho5.got B3.out (by simp))
  clear ho5 B3 O3
  clear g0 g1 g2 g3 g4 g5 l0
  have g0 := cell_got B5.out 0; have g1 := cell_got B5.out 1; have g2 := cell_got B5.out 2; have g3 := cell_got B5.out 3; have g4 := cell_got B5.out 4; have g5 := cell_got B5.out 5
  have l0 := got_lt B5.out
  have z5 : ¬ 9223372036854775807 < S1.size + 1 + Dc.size + 1 := by omega
  go_wp2
  go_ret
  refine ⟨?_, O5.out⟩
  have hfin : S1 ++ ⟨#[32]⟩ ++ Dc ++ ⟨#[10]⟩ = bstr (lineT ⟨4, n, p, m, c, v⟩ ++ [10]) := by
    rw [HW.out, HS1.out, HN.out, HDn.out, HDc.out]
    rw [show (⟨#[32]⟩ : ByteArray) = bstr [32] from rfl, show (⟨#[10]⟩ : ByteArray) = bstr [10] from rfl]
    simp only [bstr_append]
    simp
  rw [← hfin]
  rfl
theorem rline (e : En) (w : World) (he : eChk e = 0) :
    Calls Tryd.prog 35 #[.agg #[.int .i64 e.k, .int .i64 e.n, .int .i64 e.p, .int .i64 e.m, .int .i64 e.c, .int .i64 e.v]] w fun r w' => r = .returned (.string (bstr (lineT e ++ [10]))) ∧ Only [] w w' := by
  obtain ⟨k, n, p, m, c, v⟩ := e
  unfold eChk at he
  split at he
  · cases he
  · rename_i hk
    split at he
    · cases he
    · rename_i hr
      have hr := Classical.not_not.1 hr
      dsimp only at hk ⊢
      rcases (show k = 1 ∨ k = 2 ∨ k = 3 ∨ k = 4 by omega) with h | h | h | h
      · exact rline_a k n p m c v w hr h
      · exact rline_b k n p m c v w hr h
      · exact rline_c k n p m c v w hr h
      · exact rline_d k n p m c v w hr h
def RTxt (w : World) (l : List En) (v4 v5 : Value) (wr : World) : Prop :=
  ∃ k : Nat, k ≤ l.length ∧ v5 = .int .i64 k ∧ v4 = .string (bstr (textL (l.take k))) ∧ Only [] w wr

set_option maxRecDepth 100000 in
set_option maxHeartbeats 2000000 in
theorem Rtext {w : World} {p : Option Addr} {n cap : Nat} {l : List En} (hv : VRow enC 6 w p n cap l) (hn : n ≤ 100000) :
    Calls Tryd.prog 20 #[.slice p n cap] w fun e w' => e = .returned (.tuple #[.string (bstr (txtR l).1), .int .i64 (txtR l).2]) ∧ Only [] w w' := by
  have hl := hv.len
  subst hl
  have HV := Lib.hid hv; clear hv
  go_enter Tryd.func20, Tryd.ntmps20
  go_wp2_with fail
  refine (Rcheck HV.out hn).mono ?_
  rintro r w1 ⟨rfl, ho1⟩
  have O1 := Lib.hid ho1; clear ho1
  by_cases h0 : logE l = 0
  · have HR : Hid (txtR l = (textL l, 0)) := Lib.hid (by unfold txtR; rw [if_pos h0])
    have HC := Lib.hid (logE_zero.1 h0).2.1
    rw [h0]
    clear h0
    go_wp2
    go_loopw [4, 5] (fun v4 v5 wr => RTxt w l v4 v5 wr) (fun _ v5 _ => l.length - (intOf v5).toNat)
    case atStart => exact ⟨0, Nat.zero_le _, rfl, rfl, O1.out⟩
    case round =>
      obtain ⟨k, hk, rfl, rfl, ho⟩ := hrel
      have OO := Lib.hid ho
      clear ho
      by_cases hlt : k < l.length
      · obtain ⟨bb, off, hp, hb, hcl⟩ := HV.out.cell k l[k] (List.getElem?_eq_getElem hlt)
        subst hp
        have hle := OO.out.size
        have hb' : bb < wr.heap.size := by omega
        have hec := HC.out l[k] (List.getElem_mem hlt)
        have htk : textL (l.take (k + 1)) = textL (l.take k) ++ (lineT l[k] ++ [10]) := by rw [List.take_succ_eq_append_getElem hlt, textL_snoc]
        have htl := text_len (l := l.take k) (fun x hx => HC.out x (List.mem_of_mem_take hx))
        have hlk : (l.take k).length = k := by rw [List.length_take]; omega
        rw [hlk] at htl
        generalize l[k] = e at hcl hec htk
        have c0 : wr.cell? ⟨bb, off + k * 6, none⟩ = some (.int .i64 e.k) := by rw [OO.out.cell hb (by simp)]; exact hcl 0 _ rfl
        have c1 : wr.cell? ⟨bb, off + k * 6 + 1, none⟩ = some (.int .i64 e.n) := by rw [OO.out.cell hb (by simp)]; exact hcl 1 _ rfl
        have c2 : wr.cell? ⟨bb, off + k * 6 + 2, none⟩ = some (.int .i64 e.p) := by rw [OO.out.cell hb (by simp)]; exact hcl 2 _ rfl
        have c3 : wr.cell? ⟨bb, off + k * 6 + 3, none⟩ = some (.int .i64 e.m) := by rw [OO.out.cell hb (by simp)]; exact hcl 3 _ rfl
        have c4 : wr.cell? ⟨bb, off + k * 6 + 4, none⟩ = some (.int .i64 e.c) := by rw [OO.out.cell hb (by simp)]; exact hcl 4 _ rfl
        have c5 : wr.cell? ⟨bb, off + k * 6 + 5, none⟩ = some (.int .i64 e.v) := by rw [OO.out.cell hb (by simp)]; exact hcl 5 _ rfl
        have hln := fun w' => rline e w' hec
        have hll := line_len hec
        obtain ⟨X, hX⟩ : ∃ X, X = bstr (lineT e ++ [10]) := ⟨_, rfl⟩
        obtain ⟨Y, hY⟩ : ∃ Y, Y = bstr (textL (l.take k)) := ⟨_, rfl⟩
        have hXs : X.size ≤ 101 := by rw [hX, bstr_size]; simp; omega
        have hYs : Y.size ≤ 101 * k := by rw [hY, bstr_size]; exact htl
        have HXY : Hid (Y ++ X = bstr (textL (l.take (k + 1)))) := Lib.hid (by rw [hX, hY, bstr_append, htk])
        rw [← hX] at hln
        rw [← hY]
        have HLN := Lib.hid hln
        clear hln hcl htk hec hlk hX hY
        have z1 : ¬ 9223372036854775807 < Y.size + X.size := by omega
        have hkl : (k : Int) < (l.length : Int) := by omega
        go_wp2_with fail
        refine (HLN.out wr).mono ?_
        rintro e' w2 ⟨rfl, ho2⟩
        have O2 := Lib.hid (OO.out.nil_trans ho2)
        clear ho2 c0 c1 c2 c3 c4 c5
        go_wp2
        go_roundw
        case rel => exact ⟨k + 1, by omega, by go_num, by rw [HXY.out], O2.out⟩
        case measure => simp [intOf]; omega
      · obtain rfl : k = l.length := by omega
        rw [List.take_of_length_le (Nat.le_refl _)]
        go_wp2
        go_ret2
        exact ⟨by rw [HR.out]; rfl, OO.out⟩
  · have b1 : (logE l == 0) = false := by simp [h0]
    have b2 : (logE l != 0) = true := by simp [h0]
    have HR : Hid (txtR l = ([], 2)) := Lib.hid (by unfold txtR; rw [if_neg h0])
    clear h0
    go_wp2
    go_ret2
    exact ⟨by rw [HR.out]; rfl, O1.out⟩
end Go.Proofs.YtdpfbedcejahjaaDoor
