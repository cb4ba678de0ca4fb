/- The reference's Check of a leap table. Condition: the length. -/
import Derived.Test.YtnfejojakikeeaaGreatDoorQ5
namespace Go.Proofs.YtnfejojakikeeaaGreatDoor
open Go.RowKit

theorem VRow.pt {w wr : World} {cap : Nat} {p : Option Addr} {es : List Le} {k : Nat} (hv : VRow leC 2 w p es.length cap es) (ho : Only [] w wr) (hk : k < es.length) :
    ∃ bk off, p = some ⟨bk, off, none⟩ ∧ wr.cell? ⟨bk, off + k * 2, none⟩ = some (.int .i64 (es.getD k ⟨0, 0⟩).a) ∧ wr.cell? ⟨bk, off + k * 2 + 1, none⟩ = some (.int .i64 (es.getD k ⟨0, 0⟩).o) ∧ bk < wr.heap.size := by
  obtain ⟨bk, off, hp⟩ := hv.ptr hk
  obtain ⟨h1, h2, h3⟩ := hv.ent ho hp hk
  exact ⟨bk, off, hp, h1, h2, h3⟩
set_option maxRecDepth 100000 in
set_option maxHeartbeats 4000000 in
theorem rCheck {w : World} {p : Option Addr} {n cap : Nat} {es : List Le} (b x : Int) (hv : VRow leC 2 w p n cap es) (hn : n ≤ 100000) :
    Calls Tryz.prog 9 #[.agg #[.int .i64 b, .int .i64 x, .slice p n cap]] w fun e w' => e = .returned (.int .i64 (chkT b x es)) ∧ Only [] w w' := by
  have hl := hv.len
  subst hl
  have HV := Lib.hid hv; clear hv
  go_enter Tryz.func9, Tryz.ntmps9
  go_upto_region 1 with (fail)
  refine alloc_abs (G := fun w0 => Code.wp _ _ _ _ w0) ?_
  intro w1 hb1 ho1 hs1
  have B1 := Lib.hid hb1; have O1 := Lib.hid ho1
  clear hb1 ho1 hs1
  have g0 := cell_got B1.out 0; have g1 := cell_got B1.out 1; have g2 := cell_got B1.out 2
  have l0 := got_lt B1.out
  by_cases h64 : 64 < es.length
  · have d1 : decide ((es.length : Int) > 64) = true := by simp; omega
    have d2 : decide (64 < (es.length : Int)) = true := by simp; omega
    have HR : Hid (chkT b x es = 6) := Lib.hid (by unfold chkT; rw [if_pos h64])
    go_wp2
    go_ret
    exact ⟨by rw [HR.out]; rfl, O1.out⟩
  · have d1 : decide ((es.length : Int) > 64) = false := by simp; omega
    have d2 : decide (64 < (es.length : Int)) = false := by simp; omega
    by_cases hb : inM b 1000 = true
    · have hwb := rin b 1000 w1 (by omega) (by omega)
      rw [hb] at hwb
      by_cases hx : inM x 8000000000 = true
      · have hwx := rin x 8000000000 w1 (by omega) (by omega)
        rw [hx] at hwx
        have HR : Hid (chkT b x es = if rngE es = true then scanE b es es.length 0 else 3) := Lib.hid (by unfold chkT; rw [if_neg h64, if_pos ⟨hb, hx⟩])
        have HWB := Lib.hid hwb; have HWX := Lib.hid hwx; have HIB := Lib.hid hb
        clear hwb hwx hb hx d1 d2
        go_wp2_with fail
        refine HWB.out.mono ?_
        rintro e w' ⟨rfl, rfl⟩
        go_wp2_with fail
        refine HWX.out.mono ?_
        rintro e w' ⟨rfl, rfl⟩
        go_wp2
        go_loopw [3] (fun vi wr => RngR w1 es vi wr) (fun vi _ => es.length - (intOf vi).toNat)
        case atStart => exact ⟨0, Nat.zero_le _, rfl, rfl, Only.refl _ _⟩
        case round =>
          obtain ⟨k, hk, rfl, hrg, ho⟩ := hrel
          have HG := Lib.hid hrg; have OO := Lib.hid ho
          clear hrg ho g0 g1 g2 l0
          have BO := Lib.hid (OO.out.got B1.out (by simp))
          have g0 := cell_got BO.out 0; have g1 := cell_got BO.out 1; have g2 := cell_got BO.out 2
          have l0 := got_lt BO.out
          have OA := Lib.hid (O1.out.nil_trans OO.out)
          by_cases hlt : k < es.length
          · obtain ⟨bk, off, hp, c0, c1, lb⟩ := HV.out.pt OA.out hlt
            subst hp
            have hgk : es[k]? = some (es.getD k ⟨0, 0⟩) := by simp [List.getD_eq_getElem?_getD, hlt]
            have htk : es.take (k + 1) = es.take k ++ [es.getD k ⟨0, 0⟩] := by rw [List.take_add_one, hgk]; rfl
            have hmem := List.mem_of_getElem? hgk
            generalize es.getD k ⟨0, 0⟩ = e at c0 c1 htk hmem
            have HTK := Lib.hid htk; have HME := Lib.hid hmem
            clear hgk htk hmem
            have hkl : (k : Int) < (es.length : Int) := by omega
            have q1 : decide ((k : Int) < (es.length : Int)) = true := by simp [hlt]
            by_cases ha' : inM e.a 8000000000 = true
            · by_cases ho' : inM e.o 1000 = true
              · have HN : Hid (rngE (es.take (k + 1)) = true) := Lib.hid (by rw [HTK.out]; unfold rngE; rw [List.all_append]; have := HG.out; unfold rngE at this; simp [this, ho', ha'])
                have h1 := rin e.o 1000 wr (by omega) (by omega)
                have h2 := rin e.a 8000000000 wr (by omega) (by omega)
                rw [ho'] at h1; rw [ha'] at h2
                have H1 := Lib.hid h1; have H2 := Lib.hid h2
                clear h1 h2 ho' ha'
                go_wp2_with fail
                refine H2.out.mono ?_
                rintro e w' ⟨rfl, rfl⟩
                go_wp2_with fail
                refine H1.out.mono ?_
                rintro e w' ⟨rfl, rfl⟩
                go_wp2
                go_roundw
                case rel => exact ⟨k + 1, by omega, by go_num, HN.out, OO.out⟩
                case measure => simp [intOf]; omega
              · have ho2 : inM e.o 1000 = false := by simpa using ho'
                have HN : Hid (chkT b x es = 3) := Lib.hid (by rw [HR.out, if_neg]; intro q; unfold rngE at q; have := List.all_eq_true.1 q e HME.out; simp [ho2] at this)
                have h1 := rin e.o 1000 wr (by omega) (by omega)
                have h2 := rin e.a 8000000000 wr (by omega) (by omega)
                rw [ho2] at h1; rw [ha'] at h2
                have H1 := Lib.hid h1; have H2 := Lib.hid h2
                clear h1 h2 ho' ha' ho2
                go_wp2_with fail
                refine H2.out.mono ?_
                rintro e w' ⟨rfl, rfl⟩
                go_wp2_with fail
                refine H1.out.mono ?_
                rintro e w' ⟨rfl, rfl⟩
                go_wp2
                go_ret
                exact ⟨by rw [HN.out]; rfl, OA.out⟩
            · have ha2 : inM e.a 8000000000 = false := by simpa using ha'
              have HN : Hid (chkT b x es = 3) := Lib.hid (by rw [HR.out, if_neg]; intro q; unfold rngE at q; have := List.all_eq_true.1 q e HME.out; simp [ha2] at this)
              have h2 := rin e.a 8000000000 wr (by omega) (by omega)
              rw [ha2] at h2
              have H2 := Lib.hid h2
              clear h2 ha' ha2
              go_wp2_with fail
              refine H2.out.mono ?_
              rintro e w' ⟨rfl, rfl⟩
              go_wp2
              go_ret
              exact ⟨by rw [HN.out]; rfl, OA.out⟩
          · have hrg : rngE es = true := by have := HG.out; rwa [List.take_of_length_le (by omega)] at this
            have HN : Hid (chkT b x es = scanE b es es.length 0) := Lib.hid (by rw [HR.out, if_pos hrg])
            have hall : ∀ e ∈ es, inM e.o 1000 = true ∧ inM e.a 8000000000 = true := fun e he => by
              unfold rngE at hrg
              have := List.all_eq_true.1 hrg e he
              simpa using this
            have HAL := Lib.hid hall
            have q1 : decide ((k : Int) < (es.length : Int)) = false := by simp; omega
            clear hrg hall HG
            obtain ⟨wo, hwo⟩ : ∃ wo : World, wo = wr := ⟨_, rfl⟩
            subst hwo
            go_wp2
            go_loopw [4] (fun vi wr => ScnR wo b es vi wr) (fun vi _ => es.length - (intOf vi).toNat)
            case atStart => exact ⟨0, Nat.zero_le _, rfl, rfl, Only.refl _ _⟩
            case round =>
              clear hlt g0 g1 g2 l0 q1
              obtain ⟨k, hk, rfl, hsc, ho⟩ := hrel
              have HS := Lib.hid hsc; have O3 := Lib.hid ho
              have BP := Lib.hid (ho.got BO.out (by simp))
              clear hsc ho
              have OB := Lib.hid (OA.out.nil_trans O3.out)
              have g0 := cell_got BP.out 0; have g1 := cell_got BP.out 1; have g2 := cell_got BP.out 2
              have l0 := got_lt BP.out
              by_cases hlt : k < es.length
              · obtain ⟨bk, off, hp, c0, c1, lb⟩ := HV.out.pt OB.out hlt
                subst hp
                have hgk : es[k]? = some (es.getD k ⟨0, 0⟩) := by simp [List.getD_eq_getElem?_getD, hlt]
                obtain ⟨io, ia⟩ := HAL.out _ (List.mem_of_getElem? hgk)
                have iab := inM_t.1 ia; have iob := inM_t.1 io
                have hst : scanE b es es.length 0 = if mst (es.getD k ⟨0, 0⟩).a = false then 7 else if 0 < k ∧ (es.getD k ⟨0, 0⟩).a ≤ prvA es k then 12 else if (es.getD k ⟨0, 0⟩).o - prvO b es k = 1 ∨ (es.getD k ⟨0, 0⟩).o - prvO b es k = -1 then scanE b es (es.length - (k + 1)) (k + 1) else 3 := by
                  rw [HS.out, show es.length - k = (es.length - (k + 1)) + 1 by omega]; rfl
                have hpv : -1000 ≤ prvO b es k ∧ prvO b es k ≤ 1000 := by
                  unfold prvO
                  split
                  · exact inM_t.1 HIB.out
                  · have hg1 : es[k - 1]? = some (es.getD (k - 1) ⟨0, 0⟩) := by simp [List.getD_eq_getElem?_getD, show k - 1 < es.length by omega]
                    exact inM_t.1 (HAL.out _ (List.mem_of_getElem? hg1)).1
                have hmo := fun w' => rbegins (es.getD k ⟨0, 0⟩).a w' iab.1 iab.2
                have hold := fun w' (ho' : Only [] w w') => rold b x (HV.out.kept ho') hn k hlt
                generalize es.getD k ⟨0, 0⟩ = e at c0 c1 hst hmo iob
                obtain ⟨ms, hms⟩ : ∃ ms, ms = mst e.a := ⟨_, rfl⟩
                rw [← hms] at hst hmo
                obtain ⟨pv, hpvv⟩ : ∃ pv, pv = prvO b es k := ⟨_, rfl⟩
                rw [← hpvv] at hst hold hpv
                have HST := Lib.hid hst; have HMO := Lib.hid hmo; have HOL := Lib.hid hold
                clear hst hmo hold hms hpvv hgk io ia HS iab
                have hkl : (k : Int) < (es.length : Int) := by omega
                have q1 : decide ((k : Int) < (es.length : Int)) = true := by simp [hlt]
                go_wp2_with fail
                refine alloc_abs (G := fun w0 => Calls _ _ _ w0 _) ?_
                intro w2 hb2 ho2 hs2
                have E2 := Lib.hid hb2; have O4 := Lib.hid (O3.out.nil_trans ho2); have OC := Lib.hid (OB.out.nil_trans ho2); have BQ := Lib.hid (ho2.got BP.out (by simp))
                clear hb2 ho2 hs2 c0 c1 lb g0 g1 g2 l0
                refine (HMO.out w2).mono ?_
                rintro e' w3 ⟨rfl, ho3⟩
                have E3 := Lib.hid (ho3.got E2.out (by simp)); have O5 := Lib.hid (O4.out.nil_trans ho3); have OD := Lib.hid (OC.out.nil_trans ho3); have BR := Lib.hid (ho3.got BQ.out (by simp))
                clear ho3 E2 O4 OC BQ HMO
                cases ms with
                | false =>
                  have HX : Hid (chkT b x es = 7) := Lib.hid (by rw [HN.out, HST.out]; rfl)
                  go_wp2
                  go_ret
                  exact ⟨by rw [HX.out]; rfl, OD.out⟩
                | true =>
                  have g0 := cell_got BR.out 0; have g1 := cell_got BR.out 1; have g2 := cell_got BR.out 2
                  have l0 := got_lt BR.out
                  have e0 := cell_got E3.out 0; have e1 := cell_got E3.out 1
                  have le := got_lt E3.out
                  by_cases hor : 0 < k ∧ e.a ≤ prvA es k
                  · have HX : Hid (chkT b x es = 12) := Lib.hid (by rw [HN.out, HST.out, if_neg (by simp), if_pos hor])
                    obtain ⟨p0, p1, lb⟩ := HV.out.ent OD.out rfl (show k - 1 < es.length by omega)
                    obtain ⟨hk0, hle⟩ := hor
                    unfold prvA at hle
                    generalize (es.getD (k - 1) ⟨0, 0⟩).a = pa at p0 hle
                    clear p1
                    have k1 : decide (0 < (k : Int)) = true := by simp; omega
                    have k2 : decide ((k : Int) > 0) = true := by simp; omega
                    have k2b : decide (0 < k) = true := by simp; omega
                    have k3 : decide (e.a ≤ pa) = true := by simp [hle]
                    have hi1 : (1 : Int) ≤ (k : Int) := by omega
                    have hi2 : (k : Int) - 1 < (es.length : Int) := by omega
                    have hi3 : IntKind.i64.wrap ((k : Int) - 1) = (k : Int) - 1 := IntWalk.i64_in _ (by omega)
                    have hi4 : ((k : Int) - 1).toNat = k - 1 := by omega
                    go_wp2_with fail
                    go_quiet (fail)
                    go_wp2
                    go_ret
                    exact ⟨by rw [HX.out]; rfl, OD.out.nil_trans (only_dr2 _ _)⟩
                  · have HST2 : Hid (scanE b es es.length 0 = if e.o - pv = 1 ∨ e.o - pv = -1 then scanE b es (es.length - (k + 1)) (k + 1) else 3) := Lib.hid (by rw [HST.out, if_neg (by simp), if_neg hor])
                    clear HST
                    by_cases hk0 : k = 0
                    · have k1 : decide (0 < (k : Int)) = false := by simp; omega
                      have k2 : decide ((k : Int) > 0) = false := by simp; omega
                      have k2b : decide (0 < k) = false := by simp; omega
                      clear hor hk0
                      go_wp2_with fail
                      go_quiet (fail)
                      refine wabs (G := Exit.then _ _ _ _) (fun w' => Only [] w3 w') (only_dr2 _ _) ?_
                      intro w4 ho4
                      have O6 := Lib.hid (O5.out.nil_trans ho4); have OE := Lib.hid (OD.out.nil_trans ho4); have BS := Lib.hid (ho4.got BR.out (by simp)); have E4 := Lib.hid (ho4.got E3.out (by simp))
                      clear ho4 g0 g1 g2 l0 e0 e1 le
                      have g0 := cell_got BS.out 0; have g1 := cell_got BS.out 1; have g2 := cell_got BS.out 2; have l0 := got_lt BS.out
                      have e0 := cell_got E4.out 0; have e1 := cell_got E4.out 1; have le := got_lt E4.out
                      obtain ⟨pv0, pv1⟩ := hpv
                      obtain ⟨io0, io1⟩ := iob
                      have wp1 : IntKind.i64.wrap (pv + 1) = pv + 1 := IntWalk.i64_in _ (by omega)
                      have wp2 : IntKind.i64.wrap (pv - 1) = pv - 1 := IntWalk.i64_in _ (by omega)
                      by_cases s1 : e.o = pv + 1
                      · have q2 : (e.o != pv + 1) = false := by simp [s1]
                        have q2b : decide (e.o = pv + 1) = true := by simp [s1]
                        have q2c : (e.o == pv + 1) = true := by simp [s1]
                        have HX : Hid (scanE b es es.length 0 = scanE b es (es.length - (k + 1)) (k + 1)) := Lib.hid (by rw [HST2.out, if_pos (.inl (by omega))])
                        clear s1
                        go_wp2_with fail
                        refine wp_region_grown [0, 1, 2, 3, 4, 5, 6, 7, 8, 9, 10, 11, 12, 13, 14, 15, 16] [] (by kernel_rfl) (by kernel_rfl) ?_
                        simp only [pick, List.map_cons, List.map_nil, List.getD_cons_succ, List.getD_cons_zero]
                        iterate 1 (refine wpQuiet_step (fun K hK => ?_); go_simp; refine hK _ ?_; clear hK K)
                        repeat (go_big_quiet_step (fail))
                        refine wpQuiet_enter_w (by kernel_rfl) 27 #[.agg #[.int .i64 b, .int .i64 x, .slice (some ⟨bk, off, none⟩) es.length cap], .int .i64 k] (fun _ => by kernel_rfl) (.int .i64 pv) (grown_only2 fun w' ho' => HOL.out w' (OE.out.nil_trans ho')) ?_
                        iterate 3 (refine wpQuiet_step (fun K hK => ?_); go_simp; refine hK _ ?_; clear hK K)
                        repeat (go_big_quiet_step (fail))
                        refine wpQuiet_nil ?_
                        intro w5 hw5
                        have ho5 := only_of_plus hw5; clear hw5
                        have O7 := Lib.hid (O6.out.nil_trans ho5); have OF := Lib.hid (OE.out.nil_trans ho5)
                        clear ho5 g0 g1 g2 l0 e0 e1 le
                        go_wp2
                        go_roundw
                        case rel => exact ⟨k + 1, by omega, by go_num, HX.out, O7.out⟩
                        case measure => simp [intOf]; omega
                      · have q2 : (e.o != pv + 1) = true := by simp [s1]
                        have q2b : decide (e.o = pv + 1) = false := by simp [s1]
                        have q2c : (e.o == pv + 1) = false := by simp [s1]
                        by_cases s2 : e.o = pv - 1
                        · have q3 : (e.o != pv - 1) = false := by simp [s2]
                          have q3b : decide (e.o = pv - 1) = true := by simp [s2]
                          have q3c : (e.o == pv - 1) = true := by simp [s2]
                          have HX : Hid (scanE b es es.length 0 = scanE b es (es.length - (k + 1)) (k + 1)) := Lib.hid (by rw [HST2.out, if_pos (.inr (by omega))])
                          clear s1 s2
                          go_wp2_with fail
                          refine wp_region_grown [0, 1, 2, 3, 4, 5, 6, 7, 8, 9, 10, 11, 12, 13, 14, 15, 16] [] (by kernel_rfl) (by kernel_rfl) ?_
                          simp only [pick, List.map_cons, List.map_nil, List.getD_cons_succ, List.getD_cons_zero]
                          iterate 1 (refine wpQuiet_step (fun K hK => ?_); go_simp; refine hK _ ?_; clear hK K)
                          repeat (go_big_quiet_step (fail))
                          refine wpQuiet_enter_w (by kernel_rfl) 27 #[.agg #[.int .i64 b, .int .i64 x, .slice (some ⟨bk, off, none⟩) es.length cap], .int .i64 k] (fun _ => by kernel_rfl) (.int .i64 pv) (grown_only2 fun w' ho' => HOL.out w' (OE.out.nil_trans ho')) ?_
                          iterate 3 (refine wpQuiet_step (fun K hK => ?_); go_simp; refine hK _ ?_; clear hK K)
                          repeat (go_big_quiet_step (fail))
                          refine wpQuiet_enter_w (by kernel_rfl) 27 #[.agg #[.int .i64 b, .int .i64 x, .slice (some ⟨bk, off, none⟩) es.length cap], .int .i64 k] (fun _ => by kernel_rfl) (.int .i64 pv) (grown_only2 fun w' ho' => HOL.out w' (OE.out.nil_trans ho')) ?_
                          iterate 3 (refine wpQuiet_step (fun K hK => ?_); go_simp; refine hK _ ?_; clear hK K)
                          repeat (go_big_quiet_step (fail))
                          refine wpQuiet_nil ?_
                          intro w5 hw5
                          have ho5 := only_of_plus hw5; clear hw5
                          have O7 := Lib.hid (O6.out.nil_trans ho5); have OF := Lib.hid (OE.out.nil_trans ho5)
                          clear ho5 g0 g1 g2 l0 e0 e1 le
                          go_wp2
                          go_roundw
                          case rel => exact ⟨k + 1, by omega, by go_num, HX.out, O7.out⟩
                          case measure => simp [intOf]; omega
                        · have q3 : (e.o != pv - 1) = true := by simp [s2]
                          have q3b : decide (e.o = pv - 1) = false := by simp [s2]
                          have q3c : (e.o == pv - 1) = false := by simp [s2]
                          have HX : Hid (chkT b x es = 3) := Lib.hid (by rw [HN.out, HST2.out, if_neg (by omega)])
                          clear s1 s2
                          go_wp2_with fail
                          refine wp_region_grown [0, 1, 2, 3, 4, 5, 6, 7, 8, 9, 10, 11, 12, 13, 14, 15, 16] [] (by kernel_rfl) (by kernel_rfl) ?_
                          simp only [pick, List.map_cons, List.map_nil, List.getD_cons_succ, List.getD_cons_zero]
                          iterate 1 (refine wpQuiet_step (fun K hK => ?_); go_simp; refine hK _ ?_; clear hK K)
                          repeat (go_big_quiet_step (fail))
                          refine wpQuiet_enter_w (by kernel_rfl) 27 #[.agg #[.int .i64 b, .int .i64 x, .slice (some ⟨bk, off, none⟩) es.length cap], .int .i64 k] (fun _ => by kernel_rfl) (.int .i64 pv) (grown_only2 fun w' ho' => HOL.out w' (OE.out.nil_trans ho')) ?_
                          iterate 3 (refine wpQuiet_step (fun K hK => ?_); go_simp; refine hK _ ?_; clear hK K)
                          repeat (go_big_quiet_step (fail))
                          refine wpQuiet_enter_w (by kernel_rfl) 27 #[.agg #[.int .i64 b, .int .i64 x, .slice (some ⟨bk, off, none⟩) es.length cap], .int .i64 k] (fun _ => by kernel_rfl) (.int .i64 pv) (grown_only2 fun w' ho' => HOL.out w' (OE.out.nil_trans ho')) ?_
                          iterate 3 (refine wpQuiet_step (fun K hK => ?_); go_simp; refine hK _ ?_; clear hK K)
                          repeat (go_big_quiet_step (fail))
                          refine wpQuiet_nil ?_
                          intro w5 hw5
                          have ho5 := only_of_plus hw5; clear hw5
                          have O7 := Lib.hid (O6.out.nil_trans ho5); have OF := Lib.hid (OE.out.nil_trans ho5)
                          clear ho5 g0 g1 g2 l0 e0 e1 le
                          go_wp2
                          go_ret
                          exact ⟨by rw [HX.out]; rfl, OF.out⟩
                    · obtain ⟨p0, p1, lb⟩ := HV.out.ent OD.out rfl (show k - 1 < es.length by omega)
                      have hle : ¬ e.a ≤ prvA es k := fun q => hor ⟨by omega, q⟩
                      unfold prvA at hle
                      generalize (es.getD (k - 1) ⟨0, 0⟩).a = pa at p0 hle
                      clear p1
                      have k1 : decide (0 < (k : Int)) = true := by simp; omega
                      have k2 : decide ((k : Int) > 0) = true := by simp; omega
                      have k2b : decide (0 < k) = true := by simp; omega
                      have k3 : decide (e.a ≤ pa) = false := by simpa using hle
                      have hi1 : (1 : Int) ≤ (k : Int) := by omega
                      have hi2 : (k : Int) - 1 < (es.length : Int) := by omega
                      have hi3 : IntKind.i64.wrap ((k : Int) - 1) = (k : Int) - 1 := IntWalk.i64_in _ (by omega)
                      have hi4 : ((k : Int) - 1).toNat = k - 1 := by omega
                      clear hor hk0
                      go_wp2_with fail
                      go_quiet (fail)
                      clear hi3 hi4 p0 k3 hle
                      refine wabs (G := Exit.then _ _ _ _) (fun w' => Only [] w3 w') (only_dr2 _ _) ?_
                      intro w4 ho4
                      have O6 := Lib.hid (O5.out.nil_trans ho4); have OE := Lib.hid (OD.out.nil_trans ho4); have BS := Lib.hid (ho4.got BR.out (by simp)); have E4 := Lib.hid (ho4.got E3.out (by simp))
                      clear ho4 g0 g1 g2 l0 e0 e1 le
                      have g0 := cell_got BS.out 0; have g1 := cell_got BS.out 1; have g2 := cell_got BS.out 2; have l0 := got_lt BS.out
                      have e0 := cell_got E4.out 0; have e1 := cell_got E4.out 1; have le := got_lt E4.out
                      obtain ⟨pv0, pv1⟩ := hpv
                      obtain ⟨io0, io1⟩ := iob
                      have wp1 : IntKind.i64.wrap (pv + 1) = pv + 1 := IntWalk.i64_in _ (by omega)
                      have wp2 : IntKind.i64.wrap (pv - 1) = pv - 1 := IntWalk.i64_in _ (by omega)
                      by_cases s1 : e.o = pv + 1
                      · have q2 : (e.o != pv + 1) = false := by simp [s1]
                        have q2b : decide (e.o = pv + 1) = true := by simp [s1]
                        have q2c : (e.o == pv + 1) = true := by simp [s1]
                        have HX : Hid (scanE b es es.length 0 = scanE b es (es.length - (k + 1)) (k + 1)) := Lib.hid (by rw [HST2.out, if_pos (.inl (by omega))])
                        clear s1
                        go_wp2_with fail
                        refine wp_region_grown [0, 1, 2, 3, 4, 5, 6, 7, 8, 9, 10, 11, 12, 13, 14, 15, 16] [] (by kernel_rfl) (by kernel_rfl) ?_
                        simp only [pick, List.map_cons, List.map_nil, List.getD_cons_succ, List.getD_cons_zero]
                        iterate 1 (refine wpQuiet_step (fun K hK => ?_); go_simp; refine hK _ ?_; clear hK K)
                        repeat (go_big_quiet_step (fail))
                        refine wpQuiet_enter_w (by kernel_rfl) 27 #[.agg #[.int .i64 b, .int .i64 x, .slice (some ⟨bk, off, none⟩) es.length cap], .int .i64 k] (fun _ => by kernel_rfl) (.int .i64 pv) (grown_only2 fun w' ho' => HOL.out w' (OE.out.nil_trans ho')) ?_
                        iterate 3 (refine wpQuiet_step (fun K hK => ?_); go_simp; refine hK _ ?_; clear hK K)
                        repeat (go_big_quiet_step (fail))
                        refine wpQuiet_nil ?_
                        intro w5 hw5
                        have ho5 := only_of_plus hw5; clear hw5
                        have O7 := Lib.hid (O6.out.nil_trans ho5); have OF := Lib.hid (OE.out.nil_trans ho5)
                        clear ho5 g0 g1 g2 l0 e0 e1 le
                        go_wp2
                        go_roundw
                        case rel => exact ⟨k + 1, by omega, by go_num, HX.out, O7.out⟩
                        case measure => simp [intOf]; omega
                      · have q2 : (e.o != pv + 1) = true := by simp [s1]
                        have q2b : decide (e.o = pv + 1) = false := by simp [s1]
                        have q2c : (e.o == pv + 1) = false := by simp [s1]
                        by_cases s2 : e.o = pv - 1
                        · have q3 : (e.o != pv - 1) = false := by simp [s2]
                          have q3b : decide (e.o = pv - 1) = true := by simp [s2]
                          have q3c : (e.o == pv - 1) = true := by simp [s2]
                          have HX : Hid (scanE b es es.length 0 = scanE b es (es.length - (k + 1)) (k + 1)) := Lib.hid (by rw [HST2.out, if_pos (.inr (by omega))])
                          clear s1 s2
                          go_wp2_with fail
                          refine wp_region_grown [0, 1, 2, 3, 4, 5, 6, 7, 8, 9, 10, 11, 12, 13, 14, 15, 16] [] (by kernel_rfl) (by kernel_rfl) ?_
                          simp only [pick, List.map_cons, List.map_nil, List.getD_cons_succ, List.getD_cons_zero]
                          iterate 1 (refine wpQuiet_step (fun K hK => ?_); go_simp; refine hK _ ?_; clear hK K)
                          repeat (go_big_quiet_step (fail))
                          refine wpQuiet_enter_w (by kernel_rfl) 27 #[.agg #[.int .i64 b, .int .i64 x, .slice (some ⟨bk, off, none⟩) es.length cap], .int .i64 k] (fun _ => by kernel_rfl) (.int .i64 pv) (grown_only2 fun w' ho' => HOL.out w' (OE.out.nil_trans ho')) ?_
                          iterate 3 (refine wpQuiet_step (fun K hK => ?_); go_simp; refine hK _ ?_; clear hK K)
                          repeat (go_big_quiet_step (fail))
                          refine wpQuiet_enter_w (by kernel_rfl) 27 #[.agg #[.int .i64 b, .int .i64 x, .slice (some ⟨bk, off, none⟩) es.length cap], .int .i64 k] (fun _ => by kernel_rfl) (.int .i64 pv) (grown_only2 fun w' ho' => HOL.out w' (OE.out.nil_trans ho')) ?_
                          iterate 3 (refine wpQuiet_step (fun K hK => ?_); go_simp; refine hK _ ?_; clear hK K)
                          repeat (go_big_quiet_step (fail))
                          refine wpQuiet_nil ?_
                          intro w5 hw5
                          have ho5 := only_of_plus hw5; clear hw5
                          have O7 := Lib.hid (O6.out.nil_trans ho5); have OF := Lib.hid (OE.out.nil_trans ho5)
                          clear ho5 g0 g1 g2 l0 e0 e1 le
                          go_wp2
                          go_roundw
                          case rel => exact ⟨k + 1, by omega, by go_num, HX.out, O7.out⟩
                          case measure => simp [intOf]; omega
                        · have q3 : (e.o != pv - 1) = true := by simp [s2]
                          have q3b : decide (e.o = pv - 1) = false := by simp [s2]
                          have q3c : (e.o == pv - 1) = false := by simp [s2]
                          have HX : Hid (chkT b x es = 3) := Lib.hid (by rw [HN.out, HST2.out, if_neg (by omega)])
                          clear s1 s2
                          go_wp2_with fail
                          refine wp_region_grown [0, 1, 2, 3, 4, 5, 6, 7, 8, 9, 10, 11, 12, 13, 14, 15, 16] [] (by kernel_rfl) (by kernel_rfl) ?_
                          simp only [pick, List.map_cons, List.map_nil, List.getD_cons_succ, List.getD_cons_zero]
                          iterate 1 (refine wpQuiet_step (fun K hK => ?_); go_simp; refine hK _ ?_; clear hK K)
                          repeat (go_big_quiet_step (fail))
                          refine wpQuiet_enter_w (by kernel_rfl) 27 #[.agg #[.int .i64 b, .int .i64 x, .slice (some ⟨bk, off, none⟩) es.length cap], .int .i64 k] (fun _ => by kernel_rfl) (.int .i64 pv) (grown_only2 fun w' ho' => HOL.out w' (OE.out.nil_trans ho')) ?_
                          iterate 3 (refine wpQuiet_step (fun K hK => ?_); go_simp; refine hK _ ?_; clear hK K)
                          repeat (go_big_quiet_step (fail))
                          refine wpQuiet_enter_w (by kernel_rfl) 27 #[.agg #[.int .i64 b, .int .i64 x, .slice (some ⟨bk, off, none⟩) es.length cap], .int .i64 k] (fun _ => by kernel_rfl) (.int .i64 pv) (grown_only2 fun w' ho' => HOL.out w' (OE.out.nil_trans ho')) ?_
                          iterate 3 (refine wpQuiet_step (fun K hK => ?_); go_simp; refine hK _ ?_; clear hK K)
                          repeat (go_big_quiet_step (fail))
                          refine wpQuiet_nil ?_
                          intro w5 hw5
                          have ho5 := only_of_plus hw5; clear hw5
                          have O7 := Lib.hid (O6.out.nil_trans ho5); have OF := Lib.hid (OE.out.nil_trans ho5)
                          clear ho5 g0 g1 g2 l0 e0 e1 le
                          go_wp2
                          go_ret
                          exact ⟨by rw [HX.out]; rfl, OF.out⟩
              · have HX : Hid (chkT b x es = 0) := Lib.hid (by rw [HN.out, HS.out, show es.length - k = 0 by omega]; rfl)
                have q1 : decide ((k : Int) < (es.length : Int)) = false := by simp; omega
                go_wp2
                go_ret
                exact ⟨by rw [HX.out]; rfl, OB.out⟩
      · have hx2 : inM x 8000000000 = false := by simpa using hx
        have hwx := rin x 8000000000 w1 (by omega) (by omega)
        rw [hx2] at hwx
        have HR : Hid (chkT b x es = 3) := Lib.hid (by unfold chkT; rw [if_neg h64, if_neg (fun q => hx q.2)])
        have HWB := Lib.hid hwb; have HWX := Lib.hid hwx
        clear hwb hwx hb hx hx2
        go_wp2_with fail
        refine HWB.out.mono ?_
        rintro e w' ⟨rfl, rfl⟩
        go_wp2_with fail
        refine HWX.out.mono ?_
        rintro e w' ⟨rfl, rfl⟩
        go_wp2
        go_ret
        exact ⟨by rw [HR.out]; rfl, O1.out⟩
    · have hb2 : inM b 1000 = false := by simpa using hb
      have hwb := rin b 1000 w1 (by omega) (by omega)
      rw [hb2] at hwb
      have HR : Hid (chkT b x es = 3) := Lib.hid (by unfold chkT; rw [if_neg h64, if_neg (fun q => hb q.1)])
      have HWB := Lib.hid hwb
      clear hwb hb hb2
      go_wp2_with fail
      refine HWB.out.mono ?_
      rintro e w' ⟨rfl, rfl⟩
      go_wp2
      go_ret
      exact ⟨by rw [HR.out]; rfl, O1.out⟩
end Go.Proofs.YtnfejojakikeeaaGreatDoor
