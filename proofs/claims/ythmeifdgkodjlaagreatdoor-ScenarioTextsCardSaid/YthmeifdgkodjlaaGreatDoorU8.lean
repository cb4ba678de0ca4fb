/- timesyncref56: lines and Text write a valid scene. Conditions: the lengths, the seeds. -/
import Derived.Test.YthmeifdgkodjlaaGreatDoorU7
namespace Go.Proofs.YthmeifdgkodjlaaGreatDoor
open Go.RowKit

theorem nt_size {X : ByteArray} {pre t : List UInt8} (h : X.data.toList = pre ++ t) : X.size = pre.length + t.length := by rw [size_of h, List.length_append]
set_option maxRecDepth 100000 in
set_option maxHeartbeats 4000000 in
theorem rLines {w : World} (s : ScW) (hs : s.Ok w) (hsd : SdOk s.sc) (hc : chkS s.sc = 0) :
    Calls Tryz.prog 36 #[scV s] w fun e w' => e = .returned (.string (bstr (scT s.sc))) ∧ Only [] w w' := by
  have hI := scI_of hc hsd
  have hO := chkS_ok hc
  have hnl : ∀ i, i < s.sc.nd.length → (s.sc.nd.getD i nd0).sg.length ≤ 16 ∧ (s.sc.nd.getD i nd0).sv.length ≤ 12 := fun i hi => ⟨(oscE_ok (hO.nd i hi).osc).2.2.1, (hO.nd i hi).len⟩
  have hll : ∀ i, i < s.sc.lk.length → (s.sc.lk.getD i lk0).ch.length ≤ 16 := fun i hi => linkE_len (hO.lk i hi).lk
  have hsc : scT s.sc = lnT [wUntil, it s.un] ++ lnT [wSeed, Lib.decDigits s.sd.toNat] ++ ndsT s.sc.nd s.nd.length ++ lksT s.sc.lk s.lk.length ++ ftsT s.ft s.ft.length := by
    unfold scT scW ndsT lksT ftsT
    rw [List.take_of_length_le (by simp [ScW.sc]), List.take_of_length_le (by simp [ScW.sc]), List.take_of_length_le (Nat.le_refl _)]
    simp [ScW.sc]
  generalize scT s.sc = t1 at hsc ⊢
  have h1 := hO.n1; have h2 := hO.l1; have h3 := hO.fl
  have hun := hI.un; have hsd0 := hI.sd
  obtain ⟨u, hu⟩ : ∃ u : Nat, s.sd = u := ⟨s.sd.toNat, by have := hsd0.1; simp only [ScW.sc] at this; omega⟩
  have hu64 : u ≤ 18446744073709551615 := by have := hsd0.2; simp only [ScW.sc] at this; omega
  have hnd := hI.nd; have hlk := hI.lk; have hft := hI.ft
  rw [hu, Int.toNat_natCast] at hsc
  obtain ⟨ns, ls, ft, un, sd, pn, cn, pl, cl, pf, cf⟩ := s
  dsimp only at hu
  subst hu
  unfold scV
  dsimp only [ScW.sc] at hsc h1 h2 h3 hun hnd hlk hft hnl hll ⊢
  rw [List.length_map] at h1 h2 hnl hll
  have HT1 := Lib.hid hsc
  have HN := Lib.hid hs.nd; have HL := Lib.hid hs.lk; have HFT := Lib.hid hs.ft; have HNO := Lib.hid hs.ndo; have HLO := Lib.hid hs.lko
  have HND := Lib.hid hnd; have HLK := Lib.hid hlk; have HFI := Lib.hid hft; have HNL := Lib.hid hnl; have HLL := Lib.hid hll; have HUN := Lib.hid hun
  have RS := Lib.hid (rSeed u hu64)
  have sS : (bstr (Lib.decDigits u)).size ≤ 20 := by rw [bstr_size]; exact dec_len_le 20 u (by decide) (by omega)
  have DS := Lib.hid (bstr_data (Lib.decDigits u))
  generalize bstr (Lib.decDigits u) = S at RS sS DS
  clear hs hnd hlk hft hnl hll hun hI hO hsc hc hsd hsd0
  dsimp only at HN HL HFT HNO HLO
  have HNT : Hid (∀ i, i < ns.length → ((ndW ((ns.map NdW.n).getD i nd0) i).flatMap lnT).length ≤ 3400) := Lib.hid (fun i hi => ndT_len (by constructor <;> omega) (HND.out _ (getD_mem nd0 (by simpa using hi))) (HNL.out i hi).1 (HNL.out i hi).2)
  have HLT : Hid (∀ i, i < ls.length → ((lkW ((ls.map LkW.l).getD i lk0)).flatMap lnT).length ≤ 3700) := Lib.hid (fun i hi => lkT_len (HLK.out _ (getD_mem lk0 (by simpa using hi))) (HLL.out i hi))
  have HFL : Hid (∀ i, i < ft.length → (ftT (ft.getD i ft0)).length ≤ 200) := Lib.hid (fun i hi => ftT_len (HFI.out _ (getD_mem ft0 hi)))
  have hl6 : (lnT [wUntil, it un] ++ lnT [wSeed, Lib.decDigits u]).length ≤ 200 := by
    have h := dec_len_le 20 u (by decide) (by omega)
    have h' := it_len HUN.out
    rw [List.length_append]
    unfold lnT; rw [joinN, joinN]; simp [wSeed, wUntil]; omega
  have HL6 : Hid (lnT [wUntil, it un] ++ lnT [wSeed, Lib.decDigits u] = wUntil ++ numT [un] ++ [10] ++ wSeed ++ (32 :: Lib.decDigits u) ++ [10]) := Lib.hid (by
    rw [show lnT [wUntil, it un] = wUntil ++ numT [un] ++ [10] from lnT_n wUntil [un]]
    unfold lnT; rw [joinN]; simp)
  generalize lnT [wUntil, it un] ++ lnT [wSeed, Lib.decDigits u] = l6 at HT1 hl6 HL6
  go_enter Tryz.func36, Tryz.ntmps36
  go_upto_region 1 with (fail)
  refine alloc_abs (G := fun w0 => Code.wp _ _ _ _ w0) ?_
  intro w1 hb1 ho1 hs1
  have B1 := Lib.hid hb1; have O1 := Lib.hid ho1
  clear hb1 ho1 hs1
  have g3 := cell_got B1.out 3; have g4 := cell_got B1.out 4; have l0 := got_lt B1.out
  refine wp_region_calm2 [0, 1, 5, 6] [8, 9, 10] (OnlyC ([] : List Nat) w1) (by kernel_rfl) (by kernel_rfl) ?_
  simp only [pick, List.map_cons, List.map_nil, List.getD_cons_succ, List.getD_cons_zero]
  iterate 4 (refine wpCalm_step (fun K hK => ?_); go_simp; refine hK _ ?_; clear hK K)
  refine wpCalm_nil ?_
  clear g3 g4 l0
  refine wabs (G := fun w0 => Rest _ _ _ _ _ _ _ w0 _) (R := fun w0 => Only [] w1 w0) (Only.refl _ _).drew ?_
  intro ws hos
  have OW := Lib.hid hos
  clear hos
  have hrl := fun (v1 v2 : World) (hb : v2.heap[v1.heap.size]? = some (.cells #[.int .i64 un] 3 (0, 0))) => rLine ⟨#[117, 110, 116, 105, 108]⟩ (lit_row (ns := [un]) hb (by simp)) (i64_one HUN.out) (by decide) (by simp)
  have hls := line_size (W := (⟨#[117, 110, 116, 105, 108]⟩ : ByteArray).data.toList) (i64_one HUN.out) (by decide) (by simp)
  have HLD := Lib.hid (bstr_data ((⟨#[117, 110, 116, 105, 108]⟩ : ByteArray).data.toList ++ numT [un] ++ [10]))
  generalize bstr ((⟨#[117, 110, 116, 105, 108]⟩ : ByteArray).data.toList ++ numT [un] ++ [10]) = L at hrl hls HLD
  have HRL := Lib.hid hrl
  clear hrl
  have ze1 : ¬ 9223372036854775807 < L.size + 5 := by omega
  have ze2 : ¬ 9223372036854775807 < L.size + 5 + S.size := by omega
  have ze3 : ¬ 9223372036854775807 < L.size + 5 + S.size + 1 := by omega
  obtain ⟨V1, hV1⟩ : ∃ V1 : ByteArray, V1 = L ++ ⟨#[115, 101, 101, 100, 32]⟩ := ⟨_, rfl⟩
  have hV1s : V1.size = L.size + 5 := by rw [hV1, ByteArray.size_append]; rfl
  refine Rest.by (X := Nat) (fun n a => ((((((a.put (some 10) (.slice (some ⟨n, 0, none⟩) 1 1)).put (some 11) (.string L)).put (some 12) (.string (L ++ ⟨#[115, 101, 101, 100, 32]⟩))).put (some 15) (.string S)).put (some 16) (.string (L ++ ⟨#[115, 101, 101, 100, 32]⟩ ++ S))).put (some 17) (.string (L ++ ⟨#[115, 101, 101, 100, 32]⟩ ++ S ++ ⟨#[10]⟩))).put (some 3) (.string (L ++ ⟨#[115, 101, 101, 100, 32]⟩ ++ S ++ ⟨#[10]⟩))) (fun _ w' => Only [] w1 w') ?_ ?_
  · rintro n w2 hb2
    have O2 := Lib.hid (O1.out.nil_trans hb2); have B2 := Lib.hid (hb2.got B1.out (by simp))
    simp only [Act.put, List.setIfInBounds_toArray, List.set_cons_succ, List.set_cons_zero]
    clear hb2 OW ze1 ze2 ze3 hV1s hV1 HRL O1 B1
    go_wp2
    go_loopw [3, 4] (fun v3 vi wr => NtR l6 (ndsT (ns.map NdW.n)) ns.length w2 v3 vi wr) (fun _ vi _ => ns.length - (intOf vi).toNat)
    case atStart => exact ⟨0, _, Nat.zero_le _, rfl, rfl, by simp only [app_data, HLD.out, DS.out]; rw [HL6.out]; simp [ndsT, ndsW, numT, wUntil, wSeed], Only.refl _ _⟩
    case round =>
      obtain ⟨k, X, hk, rfl, rfl, hX, ho⟩ := hrel
      have htl := ndsT_len (ns := ns.map NdW.n) (by simpa using h1) (by rw [List.length_map]; exact HNT.out) (k := k) (by simpa using hk)
      have hxs : X.size ≤ 90000 := by have := nt_size hX; omega
      have HX := Lib.hid hX; have OO := Lib.hid ho; have OA := Lib.hid (O2.out.nil_trans ho); have BB := Lib.hid (ho.got B2.out (by simp))
      clear hX ho htl
      have g0 := cell_got BB.out 0; have l0 := got_lt BB.out
      by_cases hlt : k < ns.length
      · obtain ⟨bk, off, hp, lc, c0, c1, c2, c3, c4, c5, c6⟩ := HN.out.nd OA.out hlt
        subst hp
        have HTK := Lib.hid (ndsT_snoc (ns := ns.map NdW.n) (k := k) (by simpa using hlt))
        have hnt := HNT.out k hlt
        rw [nd_at hlt] at HTK hnt
        have hni := HND.out _ (getD_mem nd0 (l := ns.map NdW.n) (k := k) (by simpa using hlt))
        have hnl := HNL.out k hlt
        rw [nd_at hlt] at hni hnl
        have hno := (HNO.out _ (getD_mem nw0 hlt)).kept OA.out
        generalize ns.getD k nw0 = x at c0 c1 c2 c3 c4 c5 c6 HTK hni hnl hno hnt
        have hrn := rNodeT x hno (k : Int) (by constructor <;> omega) hni hnl.1 hnl.2
        have hrs : (bstr ((ndW x.n k).flatMap lnT)).size ≤ 3400 := by rw [bstr_size]; exact hnt
        have HRD := Lib.hid (bstr_data ((ndW x.n k).flatMap lnT))
        generalize bstr ((ndW x.n k).flatMap lnT) = N at hrn hrs HRD
        have HRN := Lib.hid hrn
        clear hni hno hrn hnt
        unfold ndV at HRN
        go_wp2_with fail
        refine HRN.out.mono ?_
        rintro e w7 ⟨rfl, ho7⟩
        have O7 := Lib.hid (OO.out.nil_trans ho7)
        clear ho7 c0 c1 c2 c3 c4 c5 c6 lc g0 l0
        have ze1 : ¬ 9223372036854775807 < X.size + N.size := by omega
        go_wp2
        go_roundw
        case rel => exact ⟨k + 1, _, by omega, by go_num, rfl, nt_step HX.out HRD.out HTK.out, O7.out⟩
        case measure => first | (simp [intOf]; done) | (simp [intOf]; omega)
      · obtain rfl : k = ns.length := by omega
        obtain ⟨w3, hwo⟩ : ∃ wo : World, wo = wr := ⟨_, rfl⟩
        subst hwo
        have B3 := BB; have O3 := OA
        clear BB OA OO
        obtain ⟨l7, hl7⟩ : ∃ l7, l7 = l6 ++ ndsT (ns.map NdW.n) ns.length := ⟨_, rfl⟩
        have hl7s : l7.length ≤ 90000 := by have := size_of HX.out; rw [hl7]; omega
        rw [← hl7] at HX HT1
        clear hl7 hl6 HL6
        go_wp2
        go_loopw [3, 5] (fun v3 vi wr => NtR l7 (lksT (ls.map LkW.l)) ls.length w3 v3 vi wr) (fun _ vi _ => ls.length - (intOf vi).toNat)
        case atStart => exact ⟨0, _, Nat.zero_le _, rfl, rfl, by rw [HX.out]; simp [lksT], Only.refl _ _⟩
        case round =>
          clear g0 l0 hxs HX
          obtain ⟨k, Y, hk', rfl, rfl, hX, ho⟩ := hrel
          have htl := lksT_len (ls := ls.map LkW.l) (by rw [List.length_map]; exact HLT.out) (k := k) (by simpa using hk')
          have hxs : Y.size ≤ 330000 := by have := nt_size hX; omega
          have HX := Lib.hid hX; have OO := Lib.hid ho; have OA := Lib.hid (O3.out.nil_trans ho); have BB := Lib.hid (ho.got B3.out (by simp))
          clear hX ho htl
          have g1 := cell_got BB.out 1; have l0 := got_lt BB.out
          by_cases hlt : k < ls.length
          · obtain ⟨bk, off, hp, lc, c0, c1, c2, c3, c4, c5, c6, c7, c8⟩ := HL.out.lk OA.out hlt
            subst hp
            have HTK := Lib.hid (lksT_snoc (ls := ls.map LkW.l) (k := k) (by simpa using hlt))
            have hnt := HLT.out k hlt
            rw [lk_at hlt] at HTK hnt
            have hni := HLK.out _ (getD_mem lk0 (l := ls.map LkW.l) (k := k) (by simpa using hlt))
            have hnl := HLL.out k hlt
            rw [lk_at hlt] at hni hnl
            have hno := (HLO.out _ (getD_mem lw0 hlt)).kept OA.out
            generalize ls.getD k lw0 = x at c0 c1 c2 c3 c4 c5 c6 c7 c8 HTK hni hnl hno hnt
            have hrn := rLinkT x hno hni hnl
            have hrs : (bstr ((lkW x.l).flatMap lnT)).size ≤ 3700 := by rw [bstr_size]; exact hnt
            have HRD := Lib.hid (bstr_data ((lkW x.l).flatMap lnT))
            generalize bstr ((lkW x.l).flatMap lnT) = N at hrn hrs HRD
            have HRN := Lib.hid hrn
            clear hni hno hrn hnt
            unfold slV at HRN
            go_wp2_with fail
            refine HRN.out.mono ?_
            rintro e w7 ⟨rfl, ho7⟩
            have O7 := Lib.hid (OO.out.nil_trans ho7)
            clear ho7 c0 c1 c2 c3 c4 c5 c6 c7 c8 lc g1 l0
            have ze1 : ¬ 9223372036854775807 < Y.size + N.size := by omega
            go_wp2
            go_roundw
            case rel => exact ⟨k + 1, _, by omega, by go_num, rfl, nt_step HX.out HRD.out HTK.out, O7.out⟩
            case measure => first | (simp [intOf]; done) | (simp [intOf]; omega)
          · obtain rfl : k = ls.length := by omega
            obtain ⟨w4, hwo⟩ : ∃ wo : World, wo = wr := ⟨_, rfl⟩
            subst hwo
            have B4 := BB; have O4 := OA
            clear BB OA OO
            obtain ⟨l8, hl8⟩ : ∃ l8, l8 = l7 ++ lksT (ls.map LkW.l) ls.length := ⟨_, rfl⟩
            have hl8s : l8.length ≤ 330000 := by have := size_of HX.out; rw [hl8]; omega
            rw [← hl8] at HX HT1
            clear hl8 hl7s
            go_wp2
            go_loopw [3, 6] (fun v3 vi wr => NtR l8 (ftsT ft) ft.length w4 v3 vi wr) (fun _ vi _ => ft.length - (intOf vi).toNat)
            case atStart => exact ⟨0, _, Nat.zero_le _, rfl, rfl, by rw [HX.out]; simp [ftsT], Only.refl _ _⟩
            case round =>
              clear g1 l0 hxs HX
              obtain ⟨k, X, hk'', rfl, rfl, hX, ho⟩ := hrel
              have htl := ftsT_len HFL.out (k := k) hk''
              have hxs : X.size ≤ 340000 := by have := nt_size hX; omega
              have HX := Lib.hid hX; have OO := Lib.hid ho; have OA := Lib.hid (O4.out.nil_trans ho); have BB := Lib.hid (ho.got B4.out (by simp))
              clear hX ho htl
              have g2 := cell_got BB.out 2; have l0 := got_lt BB.out
              by_cases hlt : k < ft.length
              · obtain ⟨bk, off, hp, c0, c1, c2, c3, c4, lc⟩ := HFT.out.ft OA.out hlt
                subst hp
                have HTK := Lib.hid (ftsT_snoc (fs := ft) (k := k) hlt)
                have hfi := HFI.out _ (getD_mem ft0 hlt)
                generalize ft.getD k ft0 = f at c0 c1 c2 c3 c4 HTK hfi
                obtain ⟨fn, ff, ftt, fk, fv⟩ := f
                obtain ⟨i1, i2, i3, i4, k1, k9⟩ := hfi
                dsimp only at c0 c1 c2 c3 c4 i1 i2 i3 i4 k1 k9
                obtain ⟨q, rfl⟩ : ∃ q : Nat, fk = q := ⟨fk.toNat, by omega⟩
                have R1 := Lib.hid (rNumber fn i1); have R2 := Lib.hid (rNumber ff i2); have R3 := Lib.hid (rNumber ftt i3); have R4 := Lib.hid (rNumber fv i4)
                have RK := Lib.hid (rKind q (by omega) (by omega))
                have s1 := num_size i1; have s2 := num_size i2; have s3 := num_size i3; have s4 := num_size i4
                have sK : (bstr (kinds9.getD (q - 1) [])).size ≤ 7 := by rw [bstr_size]; exact kind_len _
                have D1 := Lib.hid (bstr_data (it fn)); have D2 := Lib.hid (bstr_data (it ff)); have D3 := Lib.hid (bstr_data (it ftt)); have D4 := Lib.hid (bstr_data (it fv)); have DK := Lib.hid (bstr_data (kinds9.getD (q - 1) []))
                have HFT' : Hid (ftT ⟨fn, ff, ftt, q, fv⟩ = wFault ++ numT [fn, ff, ftt] ++ (32 :: kinds9.getD (q - 1) [] ++ numT [fv] ++ [10])) := Lib.hid (by
                  unfold ftT; dsimp only; rw [show ((q : Int) - 1).toNat = q - 1 by omega])
                generalize ftT ⟨fn, ff, ftt, q, fv⟩ = tf at HTK HFT'
                generalize kinds9.getD (q - 1) [] = kq at RK sK DK HFT'
                generalize bstr (it fn) = X1 at R1 s1 D1
                generalize bstr (it ff) = X2 at R2 s2 D2
                generalize bstr (it ftt) = X3 at R3 s3 D3
                generalize bstr (it fv) = X4 at R4 s4 D4
                generalize bstr kq = XK at RK sK DK
                clear i1 i2 i3 i4
                go_upto_region 14 with (fail)
                refine alloc_abs (G := fun w0 => Code.wp _ _ _ _ w0) ?_
                intro w5 hb5 ho5 hs5
                have E5 := Lib.hid hb5; have O5 := Lib.hid (OO.out.nil_trans ho5)
                clear hb5 ho5 hs5 c0 c1 c2 c3 c4 lc g2 l0
                have c0 := cell_got E5.out 0; have c1 := cell_got E5.out 1; have c2 := cell_got E5.out 2; have c3 := cell_got E5.out 3; have c4 := cell_got E5.out 4; have lc := got_lt E5.out
                have ze1 : ¬ 9223372036854775807 < X.size + 6 := by omega
                have ze2 : ¬ 9223372036854775807 < X.size + 6 + X1.size := by omega
                have ze3 : ¬ 9223372036854775807 < X.size + 6 + X1.size + 1 := by omega
                have ze4 : ¬ 9223372036854775807 < X.size + 6 + X1.size + 1 + X2.size := by omega
                have ze5 : ¬ 9223372036854775807 < X.size + 6 + X1.size + 1 + X2.size + 1 := by omega
                have ze6 : ¬ 9223372036854775807 < X.size + 6 + X1.size + 1 + X2.size + 1 + X3.size := by omega
                have ze7 : ¬ 9223372036854775807 < X.size + 6 + X1.size + 1 + X2.size + 1 + X3.size + 1 := by omega
                have ze8 : ¬ 9223372036854775807 < X.size + 6 + X1.size + 1 + X2.size + 1 + X3.size + 1 + XK.size := by omega
                have ze9 : ¬ 9223372036854775807 < X.size + 6 + X1.size + 1 + X2.size + 1 + X3.size + 1 + XK.size + 1 := by omega
                have ze10 : ¬ 9223372036854775807 < X.size + 6 + X1.size + 1 + X2.size + 1 + X3.size + 1 + XK.size + 1 + X4.size := by omega
                have ze11 : ¬ 9223372036854775807 < X.size + 6 + X1.size + 1 + X2.size + 1 + X3.size + 1 + XK.size + 1 + X4.size + 1 := by omega
                refine wp_region_grown [0, 1, 2, 3, 4, 5, 6, 7, 8, 9, 10, 11, 12, 13, 14, 15, 16, 17, 18, 19, 20, 21, 22, 23, 24, 25, 26, 27] [] (by kernel_rfl) (by kernel_rfl) ?_
                simp only [pick, List.map_cons, List.map_nil, List.getD_cons_succ, List.getD_cons_zero]
                iterate 4 (refine wpQuiet_step (fun K hK => ?_); go_simp; refine hK _ ?_; clear hK K)
                refine wpQuiet_enter_w (by kernel_rfl) 63 #[.int .i64 fn] (fun _ => by kernel_rfl) (.string X1) (grown_only2 fun w' _ => R1.out w') ?_
                iterate 4 (refine wpQuiet_step (fun K hK => ?_); go_simp; refine hK _ ?_; clear hK K)
                refine wpQuiet_enter_w (by kernel_rfl) 63 #[.int .i64 ff] (fun _ => by kernel_rfl) (.string X2) (grown_only2 fun w' _ => R2.out w') ?_
                iterate 4 (refine wpQuiet_step (fun K hK => ?_); go_simp; refine hK _ ?_; clear hK K)
                refine wpQuiet_enter_w (by kernel_rfl) 63 #[.int .i64 ftt] (fun _ => by kernel_rfl) (.string X3) (grown_only2 fun w' _ => R3.out w') ?_
                iterate 4 (refine wpQuiet_step (fun K hK => ?_); go_simp; refine hK _ ?_; clear hK K)
                refine wpQuiet_enter_w (by kernel_rfl) 64 #[.int .i64 q] (fun _ => by kernel_rfl) (.string XK) (grown_only2 fun w' _ => RK.out w') ?_
                iterate 4 (refine wpQuiet_step (fun K hK => ?_); go_simp; refine hK _ ?_; clear hK K)
                refine wpQuiet_enter_w (by kernel_rfl) 63 #[.int .i64 fv] (fun _ => by kernel_rfl) (.string X4) (grown_only2 fun w' _ => R4.out w') ?_
                iterate 3 (refine wpQuiet_step (fun K hK => ?_); go_simp; refine hK _ ?_; clear hK K)
                refine wpQuiet_nil ?_
                intro w6 hw6
                have O6 := Lib.hid (O5.out.nil_trans (only_of_plus hw6))
                clear hw6 c0 c1 c2 c3 c4 lc
                clear ze1 ze2 ze3 ze4 ze5 ze6 ze7 ze8 ze9 ze10 ze11
                go_wp2
                go_roundw
                case rel => exact ⟨k + 1, _, by omega, by go_num, rfl, by
                  simp only [app_data, HX.out, D1.out, D2.out, D3.out, D4.out, DK.out]
                  rw [HTK.out, HFT'.out]
                  simp [numT, wFault], O6.out⟩
                case measure => first | (simp [intOf]; done) | (simp [intOf]; omega)
              · obtain rfl : k = ft.length := by omega
                have HQ : Hid (X = bstr t1) := Lib.hid (by
                  apply bstr_eq
                  rw [HX.out, HT1.out])
                go_wp2
                go_ret
                exact ⟨by rw [← HQ.out]; rfl, OA.out⟩
  · refine wpAnyC_next [2] (by kernel_rfl) (by simp) (.inr (onlyC OW.out)) ?_
    simp only [List.mem_cons, List.not_mem_nil, or_false, forall_eq]
    refine wpOp_one rfl ?_
    go_wp2
    simp only [nrm]
    refine alloc_abs (G := wpAnyC _ _ _ _ _ _ _ _ _) ?_
    intro wx hbx hox hsx
    have BX := Lib.hid hbx; have OX := Lib.hid (OW.out.nil_trans hox)
    clear hbx hox hsx
    refine wpAnyC_next [3] (by kernel_rfl) (by simp) (.inr (onlyC OX.out)) ?_
    simp only [List.mem_cons, List.not_mem_nil, or_false, forall_eq]
    refine wpOp_one rfl ?_
    go_wp2_with fail
    refine (HRL.out ws wx BX.out).mono ?_
    rintro e w7 ⟨rfl, ho7⟩
    have O7 := Lib.hid (OX.out.nil_trans ho7)
    clear ho7
    go_wp2
    simp only [nrm]
    refine wpAnyC_move 4 (.string (L ++ ⟨#[115, 101, 101, 100, 32]⟩)) rfl (by kernel_rfl) (by kernel_rfl) (fun w' => by
      simp [go_sem, ze1]) ?_
    refine wpAnyC_next [7] (by kernel_rfl) (by simp) (.inr (onlyC O7.out)) ?_
    simp only [List.mem_cons, List.not_mem_nil, or_false, forall_eq]
    refine wpOp_one rfl ?_
    go_wp2_with fail
    refine (RS.out w7).mono ?_
    rintro e w8 ⟨rfl, ho8⟩
    have O8 := Lib.hid (O7.out.nil_trans ho8)
    clear ho8
    go_wp2
    simp only [nrm]
    refine wpAnyC_next [8] (by kernel_rfl) (by simp) (.inr (onlyC O8.out)) ?_
    simp only [List.mem_cons, List.not_mem_nil, or_false, forall_eq]
    refine wpOp_one rfl ?_
    go_wp2
    simp only [nrm]
    refine wpAnyC_next [9] (by kernel_rfl) (by simp) (.inl (late_of (by kernel_rfl))) ?_
    simp only [List.mem_cons, List.not_mem_nil, or_false, forall_eq]
    refine wpOp_one rfl ?_
    go_wp2
    simp only [nrm]
    refine wpAnyC_next [10] (by kernel_rfl) (by simp) (.inl (late_of (by kernel_rfl))) ?_
    simp only [List.mem_cons, List.not_mem_nil, or_false, forall_eq]
    refine wpOp_one rfl ?_
    go_wp2
    simp only [nrm]
    refine wpAnyC_done (by kernel_rfl) (.inl (late_of (by kernel_rfl))) ?_
    first | exact ⟨⟨ws.heap.size, rfl⟩, O8.out⟩ | exact ⟨ws.heap.size, rfl, O8.out⟩
set_option maxRecDepth 100000 in
set_option maxHeartbeats 2000000 in
theorem rText {w : World} (s : ScW) (hs : s.Ok w) (hsd : SdOk s.sc) :
    Calls Tryz.prog 13 #[scV s] w fun e w' => e = .returned (.tuple #[.string (bstr (txtS s.sc).1), .int .i64 (txtS s.sc).2]) ∧ Only [] w w' := by
  have hck := fun (w' : World) (ho : Only [] w w') => rCheck s (hs.kept ho)
  have hln := fun (w' : World) (ho : Only [] w w') (hc : chkS s.sc = 0) => rLines s (hs.kept ho) hsd hc
  generalize hsc : s.sc = sc at hck hln ⊢
  clear hsd
  obtain ⟨nd, lk, ft, un, sd, pn, cn, pl, cl, pf, cf⟩ := s
  simp only [scV] at hck hln ⊢
  clear hs hsc
  have HCK := Lib.hid hck
  clear hck
  by_cases hc : chkS sc = 0
  · have htx : txtS sc = (scT sc, 0) := by unfold txtS; rw [if_pos hc]
    have HLN := Lib.hid (fun (w' : World) (ho : Only [] w w') => hln w' ho hc)
    rw [hc] at HCK
    rw [htx]
    clear hln htx hc
    dsimp only
    generalize bstr (scT sc) = S at HLN ⊢
    go_enter Tryz.func13, Tryz.ntmps13
    go_upto_region 1 with (fail)
    refine alloc_abs (G := fun w0 => Code.wp _ _ _ _ w0) ?_
    intro w1 hb1 ho1 hs1
    have B1 := Lib.hid hb1; have O1 := Lib.hid ho1
    clear hb1 ho1 hs1
    have g0 := cell_got B1.out 0; have g1 := cell_got B1.out 1; have g2 := cell_got B1.out 2; have g3 := cell_got B1.out 3; have g4 := cell_got B1.out 4; have l0 := got_lt B1.out
    go_wp2_with fail
    refine (HCK.out w1 O1.out).mono ?_
    rintro e w2 ⟨rfl, ho2⟩
    have O2 := Lib.hid (O1.out.nil_trans ho2); have B2 := Lib.hid (ho2.got B1.out (by simp))
    clear ho2 g0 g1 g2 g3 g4 l0
    have g0 := cell_got B2.out 0; have g1 := cell_got B2.out 1; have g2 := cell_got B2.out 2; have g3 := cell_got B2.out 3; have g4 := cell_got B2.out 4; have l0 := got_lt B2.out
    go_wp2_with fail
    refine (HLN.out w2 O2.out).mono ?_
    rintro e w3 ⟨rfl, ho3⟩
    have O3 := Lib.hid (O2.out.nil_trans ho3)
    clear ho3
    go_wp2
    refine bodyPost_ret (v := .tuple #[.string S, .int .i64 0]) (by simp [results, Tryz.results13, go_sem]) rfl ⟨rfl, O3.out⟩
  · have htx : txtS sc = ([], 2) := by unfold txtS; rw [if_neg hc]
    rw [htx]
    clear hln htx
    generalize chkS sc = res at hc HCK
    have r1 : (res != 0) = true := by simp [hc]
    have r2 : (res == 0) = false := by simp [hc]
    go_enter Tryz.func13, Tryz.ntmps13
    go_upto_region 1 with (fail)
    refine alloc_abs (G := fun w0 => Code.wp _ _ _ _ w0) ?_
    intro w1 hb1 ho1 hs1
    have B1 := Lib.hid hb1; have O1 := Lib.hid ho1
    clear hb1 ho1 hs1
    have g0 := cell_got B1.out 0; have g1 := cell_got B1.out 1; have g2 := cell_got B1.out 2; have g3 := cell_got B1.out 3; have g4 := cell_got B1.out 4; have l0 := got_lt B1.out
    go_wp2_with fail
    refine (HCK.out w1 O1.out).mono ?_
    rintro e w2 ⟨rfl, ho2⟩
    have O2 := Lib.hid (O1.out.nil_trans ho2)
    clear ho2 g0 g1 g2 g3 g4 l0
    go_wp2
    refine bodyPost_ret (v := .tuple #[.string ⟨#[]⟩, .int .i64 2]) (by simp [results, Tryz.results13, go_sem]) rfl ⟨rfl, O2.out⟩
end Go.Proofs.YthmeifdgkodjlaaGreatDoor
