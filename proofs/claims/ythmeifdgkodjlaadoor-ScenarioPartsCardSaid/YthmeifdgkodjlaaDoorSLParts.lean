/- ScenarioParts: in a valid scene each oscillator is valid and within the tolerance of its node, each link and the faults are valid, and each node has a link to each of its servers, in both directions, for every scene. Conditions: those of the given row. -/
import Derived.Test.YthmeifdgkodjlaaDoorPz
namespace Go.Proofs.YthmeifdgkodjlaaDoor
open Go.ChangeShapes Go.WideShapes Go.ChangeAt Go.RowKit

def CnI (w : World) (n : Nat) (vi : Value) (wr : World) : Prop := ∃ k : Nat, k ≤ n ∧ vi = .int .i64 k ∧ Only [] w wr
def dirI (d : Bool) : Int := if d then 1 else 0
theorem lnkV_some (j : Nat) (d : Bool) : lnkV (some (j, d)) = .tuple #[.int .i64 j, .int .i64 (dirI d)] := by cases d <;> rfl
/-- a server of a node in a valid scene -/
theorem srv_ok {s : Sc} (h : chkS s = 0) {i j : Nat} (hi : i < s.nd.length) (hj : j < (s.nd.getD i nd0).sv.length) : ∃ (q : Nat) (d : Bool), q < s.lk.length ∧ lnk s.lk i ((s.nd.getD i nd0).sv.getD j 0) = some (q, d) ∧ lnk s.lk ((s.nd.getD i nd0).sv.getD j 0) i = some (q, !d) := by
  have ho := chkS_ok h
  have hjn := ho.jn i hi
  have hm : (s.nd.getD i nd0).sv.getD j 0 ∈ (s.nd.getD i nd0).sv := getD_mem 0 hj
  have hs := List.all_eq_true.1 hjn _ hm
  rw [Option.isSome_iff_exists] at hs
  obtain ⟨⟨q, d⟩, hq⟩ := hs
  have hne := (svE_ok ((ho.nd i hi).sv j hj)).2
  refine ⟨q, d, ?_, hq, lnk_rev (fun e => hne e.symm) _ _ _ _ hq⟩
  have := (lnk_lt _ _ _ _ hq).2
  omega
set_option maxRecDepth 100000 in
set_option maxHeartbeats 1000000 in
theorem parts_walk {w : World} (s : ScW) (hv : s.Ok0 w) (he : Env w) :
    Calls Tryd.prog 5 #[scV s] w fun e w' => e = .returned (.bool true) ∧ Only [] w w' := by
  have HV := Lib.hid hv; have HE := Lib.hid he
  clear hv he
  obtain ⟨nd, lk, ft, un, sd, pn, cn, pl, cl, pf, cf⟩ := s
  obtain ⟨sc, hsc⟩ : ∃ sc, ScW.sc ⟨nd, lk, ft, un, sd, pn, cn, pl, cl, pf, cf⟩ = sc := ⟨_, rfl⟩
  have HSC := Lib.hid hsc
  clear hsc
  simp only [scV]
  go_enter Tryd.func5, Tryd.ntmps5
  go_upto_region 1 with (fail)
  refine alloc_abs (G := fun w0 => Code.wp _ _ _ _ w0) ?_
  intro w1 hb1 ho1 hs1
  have B1 := Lib.hid hb1; have O1 := Lib.hid ho1
  clear hb1 ho1 hs1
  have c0 := cell_got B1.out 0; have c1 := cell_got B1.out 1; have c2 := cell_got B1.out 2; have c3 := cell_got B1.out 3; have c4 := cell_got B1.out 4; have lc := got_lt B1.out
  have HSM := Lib.hid (pSmall _ (HV.out.nd.kept O1.out) (HV.out.lk.kept O1.out))
  go_wp2_with fail
  refine HSM.out.mono ?_
  rintro e w2 ⟨rfl, ho2⟩
  have O2 := Lib.hid (O1.out.nil_trans ho2); have B2 := Lib.hid (ho2.got B1.out (by simp))
  clear ho2 O1 B1 HSM
  clear c0 c1 c2 c3 c4 lc
  have c0 := cell_got B2.out 0; have c1 := cell_got B2.out 1; have c2 := cell_got B2.out 2; have c3 := cell_got B2.out 3; have c4 := cell_got B2.out 4; have lc := got_lt B2.out
  by_cases hsm : smW ⟨nd, lk, ft, un, sd, pn, cn, pl, cl, pf, cf⟩ = true
  · have HOK := Lib.hid (HV.out.ok hsm)
    rw [hsm]
    clear hsm
    have hck := pCheck _ (HOK.out.kept O2.out)
    rw [HSC.out] at hck
    have HCK := Lib.hid hck
    clear hck
    go_wp2_with fail
    refine HCK.out.mono ?_
    rintro e w3 ⟨rfl, ho3⟩
    have O3 := Lib.hid (O2.out.nil_trans ho3); have B3 := Lib.hid (ho3.got B2.out (by simp))
    clear ho3 O2 B2 HCK
    by_cases hc : chkS sc = 0
    · clear c0 c1 c2 c3 c4 lc
      rw [hc]
      have HC := Lib.hid hc
      clear hc
      have c0 := cell_got B3.out 0; have c1 := cell_got B3.out 1; have c2 := cell_got B3.out 2; have c3 := cell_got B3.out 3; have c4 := cell_got B3.out 4; have lc := got_lt B3.out
      go_wp2
      go_loopw [3] (fun vi wr => CnI w3 nd.length vi wr) (fun vi _ => nd.length - (intOf vi).toNat)
      case atStart => exact ⟨0, Nat.zero_le _, rfl, Only.refl _ _⟩
      case round =>
        obtain ⟨k, hk, rfl, ho⟩ := hrel
        have hnl : nd.length ≤ 100000 := HOK.out.ln
        clear c0 c1 c2 c3 c4 lc
        obtain ⟨wo, hwo⟩ : ∃ wo : World, wo = wr := ⟨_, rfl⟩
        subst hwo
        have B4 := Lib.hid (ho.got B3.out (by simp)); have O4 := Lib.hid (O3.out.nil_trans ho); have OO := Lib.hid ho
        clear ho
        have c0 := cell_got B4.out 0; have c1 := cell_got B4.out 1; have c2 := cell_got B4.out 2; have c3 := cell_got B4.out 3; have c4 := cell_got B4.out 4; have lc := got_lt B4.out
        by_cases hlt : k < nd.length
        · obtain ⟨bk, off, hp, lb, n0, n1, n2, n3, n4, n5, n6⟩ := VRow.nd (l := nd) HV.out.nd O4.out hlt
          subst hp
          have hx := HOK.out.ndo _ (getD_mem nw0 hlt)
          have hnd : sc.nd.getD k nd0 = (nd.getD k nw0).n := by rw [← HSC.out]; exact nd_at hlt
          have hks : k < sc.nd.length := by rw [← HSC.out]; simpa [ScW.sc] using hlt
          have hno := (chkS_ok HC.out).nd k hks
          have hsr := fun j (hj : j < (sc.nd.getD k nd0).sv.length) => srv_ok HC.out (i := k) (j := j) hks hj
          rw [hnd] at hno
          simp only [hnd] at hsr
          have hkl : (k : Int) < (nd.length : Int) := by omega
          clear hnd hks
          generalize nd.getD k nw0 = x at n0 n1 n2 n3 n4 n5 n6 hx hno hsr
          obtain ⟨xn, ps, cs, pv, cv⟩ := x
          simp only at n0 n1 n2 n3 n4 n5 n6 hno hsr
          have HX := Lib.hid hx; have HNO := Lib.hid hno; have HSR := Lib.hid hsr
          clear hx hno hsr
          go_upto_region 7 with (fail)
          refine alloc_abs (G := fun w0 => Code.wp _ _ _ _ w0) ?_
          intro w5 hb5 ho5 hs5
          have E5 := Lib.hid hb5; have O5 := Lib.hid (O4.out.nil_trans ho5); have B5 := Lib.hid (ho5.got B4.out (by simp)); have OP := Lib.hid (OO.out.nil_trans ho5)
          clear hb5 ho5 hs5 n0 n1 n2 n3 n4 n5 n6 lb
          clear c0 c1 c2 c3 c4 lc
          have c0 := cell_got B5.out 0; have c1 := cell_got B5.out 1; have c2 := cell_got B5.out 2; have c3 := cell_got B5.out 3; have c4 := cell_got B5.out 4; have lc := got_lt B5.out
          have x0 := cell_got E5.out 0; have x1 := cell_got E5.out 1; have x2 := cell_got E5.out 2; have x3 := cell_got E5.out 3; have x4 := cell_got E5.out 4; have x5 := cell_got E5.out 5; have x6 := cell_got E5.out 6; have lx := got_lt E5.out
          have H1 : Hid (∀ w', Only [] w5 w' → Calls Tryd.prog 13 #[.agg #[.int .i64 xn.ph, .slice ps xn.sg.length cs]] w' fun e w'' => e = .returned (.int .i64 0) ∧ Only [] w' w'') := Lib.hid (fun w' ho => by
            have h := pOsc xn.ph (HX.out.seg.kept (O5.out.nil_trans ho)) HX.out.len
            rw [HNO.out.osc] at h
            exact h)
          have H2 : Hid (∀ w', Only [] w5 w' → Calls Tryd.prog 14 #[.agg #[.int .i64 xn.ph, .slice ps xn.sg.length cs]] w' fun e w'' => e = .returned (.int .i64 (oscB xn.ph xn.sg)) ∧ Only [] w' w'') := Lib.hid (fun w' ho => pBound xn.ph (HX.out.seg.kept (O5.out.nil_trans ho)) HX.out.len)
          have hb := HNO.out.bnd
          generalize oscB xn.ph xn.sg = bd at H2 hb
          have e1 : decide (bd > xn.tol) = false := by simp; omega
          have e1' : decide (xn.tol < bd) = false := by simp; omega
          clear hb
          cases hrf : xn.rf with
          | true =>
            have hz : xn.sv.length = 0 := by rw [HNO.out.form hrf]; rfl
            have e2 : decide ((xn.sv.length : Int) > 0) = false := decide_eq_false (by omega)
            have e2' : decide (0 < (xn.sv.length : Int)) = false := decide_eq_false (by omega)
            have e2n : decide (0 < xn.sv.length) = false := decide_eq_false (by omega)
            have e2p : ¬ 0 < xn.sv.length := by omega
            clear hz
            rw [hrf] at x3
            go_wp2_with fail
            refine wp_region_grown [0, 1, 2, 3, 4, 5, 6, 7, 8, 9, 10, 11, 12, 13, 14, 15, 16, 17, 18, 19, 20, 21] [] (by kernel_rfl) (by kernel_rfl) ?_
            simp only [pick, List.map_cons, List.map_nil, List.getD_cons_succ, List.getD_cons_zero]
            iterate 1 (refine wpQuiet_step (fun K hK => ?_); go_simp; refine hK _ ?_; clear hK K)
            repeat (go_big_quiet_step (fail))
            refine wpQuiet_enter_w (by kernel_rfl) 13 #[.agg #[.int .i64 xn.ph, .slice ps xn.sg.length cs]] (fun _ => by kernel_rfl) (.int .i64 0) (grown_only2 H1.out) ?_
            iterate 1 (refine wpQuiet_step (fun K hK => ?_); go_simp; refine hK _ ?_; clear hK K)
            repeat (go_big_quiet_step (fail))
            refine wpQuiet_enter_w (by kernel_rfl) 14 #[.agg #[.int .i64 xn.ph, .slice ps xn.sg.length cs]] (fun _ => by kernel_rfl) (.int .i64 bd) (grown_only2 H2.out) ?_
            iterate 1 (refine wpQuiet_step (fun K hK => ?_); go_simp; refine hK _ ?_; clear hK K)
            repeat (go_big_quiet_step (fail))
            refine wpQuiet_nil ?_
            intro w6 hw6
            have ow6 := only_of_plus hw6
            clear hw6
            have B6 := Lib.hid (ow6.got B5.out (by simp)); have E6 := Lib.hid (ow6.got E5.out (by simp)); have O6 := Lib.hid (O5.out.nil_trans ow6); have OR := Lib.hid (OP.out.nil_trans ow6)
            clear ow6 e1 e1' H1 H2 e2 e2' e2n e2p
            clear c0 c1 c2 c3 c4 lc
            clear x0 x1 x2 x3 x4 x5 x6 lx
            have c0 := cell_got B6.out 0; have c1 := cell_got B6.out 1; have c2 := cell_got B6.out 2; have c3 := cell_got B6.out 3; have c4 := cell_got B6.out 4; have lc := got_lt B6.out
            have x0 := cell_got E6.out 0; have x1 := cell_got E6.out 1; have x2 := cell_got E6.out 2; have x3 := cell_got E6.out 3; have x4 := cell_got E6.out 4; have x5 := cell_got E6.out 5; have x6 := cell_got E6.out 6; have lx := got_lt E6.out
            go_wp2
            go_loopw [5] (fun vi wr => CnI w6 xn.sv.length vi wr) (fun vi _ => xn.sv.length - (intOf vi).toNat)
            case atStart => exact ⟨0, Nat.zero_le _, rfl, Only.refl _ _⟩
            case round =>
              obtain ⟨j, hj, rfl, ho⟩ := hrel
              have hsl : xn.sv.length ≤ 100000 := HX.out.ren
              clear c0 c1 c2 c3 c4 lc
              clear x0 x1 x2 x3 x4 x5 x6 lx
              have B7 := Lib.hid (ho.got B6.out (by simp)); have E7 := Lib.hid (ho.got E6.out (by simp)); have O7 := Lib.hid (O6.out.nil_trans ho); have OI := Lib.hid ho
              clear ho
              have c0 := cell_got B7.out 0; have c1 := cell_got B7.out 1; have c2 := cell_got B7.out 2; have c3 := cell_got B7.out 3; have c4 := cell_got B7.out 4; have lc := got_lt B7.out
              have x0 := cell_got E7.out 0; have x1 := cell_got E7.out 1; have x2 := cell_got E7.out 2; have x3 := cell_got E7.out 3; have x4 := cell_got E7.out 4; have x5 := cell_got E7.out 5; have x6 := cell_got E7.out 6; have lx := got_lt E7.out
              by_cases hjl : j < xn.sv.length
              · obtain ⟨bk2, off2, hp2, t0, lt⟩ := VRow.it (l := xn.sv) HX.out.srv O7.out hjl
                obtain ⟨q, d, hq, hl1, hl2⟩ := HSR.out j hjl
                have hjl' : (j : Int) < (xn.sv.length : Int) := by omega
                obtain ⟨v, hv⟩ : ∃ v, v = xn.sv.getD j 0 := ⟨_, rfl⟩
                rw [← hv] at t0 hl1 hl2
                have H1 : Hid (∀ w', Only [] wr w' → Calls Tryd.prog 15 #[(.agg #[.slice (some ⟨bk, off, none⟩) nd.length cn, .slice pl lk.length cl, .slice pf ft.length cf, .int .i64 un, .int .u64 sd]), .int .i64 k, .int .i64 v] w' fun e w'' => e = .returned (.tuple #[.int .i64 q, .int .i64 (dirI d)]) ∧ Only [] w' w'') := Lib.hid (fun w' ho => by
                  have h := pLnk _ (k : Int) v (HOK.out.kept (O7.out.nil_trans ho))
                  rw [HSC.out, hl1, lnkV_some] at h
                  exact h)
                have H2 : Hid (∀ w', Only [] wr w' → Calls Tryd.prog 15 #[(.agg #[.slice (some ⟨bk, off, none⟩) nd.length cn, .slice pl lk.length cl, .slice pf ft.length cf, .int .i64 un, .int .u64 sd]), .int .i64 v, .int .i64 k] w' fun e w'' => e = .returned (.tuple #[.int .i64 q, .int .i64 (dirI !d)]) ∧ Only [] w' w'') := Lib.hid (fun w' ho => by
                  have h := pLnk _ v (k : Int) (HOK.out.kept (O7.out.nil_trans ho))
                  rw [HSC.out, hl2, lnkV_some] at h
                  exact h)
                have HV2 := Lib.hid hv
                have hqk : q < lk.length := by have h := hq; rw [← HSC.out] at h; simpa [ScW.sc] using h
                have e1 : decide ((q : Int) < 0) = false := by simp
                have e2 : decide ((q : Int) ≥ (lk.length : Int)) = false := by simp; omega
                have e2' : decide ((lk.length : Int) ≤ (q : Int)) = false := by simp; omega
                have e3 : ((q : Int) != (q : Int)) = false := by simp
                have hdd : dirI d + dirI (!d) = 1 := by cases d <;> rfl
                have hd0 : 0 ≤ dirI d ∧ dirI d ≤ 1 := by cases d <;> decide
                have hd1 : 0 ≤ dirI (!d) ∧ dirI (!d) ≤ 1 := by cases d <;> decide
                generalize dirI d = da at H1 hdd hd0
                generalize dirI (!d) = db at H2 hdd hd1
                obtain ⟨hda0, hda1⟩ := hd0
                obtain ⟨hdb0, hdb1⟩ := hd1
                have e4 : (da + db != 1) = false := by simp [hdd]
                have e4' : (da + db == 1) = true := by simp [hdd]
                have hwr4 : IntKind.i64.wrap (da + db) = da + db := by rw [IntKind.wrap_i64]; omega
                clear hl1 hl2 hv hq hdd
                have hp2' : pv = some ⟨bk2, off2, none⟩ := hp2
                clear hp2
                subst hp2'
                go_wp2_with fail
                refine wp_region_grown [0, 1, 2, 3, 4, 5, 6, 7, 8, 9, 10, 11, 12] [] (by kernel_rfl) (by kernel_rfl) ?_
                simp only [pick, List.map_cons, List.map_nil, List.getD_cons_succ, List.getD_cons_zero]
                iterate 1 (refine wpQuiet_step (fun K hK => ?_); go_simp; refine hK _ ?_; clear hK K)
                repeat (go_big_quiet_step (fail))
                refine wpQuiet_enter_w (by kernel_rfl) 15 #[(.agg #[.slice (some ⟨bk, off, none⟩) nd.length cn, .slice pl lk.length cl, .slice pf ft.length cf, .int .i64 un, .int .u64 sd]), .int .i64 k, .int .i64 v] (fun _ => by kernel_rfl) (.tuple #[.int .i64 q, .int .i64 da]) (grown_only2 H1.out) ?_
                iterate 1 (refine wpQuiet_step (fun K hK => ?_); go_simp; refine hK _ ?_; clear hK K)
                repeat (go_big_quiet_step (fail))
                refine wpQuiet_nil ?_
                intro wa hwa
                have owa := only_of_plus hwa
                clear hwa
                have B8 := Lib.hid (owa.got B7.out (by simp)); have E8 := Lib.hid (owa.got E7.out (by simp)); have OA := Lib.hid owa
                obtain ⟨bk3, off3, hp3, t1, lt1⟩ := VRow.it (l := xn.sv) HX.out.srv (O7.out.nil_trans owa) hjl
                rw [← HV2.out] at t1
                cases hp3
                clear owa
                clear c0 c1 c2 c3 c4 lc
                clear x0 x1 x2 x3 x4 x5 x6 lx
                clear t0 lt
                have c0 := cell_got B8.out 0; have c1 := cell_got B8.out 1; have c2 := cell_got B8.out 2; have c3 := cell_got B8.out 3; have c4 := cell_got B8.out 4; have lc := got_lt B8.out
                have x0 := cell_got E8.out 0; have x1 := cell_got E8.out 1; have x2 := cell_got E8.out 2; have x3 := cell_got E8.out 3; have x4 := cell_got E8.out 4; have x5 := cell_got E8.out 5; have x6 := cell_got E8.out 6; have lx := got_lt E8.out
                have H3 : Hid (∀ w', Only [] wa w' → Calls Tryd.prog 15 #[(.agg #[.slice (some ⟨bk, off, none⟩) nd.length cn, .slice pl lk.length cl, .slice pf ft.length cf, .int .i64 un, .int .u64 sd]), .int .i64 v, .int .i64 k] w' fun e w'' => e = .returned (.tuple #[.int .i64 q, .int .i64 db]) ∧ Only [] w' w'') := Lib.hid (fun w' ho => H2.out w' (OA.out.nil_trans ho))
                go_wp2_with fail
                refine wp_region_grown [0, 1, 2, 3, 4, 5, 6, 7, 8, 9, 10, 11, 12] [] (by kernel_rfl) (by kernel_rfl) ?_
                simp only [pick, List.map_cons, List.map_nil, List.getD_cons_succ, List.getD_cons_zero]
                iterate 1 (refine wpQuiet_step (fun K hK => ?_); go_simp; refine hK _ ?_; clear hK K)
                repeat (go_big_quiet_step (fail))
                refine wpQuiet_enter_w (by kernel_rfl) 15 #[(.agg #[.slice (some ⟨bk, off, none⟩) nd.length cn, .slice pl lk.length cl, .slice pf ft.length cf, .int .i64 un, .int .u64 sd]), .int .i64 v, .int .i64 k] (fun _ => by kernel_rfl) (.tuple #[.int .i64 q, .int .i64 db]) (grown_only2 H3.out) ?_
                iterate 1 (refine wpQuiet_step (fun K hK => ?_); go_simp; refine hK _ ?_; clear hK K)
                repeat (go_big_quiet_step (fail))
                refine wpQuiet_nil ?_
                intro wb hwb
                have owb := only_of_plus hwb
                clear hwb
                have B9 := Lib.hid (owb.got B8.out (by simp)); have OB := Lib.hid (OA.out.nil_trans owb)
                clear owb
                clear c0 c1 c2 c3 c4 lc
                clear x0 x1 x2 x3 x4 x5 x6 lx
                clear t1 lt1
                have c0 := cell_got B9.out 0; have c1 := cell_got B9.out 1; have c2 := cell_got B9.out 2; have c3 := cell_got B9.out 3; have c4 := cell_got B9.out 4; have lc := got_lt B9.out
                go_wp2
                go_roundw
                case rel => exact ⟨j + 1, by omega, by go_num, OI.out.nil_trans OB.out⟩
                case measure => simp [intOf]; omega
              · obtain rfl : j = xn.sv.length := by omega
                go_wp2
                go_roundw
                case rel => exact ⟨k + 1, by omega, by go_num, OR.out.nil_trans OI.out⟩
                case measure => simp [intOf]; omega
          | false =>
            rw [hrf] at x3
            go_wp2_with fail
            refine wp_region_grown [0, 1, 2, 3, 4, 5, 6, 7, 8, 9, 10, 11, 12, 13, 14, 15, 16, 17, 18, 19, 20, 21] [] (by kernel_rfl) (by kernel_rfl) ?_
            simp only [pick, List.map_cons, List.map_nil, List.getD_cons_succ, List.getD_cons_zero]
            iterate 1 (refine wpQuiet_step (fun K hK => ?_); go_simp; refine hK _ ?_; clear hK K)
            repeat (go_big_quiet_step (fail))
            refine wpQuiet_enter_w (by kernel_rfl) 13 #[.agg #[.int .i64 xn.ph, .slice ps xn.sg.length cs]] (fun _ => by kernel_rfl) (.int .i64 0) (grown_only2 H1.out) ?_
            iterate 1 (refine wpQuiet_step (fun K hK => ?_); go_simp; refine hK _ ?_; clear hK K)
            repeat (go_big_quiet_step (fail))
            refine wpQuiet_enter_w (by kernel_rfl) 14 #[.agg #[.int .i64 xn.ph, .slice ps xn.sg.length cs]] (fun _ => by kernel_rfl) (.int .i64 bd) (grown_only2 H2.out) ?_
            iterate 1 (refine wpQuiet_step (fun K hK => ?_); go_simp; refine hK _ ?_; clear hK K)
            repeat (go_big_quiet_step (fail))
            refine wpQuiet_nil ?_
            intro w6 hw6
            have ow6 := only_of_plus hw6
            clear hw6
            have B6 := Lib.hid (ow6.got B5.out (by simp)); have E6 := Lib.hid (ow6.got E5.out (by simp)); have O6 := Lib.hid (O5.out.nil_trans ow6); have OR := Lib.hid (OP.out.nil_trans ow6)
            clear ow6 e1 e1' H1 H2 
            clear c0 c1 c2 c3 c4 lc
            clear x0 x1 x2 x3 x4 x5 x6 lx
            have c0 := cell_got B6.out 0; have c1 := cell_got B6.out 1; have c2 := cell_got B6.out 2; have c3 := cell_got B6.out 3; have c4 := cell_got B6.out 4; have lc := got_lt B6.out
            have x0 := cell_got E6.out 0; have x1 := cell_got E6.out 1; have x2 := cell_got E6.out 2; have x3 := cell_got E6.out 3; have x4 := cell_got E6.out 4; have x5 := cell_got E6.out 5; have x6 := cell_got E6.out 6; have lx := got_lt E6.out
            go_wp2
            go_loopw [5] (fun vi wr => CnI w6 xn.sv.length vi wr) (fun vi _ => xn.sv.length - (intOf vi).toNat)
            case atStart => exact ⟨0, Nat.zero_le _, rfl, Only.refl _ _⟩
            case round =>
              obtain ⟨j, hj, rfl, ho⟩ := hrel
              have hsl : xn.sv.length ≤ 100000 := HX.out.ren
              clear c0 c1 c2 c3 c4 lc
              clear x0 x1 x2 x3 x4 x5 x6 lx
              have B7 := Lib.hid (ho.got B6.out (by simp)); have E7 := Lib.hid (ho.got E6.out (by simp)); have O7 := Lib.hid (O6.out.nil_trans ho); have OI := Lib.hid ho
              clear ho
              have c0 := cell_got B7.out 0; have c1 := cell_got B7.out 1; have c2 := cell_got B7.out 2; have c3 := cell_got B7.out 3; have c4 := cell_got B7.out 4; have lc := got_lt B7.out
              have x0 := cell_got E7.out 0; have x1 := cell_got E7.out 1; have x2 := cell_got E7.out 2; have x3 := cell_got E7.out 3; have x4 := cell_got E7.out 4; have x5 := cell_got E7.out 5; have x6 := cell_got E7.out 6; have lx := got_lt E7.out
              by_cases hjl : j < xn.sv.length
              · obtain ⟨bk2, off2, hp2, t0, lt⟩ := VRow.it (l := xn.sv) HX.out.srv O7.out hjl
                obtain ⟨q, d, hq, hl1, hl2⟩ := HSR.out j hjl
                have hjl' : (j : Int) < (xn.sv.length : Int) := by omega
                obtain ⟨v, hv⟩ : ∃ v, v = xn.sv.getD j 0 := ⟨_, rfl⟩
                rw [← hv] at t0 hl1 hl2
                have H1 : Hid (∀ w', Only [] wr w' → Calls Tryd.prog 15 #[(.agg #[.slice (some ⟨bk, off, none⟩) nd.length cn, .slice pl lk.length cl, .slice pf ft.length cf, .int .i64 un, .int .u64 sd]), .int .i64 k, .int .i64 v] w' fun e w'' => e = .returned (.tuple #[.int .i64 q, .int .i64 (dirI d)]) ∧ Only [] w' w'') := Lib.hid (fun w' ho => by
                  have h := pLnk _ (k : Int) v (HOK.out.kept (O7.out.nil_trans ho))
                  rw [HSC.out, hl1, lnkV_some] at h
                  exact h)
                have H2 : Hid (∀ w', Only [] wr w' → Calls Tryd.prog 15 #[(.agg #[.slice (some ⟨bk, off, none⟩) nd.length cn, .slice pl lk.length cl, .slice pf ft.length cf, .int .i64 un, .int .u64 sd]), .int .i64 v, .int .i64 k] w' fun e w'' => e = .returned (.tuple #[.int .i64 q, .int .i64 (dirI !d)]) ∧ Only [] w' w'') := Lib.hid (fun w' ho => by
                  have h := pLnk _ v (k : Int) (HOK.out.kept (O7.out.nil_trans ho))
                  rw [HSC.out, hl2, lnkV_some] at h
                  exact h)
                have HV2 := Lib.hid hv
                have hqk : q < lk.length := by have h := hq; rw [← HSC.out] at h; simpa [ScW.sc] using h
                have e1 : decide ((q : Int) < 0) = false := by simp
                have e2 : decide ((q : Int) ≥ (lk.length : Int)) = false := by simp; omega
                have e2' : decide ((lk.length : Int) ≤ (q : Int)) = false := by simp; omega
                have e3 : ((q : Int) != (q : Int)) = false := by simp
                have hdd : dirI d + dirI (!d) = 1 := by cases d <;> rfl
                have hd0 : 0 ≤ dirI d ∧ dirI d ≤ 1 := by cases d <;> decide
                have hd1 : 0 ≤ dirI (!d) ∧ dirI (!d) ≤ 1 := by cases d <;> decide
                generalize dirI d = da at H1 hdd hd0
                generalize dirI (!d) = db at H2 hdd hd1
                obtain ⟨hda0, hda1⟩ := hd0
                obtain ⟨hdb0, hdb1⟩ := hd1
                have e4 : (da + db != 1) = false := by simp [hdd]
                have e4' : (da + db == 1) = true := by simp [hdd]
                have hwr4 : IntKind.i64.wrap (da + db) = da + db := by rw [IntKind.wrap_i64]; omega
                clear hl1 hl2 hv hq hdd
                have hp2' : pv = some ⟨bk2, off2, none⟩ := hp2
                clear hp2
                subst hp2'
                go_wp2_with fail
                refine wp_region_grown [0, 1, 2, 3, 4, 5, 6, 7, 8, 9, 10, 11, 12] [] (by kernel_rfl) (by kernel_rfl) ?_
                simp only [pick, List.map_cons, List.map_nil, List.getD_cons_succ, List.getD_cons_zero]
                iterate 1 (refine wpQuiet_step (fun K hK => ?_); go_simp; refine hK _ ?_; clear hK K)
                repeat (go_big_quiet_step (fail))
                refine wpQuiet_enter_w (by kernel_rfl) 15 #[(.agg #[.slice (some ⟨bk, off, none⟩) nd.length cn, .slice pl lk.length cl, .slice pf ft.length cf, .int .i64 un, .int .u64 sd]), .int .i64 k, .int .i64 v] (fun _ => by kernel_rfl) (.tuple #[.int .i64 q, .int .i64 da]) (grown_only2 H1.out) ?_
                iterate 1 (refine wpQuiet_step (fun K hK => ?_); go_simp; refine hK _ ?_; clear hK K)
                repeat (go_big_quiet_step (fail))
                refine wpQuiet_nil ?_
                intro wa hwa
                have owa := only_of_plus hwa
                clear hwa
                have B8 := Lib.hid (owa.got B7.out (by simp)); have E8 := Lib.hid (owa.got E7.out (by simp)); have OA := Lib.hid owa
                obtain ⟨bk3, off3, hp3, t1, lt1⟩ := VRow.it (l := xn.sv) HX.out.srv (O7.out.nil_trans owa) hjl
                rw [← HV2.out] at t1
                cases hp3
                clear owa
                clear c0 c1 c2 c3 c4 lc
                clear x0 x1 x2 x3 x4 x5 x6 lx
                clear t0 lt
                have c0 := cell_got B8.out 0; have c1 := cell_got B8.out 1; have c2 := cell_got B8.out 2; have c3 := cell_got B8.out 3; have c4 := cell_got B8.out 4; have lc := got_lt B8.out
                have x0 := cell_got E8.out 0; have x1 := cell_got E8.out 1; have x2 := cell_got E8.out 2; have x3 := cell_got E8.out 3; have x4 := cell_got E8.out 4; have x5 := cell_got E8.out 5; have x6 := cell_got E8.out 6; have lx := got_lt E8.out
                have H3 : Hid (∀ w', Only [] wa w' → Calls Tryd.prog 15 #[(.agg #[.slice (some ⟨bk, off, none⟩) nd.length cn, .slice pl lk.length cl, .slice pf ft.length cf, .int .i64 un, .int .u64 sd]), .int .i64 v, .int .i64 k] w' fun e w'' => e = .returned (.tuple #[.int .i64 q, .int .i64 db]) ∧ Only [] w' w'') := Lib.hid (fun w' ho => H2.out w' (OA.out.nil_trans ho))
                go_wp2_with fail
                refine wp_region_grown [0, 1, 2, 3, 4, 5, 6, 7, 8, 9, 10, 11, 12] [] (by kernel_rfl) (by kernel_rfl) ?_
                simp only [pick, List.map_cons, List.map_nil, List.getD_cons_succ, List.getD_cons_zero]
                iterate 1 (refine wpQuiet_step (fun K hK => ?_); go_simp; refine hK _ ?_; clear hK K)
                repeat (go_big_quiet_step (fail))
                refine wpQuiet_enter_w (by kernel_rfl) 15 #[(.agg #[.slice (some ⟨bk, off, none⟩) nd.length cn, .slice pl lk.length cl, .slice pf ft.length cf, .int .i64 un, .int .u64 sd]), .int .i64 v, .int .i64 k] (fun _ => by kernel_rfl) (.tuple #[.int .i64 q, .int .i64 db]) (grown_only2 H3.out) ?_
                iterate 1 (refine wpQuiet_step (fun K hK => ?_); go_simp; refine hK _ ?_; clear hK K)
                repeat (go_big_quiet_step (fail))
                refine wpQuiet_nil ?_
                intro wb hwb
                have owb := only_of_plus hwb
                clear hwb
                have B9 := Lib.hid (owb.got B8.out (by simp)); have OB := Lib.hid (OA.out.nil_trans owb)
                clear owb
                clear c0 c1 c2 c3 c4 lc
                clear x0 x1 x2 x3 x4 x5 x6 lx
                clear t1 lt1
                have c0 := cell_got B9.out 0; have c1 := cell_got B9.out 1; have c2 := cell_got B9.out 2; have c3 := cell_got B9.out 3; have c4 := cell_got B9.out 4; have lc := got_lt B9.out
                go_wp2
                go_roundw
                case rel => exact ⟨j + 1, by omega, by go_num, OI.out.nil_trans OB.out⟩
                case measure => simp [intOf]; omega
              · obtain rfl : j = xn.sv.length := by omega
                go_wp2
                go_roundw
                case rel => exact ⟨k + 1, by omega, by go_num, OR.out.nil_trans OI.out⟩
                case measure => simp [intOf]; omega
        · obtain rfl : k = nd.length := by omega
          go_wp2
          go_loopw [10] (fun vi wr => CnI wo lk.length vi wr) (fun vi _ => lk.length - (intOf vi).toNat)
          case atStart => exact ⟨0, Nat.zero_le _, rfl, Only.refl _ _⟩
          case round =>
            obtain ⟨k, hk, rfl, ho⟩ := hrel
            have hnl2 : lk.length ≤ 100000 := HOK.out.ll
            clear c0 c1 c2 c3 c4 lc
            have B5 := Lib.hid (ho.got B4.out (by simp)); have O5 := Lib.hid (O4.out.nil_trans ho); have OI := Lib.hid ho
            clear ho
            have c0 := cell_got B5.out 0; have c1 := cell_got B5.out 1; have c2 := cell_got B5.out 2; have c3 := cell_got B5.out 3; have c4 := cell_got B5.out 4; have lc := got_lt B5.out
            by_cases hlt : k < lk.length
            · obtain ⟨bk, off, hp, lb, n0, n1, n2, n3, n4, n5, n6, n7, n8⟩ := VRow.lk (l := lk) HV.out.lk O5.out hlt
              subst hp
              have hx := HOK.out.lko _ (getD_mem lw0 hlt)
              have hnd : sc.lk.getD k lk0 = (lk.getD k lw0).l := by rw [← HSC.out]; exact lk_at hlt
              have hks : k < sc.lk.length := by rw [← HSC.out]; simpa [ScW.sc] using hlt
              have hno := (chkS_ok HC.out).lk k hks
              have hA := hno.lt
              have hL := hno.lk
              rw [hnd] at hA hL
              have hkl : (k : Int) < (lk.length : Int) := by omega
              clear hnd hks hno
              generalize lk.getD k lw0 = x at n0 n1 n2 n3 n4 n5 n6 n7 n8 hx hA hL
              have H1 : Hid (∀ w', Only [] wr w' → Calls Tryd.prog 16 #[lkV x.l x.p x.l.ch.length x.c] w' fun e w'' => e = .returned (.int .i64 0) ∧ Only [] w' w'') := Lib.hid (fun w' ho => by
                have h := pLink x.l (hx.row.kept (O5.out.nil_trans ho)) hx.len
                rw [hL] at h
                exact h)
              have e1 : decide (x.l.A ≥ x.l.B) = false := by simp; omega
              have e1' : decide (x.l.B ≤ x.l.A) = false := by simp; omega
              clear hx hL hA
              go_wp2_with fail
              refine wp_region_grown [0, 1, 2, 3, 4, 5, 6, 7, 8, 9, 10, 11, 12, 13, 14, 15, 16, 17, 18, 19, 20, 21, 22] [] (by kernel_rfl) (by kernel_rfl) ?_
              simp only [pick, List.map_cons, List.map_nil, List.getD_cons_succ, List.getD_cons_zero]
              iterate 1 (refine wpQuiet_step (fun K hK => ?_); go_simp; refine hK _ ?_; clear hK K)
              repeat (go_big_quiet_step (fail))
              refine wpQuiet_enter_w (by kernel_rfl) 16 #[lkV x.l x.p x.l.ch.length x.c] (fun _ => by kernel_rfl) (.int .i64 0) (grown_only2 H1.out) ?_
              iterate 1 (refine wpQuiet_step (fun K hK => ?_); go_simp; refine hK _ ?_; clear hK K)
              repeat (go_big_quiet_step (fail))
              refine wpQuiet_nil ?_
              intro wa hwa
              have owa := only_of_plus hwa
              clear hwa
              go_wp2
              go_roundw
              case rel => exact ⟨k + 1, by omega, by go_num, OI.out.nil_trans owa⟩
              case measure => simp [intOf]; omega
            · obtain rfl : k = lk.length := by omega
              have hf := pFault (HOK.out.ft.kept O5.out) HOK.out.lf
              have hfc : fcE ft = 0 := by have h := (chkS_ok HC.out).fc; rw [← HSC.out] at h; exact h
              have hun : inR un 1 1125899906842624 = true := by have h := (chkS_ok HC.out).un; rw [← HSC.out] at h; exact h
              have hu1 : (1 : Int) ≤ un := (inR_t.1 hun).1
              have e1 : decide (un ≥ 1) = true := by simp; omega
              have e1' : decide (1 ≤ un) = true := by simp; omega
              rw [show fcE (ScW.ft ⟨nd, lk, ft, un, sd, pn, cn, pl, cl, pf, cf⟩) = 0 from hfc] at hf
              have HFT := Lib.hid hf
              clear hf hfc hun
              go_wp2_with fail
              refine HFT.out.mono ?_
              rintro e w7 ⟨rfl, ho7⟩
              have O7 := Lib.hid (O5.out.nil_trans ho7); have B7 := Lib.hid (ho7.got B5.out (by simp))
              clear ho7
              clear c0 c1 c2 c3 c4 lc
              have c0 := cell_got B7.out 0; have c1 := cell_got B7.out 1; have c2 := cell_got B7.out 2; have c3 := cell_got B7.out 3; have c4 := cell_got B7.out 4; have lc := got_lt B7.out
              have HA := Lib.hid (pAwake w7 (HE.out.kept O7.out))
              go_wp2_with fail
              refine HA.out.mono ?_
              rintro e w8 ⟨rfl, ho8⟩
              have O8 := Lib.hid (O7.out.nil_trans ho8)
              clear ho8
              go_wp2
              go_ret
              exact ⟨rfl, O8.out⟩
    · obtain ⟨E, hE⟩ : ∃ E, E = chkS sc := ⟨_, rfl⟩
      rw [← hE] at hc ⊢
      have z0 : (E == 0) = false := by simp [hc]
      have z0n : (E != 0) = true := by simp [hc]
      clear hE hc
      clear c0 c1 c2 c3 c4 lc
      have HA := Lib.hid (pAwake w3 (HE.out.kept O3.out))
      go_wp2_with fail
      refine HA.out.mono ?_
      rintro e w8 ⟨rfl, ho8⟩
      have O8 := Lib.hid (O3.out.nil_trans ho8)
      clear ho8
      go_wp2
      go_ret
      exact ⟨rfl, O8.out⟩
  · rw [show smW ⟨nd, lk, ft, un, sd, pn, cn, pl, cl, pf, cf⟩ = false by simpa using hsm]
    clear hsm
    clear c0 c1 c2 c3 c4 lc
    have HA := Lib.hid (pAwake w2 (HE.out.kept O2.out))
    go_wp2_with fail
    refine HA.out.mono ?_
    rintro e w8 ⟨rfl, ho8⟩
    have O8 := Lib.hid (O2.out.nil_trans ho8)
    clear ho8
    go_wp2
    go_ret
    exact ⟨rfl, O8.out⟩
set_option maxRecDepth 100000 in
theorem scenarioParts_lifted (os : Os) (started : os.Started) (H : Type) (enc : TypeId × Value → H) :
    ReturnsInHanded {} Tryd.checked os 5 .any (fun w args => (Rows.scenarioPartsSpec.pre enc Tryd.prog Tryd.f5 Rows.scenarioPartsRow.domain false w args ∧ laidMetH Tryd.prog Rows.scenarioPartsRow.laid w) ∧ sizedMet enc Tryd.prog Tryd.f5 (OpenSpec.ofChange Rows.scenarioPartsSpec) false w args)
      (Rows.scenarioPartsSpec.post enc Tryd.prog Tryd.f5 false true false false) := by
  refine returnsInHanded_of_change_and_shaped (C := Tryd.checked) (X := fun w _ => laidMetH Tryd.prog Rows.scenarioPartsRow.laid w) (fun _ _ _ hh h => h.of_heap hh) law_own started (by kernel_rfl) Tryd.func5
    (ChangeSpec.witness_shaped (enc := enc) (C := Tryd.checked) (os := os) (X := fun w _ => laidMetH Tryd.prog Rows.scenarioPartsRow.laid w) false (World.laidAll Tryd.prog os Rows.scenarioPartsRow.laid) #[.agg #[.slice none 0 0, .slice none 0 0, .slice none 0 0, .int .i64 0, .int .u64 0]] 8 (World.laidAll_os _ _ _)
      (World.shaped_of_ZipB (by kernel_rfl) (by kernel_rfl)) (by kernel_rfl) (by kernel_rfl) (by kernel_rfl)
      (by rw [MakeChecks.laidMetH_plain _ _ _ (by kernel_rfl)]; exact laidMet_laidAll _ (by kernel_rfl) (by kernel_rfl))) ?_
  intro W base args ds gs before hval0 hW hcnd _ hL hsh _
  have hval : ∀ (j : Nat) t v, Tryd.f5.params[j]? = some t → args[j]? = some v → Value.okWide Tryd.prog W .any base t v := hval0
  have hW' := hW
  obtain ⟨p, q, hA0, hV, rfl, hfz, hnd⟩ := hW
  have hA : DataW.TrodAll enc Tryd.prog W 0 (fun _ => true) true Tryd.f5.params.toList args.toList ds p := hA0
  rw [Tryd.params5] at hA hval
  obtain ⟨v0, vs0, d0, ds0, p0, q0, hargs, rfl, rfl, h0, r0⟩ := trodAll_cons hA
  obtain ⟨rfl, rfl, rfl⟩ := trodAll_nil r0
  obtain rfl : args = #[v0] := by cases args; simp_all
  obtain ⟨rfl, rfl⟩ := trodVars_none hV
  have k0 := h0
  have lt0 : ∀ x ∈ p0, x.block < W.heap.size := by obtain ⟨m, hm⟩ := k0; exact DataW.trod_lt m _ _ _ hm
  obtain ⟨s0, rfl, z0⟩ := scene_of (hval 0 27 v0 rfl rfl) h0
  clear hA0 hval0
  refine (parts_walk s0 z0 (env_of_laid (by kernel_rfl) (by simp [Rows.scenarioPartsRow]) (by simp [Rows.scenarioPartsRow]) (by simp [Rows.scenarioPartsRow]) hL hsh)).mono fun e W' ⟨he, ho⟩ => ?_
  subst he
  have bel : Below W.heap.size W W' := ho.nil_below
  exact ⟨_, rfl, _, _, _, [], _, [], hW', trodAll_mk1 (shut_bool Tryd.underlying4 _), (trodAll_cons_mk (Below.trod law_laidOut (by kernel_rfl) (of_decide_eq_true (by kernel_rfl)) k0 bel lt0) trodAll_mk0), rfl, bel.frame _, fun h => by cases h⟩

theorem scenarioParts_over : Rows.scenarioPartsRow.holds Tryd.pinned (OpenSpec.ofChange Rows.scenarioPartsSpec) :=
  OpenClaim.holds_of_wide 5 Tryd.f5 rfl rfl rfl rfl rfl rfl rfl ⟨rfl, rfl, rfl, rfl, rfl⟩ rfl rfl rfl rfl rfl (by kernel_rfl) Tryd.func5 (by kernel_rfl)
    (of_decide_eq_true (by kernel_rfl)) (by unfold Func.isWrapper; first | (rw [if_pos (by decide +kernel)]; kernel_rfl) | (rw [if_neg (by decide +kernel)]; exact ⟨rfl, rfl⟩))
    (fun os started H enc _ => scenarioParts_lifted os started H enc)

theorem scenarioParts_holds : Rows.ScenarioPartsCardSaid :=
  Claim7.holds_tied_plain_at .later [] [.data, .data, .data, .data, .sentinel, .sentinel, .pinned] true (true, "b13adb8c9f517f690b233c117c471c0584d8ea699463bbaaa7331c9b66606ae0") true scenarioParts_over (fun _ h => by cases h) (by kernel_rfl) (fun _ h => by cases h) scenarioParts_row_tie rfl ⟨rfl, rfl⟩ (by kernel_rfl) rfl
    (fun f fn hf hfn => by
      obtain rfl : f = 5 := Option.some.inj ((show Tryd.prog.funcNamed "timesync/timesynclaw56.ScenarioParts" = some 5 by kernel_rfl).symm.trans hf) |>.symm
      obtain rfl : fn = Tryd.f5 := (Option.some.inj (Tryd.func5.symm.trans hfn)).symm
      exact ⟨by kernel_rfl, fun j t ht => by
        rw [Tryd.params5] at ht
        have hm : t ∈ [27] := by simpa using Array.mem_of_getElem? ht
        have hall : ([27].all fun u => !Tryd.prog.wantsStandIn u) = true := by kernel_rfl
        exact (show Tryd.prog.wantsStandIn t = false by simpa using List.all_eq_true.1 hall t hm)⟩)
    (by kernel_rfl)
end Go.Proofs.YthmeifdgkodjlaaDoor
