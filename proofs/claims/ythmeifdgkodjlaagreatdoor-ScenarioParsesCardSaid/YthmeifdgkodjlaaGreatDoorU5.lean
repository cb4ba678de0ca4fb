/- timesyncref56: links, joined and Check compute the error of a scene. Condition: the lengths. -/
import Derived.Test.YthmeifdgkodjlaaGreatDoorU2
import Derived.Test.YthmeifdgkodjlaaGreatDoorU3
import Derived.Test.YthmeifdgkodjlaaGreatDoorU4
import Derived.Test.YthmeifdgkodjlaaGreatDoorPc
namespace Go.Proofs.YthmeifdgkodjlaaGreatDoor
open Go.RowKit

def LksE (L : List Lk) (m : Int) : Int := fe (leE L m) L.length 0
def TwI (w : World) (L : List Lk) (x : Lk) (k : Nat) (vi : Value) (wr : World) : Prop :=
  ∃ j : Nat, j ≤ k ∧ vi = .int .i64 j ∧ twin ((L.take k).take j) x = false ∧ Only [] w wr
set_option maxRecDepth 100000 in
set_option maxHeartbeats 2500000 in
theorem rLinks {w : World} {p : Option Addr} {n cap : Nat} {ls : List LkW} (m : Int) (hv : VRow lkC 9 w p n cap ls) (hok : ∀ x ∈ ls, x.Ok w) (hn : n ≤ 100000) :
    Calls Tryz.prog 25 #[.slice p n cap, .int .i64 m] w fun e w' => e = .returned (.int .i64 (LksE (ls.map LkW.l) m)) ∧ Only [] w w' := by
  have hl := hv.len
  subst hl
  have HV := Lib.hid hv; have HO := Lib.hid hok; clear hv hok
  have hE : LksE (ls.map LkW.l) m = fe (leE (ls.map LkW.l) m) ls.length 0 := by unfold LksE; rw [List.length_map]
  generalize LksE (ls.map LkW.l) m = res at hE ⊢
  have HE := Lib.hid hE
  clear hE
  go_enter Tryz.func25, Tryz.ntmps25
  go_wp2
  go_loopw [5] (fun vi wr => FeI w (leE (ls.map LkW.l) m) ls.length vi wr) (fun vi _ => ls.length - (intOf vi).toNat)
  case atStart => exact ⟨0, Nat.zero_le _, rfl, rfl, Only.refl _ _⟩
  case round =>
    obtain ⟨k, hk, rfl, hfe, ho⟩ := hrel
    have HF := Lib.hid hfe; have OO := Lib.hid ho
    clear hfe ho
    by_cases hlt : k < ls.length
    · obtain ⟨bk, off, hp, lb, c0, c1, c2, c3, c4, c5, c6, c7, c8⟩ := HV.out.lk OO.out hlt
      have HXO := Lib.hid (HO.out _ (getD_mem lw0 hlt))
      have hle : leE (ls.map LkW.l) m k = clE (ls.getD k lw0).l ((ls.map LkW.l).take k) m := by rw [leE_cl, lk_at hlt]
      have HLN : Hid (leE (ls.map LkW.l) m k ≠ 0 → res = leE (ls.map LkW.l) m k) := Lib.hid (fun h => by rw [HE.out, HF.out, fe_no hlt h])
      have HLY : Hid (leE (ls.map LkW.l) m k = 0 → fe (leE (ls.map LkW.l) m) ls.length 0 = fe (leE (ls.map LkW.l) m) (ls.length - (k + 1)) (k + 1)) := Lib.hid (fun h => HF.out.trans (fe_yes hlt h))
      generalize ls.getD k lw0 = x at c0 c1 c2 c3 c4 c5 c6 c7 c8 HXO hle
      obtain ⟨⟨A, B, d0, d1, v0, v1, lo, sd, ch⟩, pc, cc⟩ := x
      have HP := Lib.hid (fun (w' : World) (ho : Only [] w w') => rLink (n := ch.length) ⟨A, B, d0, d1, v0, v1, lo, sd, ch⟩ (HXO.out.row.kept ho) HXO.out.len)
      dsimp only at HP c0 c1 c2 c3 c4 c5 c6 c7 c8 hle
      unfold lkV at HP
      dsimp only at HP
      have hle2 : leE (ls.map LkW.l) m k = if inR A 0 (m - 1) = true ∧ inR B 0 (m - 1) = true then (if B ≤ A then 12 else if twin ((ls.map LkW.l).take k) ⟨A, B, d0, d1, v0, v1, lo, sd, ch⟩ = true then 10 else linkE ⟨A, B, d0, d1, v0, v1, lo, sd, ch⟩) else 3 := hle
      clear hle
      generalize leE (ls.map LkW.l) m k = er at HLN HLY hle2
      have HC := Lib.hid hle2
      clear hle2
      subst hp
      go_upto_region 5 with (fail)
      refine alloc_abs (G := fun w0 => Code.wp _ _ _ _ w0) ?_
      intro w1 hb1 ho1 hs1
      have B1 := Lib.hid hb1; have O1 := Lib.hid (OO.out.nil_trans ho1)
      clear hb1 ho1 hs1 c0 c1 c2 c3 c4 c5 c6 c7 c8 lb
      have g0 := cell_got B1.out 0; have g1 := cell_got B1.out 1; have l0 := got_lt B1.out
      by_cases hA : inR A 0 (m - 1) = true
      · obtain ⟨hA0, hA1⟩ := inR_t.1 hA
        have hAx : decide (A < 0) = false := by simp; omega
        have hAy : decide (A ≥ m) = false := by simp; omega
        have hAz : decide (m ≤ A) = false := by simp; omega
        by_cases hB : inR B 0 (m - 1) = true
        · obtain ⟨hB0, hB1⟩ := inR_t.1 hB
          have hBx : decide (B < 0) = false := by simp; omega
          have hBy : decide (B ≥ m) = false := by simp; omega
          have hBz : decide (m ≤ B) = false := by simp; omega
          by_cases ho : B ≤ A
          · have ox : decide (A ≥ B) = true := decide_eq_true ho
            have oy : decide (B ≤ A) = true := decide_eq_true ho
            have h12 : er = 12 := by rw [HC.out, if_pos ⟨hA, hB⟩, if_pos ho]
            have HQ : Hid (res = 12) := Lib.hid ((HLN.out (by rw [h12]; decide)).trans h12)
            clear ho hA hB h12
            go_wp2
            go_ret
            exact ⟨by rw [HQ.out]; rfl, O1.out⟩
          · have ox : decide (A ≥ B) = false := decide_eq_false ho
            have oy : decide (B ≤ A) = false := decide_eq_false ho
            have HR : Hid (er = if twin ((ls.map LkW.l).take k) ⟨A, B, d0, d1, v0, v1, lo, sd, ch⟩ = true then 10 else linkE ⟨A, B, d0, d1, v0, v1, lo, sd, ch⟩) := Lib.hid (by rw [HC.out, if_pos ⟨hA, hB⟩, if_neg ho])
            clear ho hA hB
            go_wp2
            clear hAx hAy hAz hBx hBy hBz ox oy hA0 hA1 hB0 hB1
            go_loopw [7] (fun vi wr => TwI w1 (ls.map LkW.l) ⟨A, B, d0, d1, v0, v1, lo, sd, ch⟩ k vi wr) (fun vi _ => k - (intOf vi).toNat)
            case atStart => exact ⟨0, Nat.zero_le _, rfl, rfl, Only.refl _ _⟩
            case round =>
              clear g0 g1 l0
              obtain ⟨j, hj, rfl, htw, ho⟩ := hrel
              have HT := Lib.hid htw; have OI := Lib.hid ho; have O2 := Lib.hid (O1.out.nil_trans ho); have B2 := Lib.hid (ho.got B1.out (by simp))
              clear htw ho
              have g0 := cell_got B2.out 0; have g1 := cell_got B2.out 1; have l0 := got_lt B2.out
              by_cases hlj : j < k
              · have hjl : j < ls.length := by omega
                obtain ⟨bk', off', hp, lb, c0, c1, c2, c3, c4, c5, c6, c7, c8⟩ := HV.out.lk O2.out hjl
                cases hp
                clear c2 c3 c4 c5 c6 c7 c8
                have hgk : ((ls.map LkW.l).take k)[j]? = some (ls.getD j lw0).l := by rw [List.getElem?_take, if_pos hlj, List.getElem?_map, getD_some lw0 hjl]; rfl
                have htk : twin (((ls.map LkW.l).take k).take (j + 1)) ⟨A, B, d0, d1, v0, v1, lo, sd, ch⟩ = (decide ((ls.getD j lw0).l.A = A) && decide ((ls.getD j lw0).l.B = B)) := by
                  rw [List.take_add_one, hgk]
                  have := HT.out
                  unfold twin at this ⊢
                  simp only [Option.toList_some, List.any_append, this, Bool.false_or, List.any_cons, List.any_nil, Bool.or_false]
                have HTF : Hid (twin (((ls.map LkW.l).take k).take (j + 1)) ⟨A, B, d0, d1, v0, v1, lo, sd, ch⟩ = true → res = 10) := Lib.hid (fun h => by
                  have h10 : er = 10 := by
                    rw [HR.out, if_pos]
                    unfold twin at h ⊢
                    rw [List.any_eq_true] at h ⊢
                    obtain ⟨y, hy, hq⟩ := h
                    exact ⟨y, List.mem_of_mem_take hy, hq⟩
                  exact (HLN.out (by rw [h10]; decide)).trans h10)
                generalize (ls.getD j lw0).l = c at c0 c1 htk
                have HTK := Lib.hid htk
                clear hgk htk
                have hj1 : (j : Int) < (ls.length : Int) := by omega
                by_cases ha : c.A = A
                · have ax : (c.A == A) = true := by simp [ha]
                  by_cases hb : c.B = B
                  · have bx : (c.B == B) = true := by simp [hb]
                    have HQ : Hid (res = 10) := Lib.hid (HTF.out (by rw [HTK.out, ha, hb]; simp))
                    clear ha hb
                    go_wp2_with fail
                    go_quiet (fail)
                    go_wp2
                    go_ret
                    exact ⟨by rw [HQ.out]; rfl, O2.out.nil_trans (only_dr2 _ _)⟩
                  · have bx : (c.B == B) = false := by simp [hb]
                    have HQ := Lib.hid (HTK.out.trans (by rw [decide_eq_false hb, Bool.and_false]))
                    clear ha hb
                    go_wp2_with fail
                    go_quiet (fail)
                    go_wp2
                    go_roundw
                    case rel => exact ⟨j + 1, by omega, by go_num, HQ.out, OI.out.nil_trans (only_dr2 _ _)⟩
                    case measure => first | (simp [intOf]; done) | (simp [intOf]; omega)
                · have ax : (c.A == A) = false := by simp [ha]
                  have HQ := Lib.hid (HTK.out.trans (by rw [decide_eq_false ha, Bool.false_and]))
                  clear ha
                  go_wp2_with fail
                  go_quiet (fail)
                  go_wp2
                  go_roundw
                  case rel => exact ⟨j + 1, by omega, by go_num, HQ.out, OI.out.nil_trans (only_dr2 _ _)⟩
                  case measure => first | (simp [intOf]; done) | (simp [intOf]; omega)
              · obtain rfl : j = k := by omega
                have HQ : Hid (er = linkE ⟨A, B, d0, d1, v0, v1, lo, sd, ch⟩) := Lib.hid (by
                  have := HT.out
                  rw [List.take_of_length_le (List.length_take_le _ _)] at this
                  rw [HR.out, if_neg (by rw [this]; simp)])
                have g2 := cell_got B2.out 2; have g3 := cell_got B2.out 3; have g4 := cell_got B2.out 4; have g5 := cell_got B2.out 5; have g6 := cell_got B2.out 6; have g7 := cell_got B2.out 7; have g8 := cell_got B2.out 8
                go_wp2_with fail
                refine (HP.out wr O2.out).mono ?_
                rintro e w5 ⟨rfl, ho5⟩
                rw [← HQ.out]
                have O5 := Lib.hid (O2.out.nil_trans ho5)
                clear ho5 g0 g1 g2 g3 g4 g5 g6 g7 g8 l0
                by_cases h0 : er = 0
                · have HY := Lib.hid (HLY.out h0)
                  have ex : (er != 0) = false := by simp [h0]
                  have ey : (er == 0) = true := by simp [h0]
                  clear h0
                  go_wp2
                  go_roundw
                  case rel => exact ⟨j + 1, by omega, by go_num, HY.out, O5.out⟩
                  case measure => first | (simp [intOf]; done) | (simp [intOf]; omega)
                · have HY := Lib.hid (HLN.out h0)
                  have ex : (er != 0) = true := by simp [h0]
                  have ey : (er == 0) = false := by simp [h0]
                  clear h0
                  go_wp2
                  go_ret
                  exact ⟨by rw [HY.out]; rfl, O5.out⟩
        · have h3 : er = 3 := by rw [HC.out, if_neg (fun q => hB q.2)]
          have HQ : Hid (res = 3) := Lib.hid ((HLN.out (by rw [h3]; decide)).trans h3)
          rcases inR_no hB with hq | ⟨hq, hr⟩
          · have hBx : decide (B < 0) = true := by simp; omega
            clear hA hB
            go_wp2
            go_ret
            exact ⟨by rw [HQ.out]; rfl, O1.out⟩
          · have hBx : decide (B < 0) = false := by simp; omega
            have hBy : decide (B ≥ m) = true := by simp; omega
            have hBz : decide (m ≤ B) = true := by simp; omega
            clear hA hB
            go_wp2
            go_ret
            exact ⟨by rw [HQ.out]; rfl, O1.out⟩
      · have h3 : er = 3 := by rw [HC.out, if_neg (fun q => hA q.1)]
        have HQ : Hid (res = 3) := Lib.hid ((HLN.out (by rw [h3]; decide)).trans h3)
        rcases inR_no hA with hq | ⟨hq, hr⟩
        · have hAx : decide (A < 0) = true := by simp; omega
          clear hA
          go_wp2
          go_ret
          exact ⟨by rw [HQ.out]; rfl, O1.out⟩
        · have hAx : decide (A < 0) = false := by simp; omega
          have hAy : decide (A ≥ m) = true := by simp; omega
          have hAz : decide (m ≤ A) = true := by simp; omega
          clear hA
          go_wp2
          go_ret
          exact ⟨by rw [HQ.out]; rfl, O1.out⟩
    · have HQ : Hid (res = 0) := Lib.hid (by rw [HE.out, HF.out, fe_end (by omega)])
      obtain rfl : k = ls.length := by omega
      go_wp2
      go_ret
      exact ⟨by rw [HQ.out]; rfl, OO.out⟩
def JnE (N : List Nd) (L : List Lk) (m : Nat) : Bool := decide (fe (fun i => jnE L i (N.getD i nd0)) m 0 = 0)
set_option maxRecDepth 100000 in
set_option maxHeartbeats 2500000 in
theorem rJoined {w : World} (s : ScW) (hs : s.Ok w) :
    Calls Tryz.prog 26 #[scV s] w fun e w' => e = .returned (.bool (JnE (s.nd.map NdW.n) (s.lk.map LkW.l) s.nd.length)) ∧ Only [] w w' := by
  have hlnk := fun (a b : Int) (w' : World) (ho : Only [] w w') => rLnk s a b (hs.kept ho)
  obtain ⟨ns, ls, ft, un, sd, pn, cn, pl, cl, pf, cf⟩ := s
  have hn := hs.ln
  have HN := Lib.hid hs.nd; have HNO := Lib.hid hs.ndo
  clear hs
  unfold scV at hlnk ⊢
  dsimp only [ScW.sc] at hlnk hn HN HNO ⊢
  have hE : JnE (ns.map NdW.n) (ls.map LkW.l) ns.length = decide (fe (fun i => jnE (ls.map LkW.l) i ((ns.map NdW.n).getD i nd0)) ns.length 0 = 0) := rfl
  generalize JnE (ns.map NdW.n) (ls.map LkW.l) ns.length = res at hE ⊢
  have HE := Lib.hid hE; have HLNK := Lib.hid hlnk
  clear hE hlnk
  go_enter Tryz.func26, Tryz.ntmps26
  go_upto_region 1 with (fail)
  refine alloc_abs (G := fun w0 => Code.wp _ _ _ _ w0) ?_
  intro w3 hb1 ho1 hs1
  have B3 := Lib.hid hb1; have O3 := Lib.hid ho1
  clear hb1 ho1 hs1
  go_wp2
  go_loopw [3] (fun vi wr => FeI w3 (fun i => jnE (ls.map LkW.l) i ((ns.map NdW.n).getD i nd0)) ns.length vi wr) (fun vi _ => ns.length - (intOf vi).toNat)
  case atStart => exact ⟨0, Nat.zero_le _, rfl, rfl, Only.refl _ _⟩
  case round =>
    obtain ⟨k, hk, rfl, hfe, ho⟩ := hrel
    have HF := Lib.hid hfe; have OO := Lib.hid ho; have OA := Lib.hid (O3.out.nil_trans ho); have BB := Lib.hid (ho.got B3.out (by simp))
    clear hfe ho
    have g0 := cell_got BB.out 0; have g1 := cell_got BB.out 1; have g2 := cell_got BB.out 2; have g3 := cell_got BB.out 3; have g4 := cell_got BB.out 4; have l0 := got_lt BB.out
    by_cases hlt : k < ns.length
    · have HXO := Lib.hid (HNO.out _ (getD_mem nw0 hlt))
      have HJN : Hid (jnE (ls.map LkW.l) k (ns.getD k nw0).n = 11 → res = false) := Lib.hid (fun h => by
        have h2 := HF.out.trans (fe_no hlt (by rw [nd_at hlt, h]; decide))
        try dsimp only at h2
        rw [nd_at hlt, h] at h2
        rw [HE.out, h2]; rfl)
      have HJY : Hid (jnE (ls.map LkW.l) k (ns.getD k nw0).n = 0 → fe (fun i => jnE (ls.map LkW.l) i ((ns.map NdW.n).getD i nd0)) ns.length 0 = fe (fun i => jnE (ls.map LkW.l) i ((ns.map NdW.n).getD i nd0)) (ns.length - (k + 1)) (k + 1)) := Lib.hid (fun h => HF.out.trans (fe_yes hlt (by rw [nd_at hlt]; exact h)))
      have HCL := Lib.hid (fun (w' : World) (ho : Only [] w w') => HN.out.nd ho hlt)
      have hxr := HXO.out.ren
      generalize ns.getD k nw0 = x at HXO HJN HJY HCL hxr
      go_wp2
      clear g0 g1 g2 g3 g4 l0
      go_loopw [4] (fun vi wx => AlI wr (fun v => (lnk (ls.map LkW.l) k v).isSome) x.n.sv vi wx) (fun vi _ => x.n.sv.length - (intOf vi).toNat)
      case atStart => exact ⟨0, Nat.zero_le _, rfl, rfl, Only.refl _ _⟩
      case round =>
        obtain ⟨j, hj, rfl, hall, ho⟩ := hrel
        have HA := Lib.hid hall; have OO' := Lib.hid (OO.out.nil_trans ho); have OA' := Lib.hid (OA.out.nil_trans ho); have BB' := Lib.hid (ho.got BB.out (by simp)); have OI := Lib.hid ho
        clear hall ho
        obtain ⟨bn, offn, hpn, lbn, n0, n1, n2, n3, n4, n5, n6⟩ := HCL.out _ OA'.out
        subst hpn
        clear n0 n1 n2 n3 n4 n5
        have g0 := cell_got BB'.out 0; have g1 := cell_got BB'.out 1; have g2 := cell_got BB'.out 2; have g3 := cell_got BB'.out 3; have g4 := cell_got BB'.out 4; have l0 := got_lt BB'.out
        by_cases hlj : j < x.n.sv.length
        · obtain ⟨bk, off, hp, c0, lb⟩ := (HXO.out.srv).it OA'.out hlj
          have HTK := Lib.hid (all_take (P := fun v => (lnk (ls.map LkW.l) k v).isSome) 0 hlj HA.out)
          have HBD : Hid ((lnk (ls.map LkW.l) k (x.n.sv.getD j 0)).isSome = false → jnE (ls.map LkW.l) k x.n = 11) := Lib.hid (fun h => by unfold jnE; rw [if_neg (all_no (P := fun v => (lnk (ls.map LkW.l) k v).isSome) 0 hlj h)])
          generalize x.n.sv.getD j 0 = v at c0 HTK HBD
          rw [hp] at n6
          have hlv := fun (w' : World) (ho : Only [] w w') => HLNK.out k v w' ho
          generalize lnk (ls.map LkW.l) k v = o at HTK HBD hlv
          rcases o with _ | ⟨i, d⟩
          · have HQ : Hid (res = false) := Lib.hid (HJN.out (HBD.out rfl))
            unfold lnkV at hlv
            dsimp only at hlv
            have HLV := Lib.hid hlv
            clear hlv
            go_upto_region 7 with (fail)
            refine wp_region_grown [0, 1, 2, 3, 4, 5, 6, 7, 8, 9, 10, 11, 12, 13, 14, 15, 16] [] (by kernel_rfl) (by kernel_rfl) ?_
            simp only [pick, List.map_cons, List.map_nil, List.getD_cons_succ, List.getD_cons_zero]
            iterate 11 (refine wpQuiet_step (fun K hK => ?_); go_simp; refine hK _ ?_; clear hK K)
            refine wpQuiet_enter_w (by kernel_rfl) 19 #[.agg #[.slice (some ⟨bn, offn, none⟩) ns.length cn, .slice pl ls.length cl, .slice pf ft.length cf, .int .i64 un, .int .u64 sd], .int .i64 k, .int .i64 v] (fun _ => by kernel_rfl) (.tuple #[.int .i64 (-1), .int .i64 0]) (grown_only2 fun w' ho' => HLV.out w' (OA'.out.nil_trans ho')) ?_
            iterate 5 (refine wpQuiet_step (fun K hK => ?_); go_simp; refine hK _ ?_; clear hK K)
            refine wpQuiet_nil ?_
            intro w6 hw6
            have O7 := Lib.hid (OI.out.nil_trans (only_of_plus hw6)); have OC := Lib.hid (OA'.out.nil_trans (only_of_plus hw6))
            clear hw6 g0 g1 g2 g3 g4 l0 c0 lb n6 lbn
            go_wp2
            go_ret
            exact ⟨by rw [HQ.out]; rfl, OC.out⟩
          · have ix : decide ((i : Int) < 0) = false := decide_eq_false (by omega)
            have HQ := Lib.hid (HTK.out.trans rfl)
            cases d with
            | false =>
              unfold lnkV at hlv
              dsimp only at hlv
              have HLV := Lib.hid hlv
              clear hlv
              go_upto_region 7 with (fail)
              refine wp_region_grown [0, 1, 2, 3, 4, 5, 6, 7, 8, 9, 10, 11, 12, 13, 14, 15, 16] [] (by kernel_rfl) (by kernel_rfl) ?_
              simp only [pick, List.map_cons, List.map_nil, List.getD_cons_succ, List.getD_cons_zero]
              iterate 11 (refine wpQuiet_step (fun K hK => ?_); go_simp; refine hK _ ?_; clear hK K)
              refine wpQuiet_enter_w (by kernel_rfl) 19 #[.agg #[.slice (some ⟨bn, offn, none⟩) ns.length cn, .slice pl ls.length cl, .slice pf ft.length cf, .int .i64 un, .int .u64 sd], .int .i64 k, .int .i64 v] (fun _ => by kernel_rfl) (.tuple #[.int .i64 i, .int .i64 0]) (grown_only2 fun w' ho' => HLV.out w' (OA'.out.nil_trans ho')) ?_
              iterate 5 (refine wpQuiet_step (fun K hK => ?_); go_simp; refine hK _ ?_; clear hK K)
              refine wpQuiet_nil ?_
              intro w6 hw6
              have O7 := Lib.hid (OI.out.nil_trans (only_of_plus hw6)); have OC := Lib.hid (OA'.out.nil_trans (only_of_plus hw6))
              clear hw6 g0 g1 g2 g3 g4 l0 c0 lb n6 lbn
              go_wp2
              go_roundw
              case rel => exact ⟨j + 1, by omega, by go_num, HQ.out, O7.out⟩
              case measure => first | (simp [intOf]; done) | (simp [intOf]; omega)
            | true =>
              unfold lnkV at hlv
              dsimp only at hlv
              have HLV := Lib.hid hlv
              clear hlv
              go_upto_region 7 with (fail)
              refine wp_region_grown [0, 1, 2, 3, 4, 5, 6, 7, 8, 9, 10, 11, 12, 13, 14, 15, 16] [] (by kernel_rfl) (by kernel_rfl) ?_
              simp only [pick, List.map_cons, List.map_nil, List.getD_cons_succ, List.getD_cons_zero]
              iterate 11 (refine wpQuiet_step (fun K hK => ?_); go_simp; refine hK _ ?_; clear hK K)
              refine wpQuiet_enter_w (by kernel_rfl) 19 #[.agg #[.slice (some ⟨bn, offn, none⟩) ns.length cn, .slice pl ls.length cl, .slice pf ft.length cf, .int .i64 un, .int .u64 sd], .int .i64 k, .int .i64 v] (fun _ => by kernel_rfl) (.tuple #[.int .i64 i, .int .i64 1]) (grown_only2 fun w' ho' => HLV.out w' (OA'.out.nil_trans ho')) ?_
              iterate 5 (refine wpQuiet_step (fun K hK => ?_); go_simp; refine hK _ ?_; clear hK K)
              refine wpQuiet_nil ?_
              intro w6 hw6
              have O7 := Lib.hid (OI.out.nil_trans (only_of_plus hw6)); have OC := Lib.hid (OA'.out.nil_trans (only_of_plus hw6))
              clear hw6 g0 g1 g2 g3 g4 l0 c0 lb n6 lbn
              go_wp2
              go_roundw
              case rel => exact ⟨j + 1, by omega, by go_num, HQ.out, O7.out⟩
              case measure => first | (simp [intOf]; done) | (simp [intOf]; omega)
        · obtain rfl : j = x.n.sv.length := by omega
          have hal := HA.out
          rw [List.take_of_length_le (Nat.le_refl _)] at hal
          have HQ := Lib.hid (HJY.out (by unfold jnE; rw [if_pos hal]))
          clear hal
          go_wp2
          go_roundw
          case rel => exact ⟨k + 1, by omega, by go_num, HQ.out, OO'.out⟩
          case measure => first | (simp [intOf]; done) | (simp [intOf]; omega)
    · have HX0 : fe (fun i => jnE (ls.map LkW.l) i ((ns.map NdW.n).getD i nd0)) ns.length 0 = 0 := by rw [HF.out, fe_end (by omega)]
      have HQ : Hid (res = true) := Lib.hid (by rw [HE.out]; exact decide_eq_true HX0)
      clear HX0
      obtain rfl : k = ns.length := by omega
      go_wp2
      go_ret
      exact ⟨by rw [HQ.out]; rfl, OA.out⟩
set_option maxRecDepth 100000 in
set_option maxHeartbeats 2500000 in
theorem rCheck {w : World} (s : ScW) (hs : s.Ok w) :
    Calls Tryz.prog 11 #[scV s] w fun e w' => e = .returned (.int .i64 (chkS s.sc)) ∧ Only [] w w' := by
  have hE := chkS_eq s
  have hjn := fun (w' : World) (ho : Only [] w w') => rJoined s (hs.kept ho)
  generalize chkS s.sc = res at hE ⊢
  obtain ⟨ns, ls, ft, un, sd, pn, cn, pl, cl, pf, cf⟩ := s
  have hn := hs.ln; have hl := hs.ll; have hf := hs.lf
  have HN := Lib.hid hs.nd; have HL := Lib.hid hs.lk; have HFT := Lib.hid hs.ft; have HNO := Lib.hid hs.ndo; have HLO := Lib.hid hs.lko
  clear hs
  unfold scV at hjn ⊢
  dsimp only [ScW.sc] at hjn hE hn hl hf HN HL HFT HNO HLO ⊢
  have HE := Lib.hid hE; have HJN := Lib.hid hjn
  clear hE hjn
  go_enter Tryz.func11, Tryz.ntmps11
  go_upto_region 1 with (fail)
  refine alloc_abs (G := fun w0 => Code.wp _ _ _ _ w0) ?_
  intro w1 hb1 ho1 hs1
  have B1 := Lib.hid hb1; have O1 := Lib.hid ho1
  clear hb1 ho1 hs1
  have g0 := cell_got B1.out 0; have g1 := cell_got B1.out 1; have g2 := cell_got B1.out 2; have g3 := cell_got B1.out 3; have g4 := cell_got B1.out 4; have l0 := got_lt B1.out
  by_cases h0 : ns.length = 0
  · have z0 : ((ns.length : Int) == 0) = true := by rw [h0]; rfl
    have HQ : Hid (res = 14) := Lib.hid (by rw [HE.out, if_pos h0])
    go_wp2
    go_ret
    exact ⟨by rw [HQ.out]; rfl, O1.out⟩
  · have z0 : ((ns.length : Int) == 0) = false := by rw [beq_eq_false_iff_ne]; omega
    by_cases h24 : 24 < ns.length
    · have z1 : decide ((ns.length : Int) > 24) = true := decide_eq_true (by omega)
      have z2 : decide (24 < (ns.length : Int)) = true := decide_eq_true (by omega)
      have HQ : Hid (res = 6) := Lib.hid (by rw [HE.out, if_neg h0, if_pos (.inl h24)])
      go_wp2
      go_ret
      exact ⟨by rw [HQ.out]; rfl, O1.out⟩
    · have z1 : decide ((ns.length : Int) > 24) = false := decide_eq_false (by omega)
      have z2 : decide (24 < (ns.length : Int)) = false := decide_eq_false (by omega)
      by_cases h64 : 64 < ls.length
      · have z3 : decide ((ls.length : Int) > 64) = true := decide_eq_true (by omega)
        have z4 : decide (64 < (ls.length : Int)) = true := decide_eq_true (by omega)
        have HQ : Hid (res = 6) := Lib.hid (by rw [HE.out, if_neg h0, if_pos (.inr h64)])
        go_wp2
        go_ret
        exact ⟨by rw [HQ.out]; rfl, O1.out⟩
      · have z3 : decide ((ls.length : Int) > 64) = false := decide_eq_false (by omega)
        have z4 : decide (64 < (ls.length : Int)) = false := decide_eq_false (by omega)
        have H1 : Hid (res = chk1 (ns.map NdW.n) (ls.map LkW.l) ns.length ls.length ft un) := Lib.hid (by rw [HE.out, if_neg h0, if_neg (fun q => q.elim h24 h64)])
        clear h0 h24 h64
        go_wp2
        clear z0 z1 z2 z3 z4
        go_loopw [3] (fun vi wr => FeI w1 (fun i => ndE ((ns.map NdW.n).getD i nd0) i ns.length) ns.length vi wr) (fun vi _ => ns.length - (intOf vi).toNat)
        case atStart => exact ⟨0, Nat.zero_le _, rfl, rfl, Only.refl _ _⟩
        case round =>
          clear g0 g1 g2 g3 g4 l0
          obtain ⟨k, hk, rfl, hfe, ho⟩ := hrel
          have HF := Lib.hid hfe; have OO := Lib.hid ho; have OA := Lib.hid (O1.out.nil_trans ho); have BB := Lib.hid (ho.got B1.out (by simp))
          clear hfe ho
          have g0 := cell_got BB.out 0; have g1 := cell_got BB.out 1; have g2 := cell_got BB.out 2; have g3 := cell_got BB.out 3; have g4 := cell_got BB.out 4; have l0 := got_lt BB.out
          by_cases hlt : k < ns.length
          · obtain ⟨bk, off, hp, lb, c0, c1, c2, c3, c4, c5, c6⟩ := HN.out.nd OA.out hlt
            subst hp
            have HXO := Lib.hid (HNO.out _ (getD_mem nw0 hlt))
            have HNV := Lib.hid (fun (w' : World) (ho : Only [] w w') => rNode (ns.getD k nw0).n k ns.length (HXO.out.seg.kept ho) (HXO.out.srv.kept ho) HXO.out.len HXO.out.ren)
            have HNN : Hid (ndE (ns.getD k nw0).n k ns.length ≠ 0 → res = ndE (ns.getD k nw0).n k ns.length) := Lib.hid (fun h => by
              have h2 := HF.out.trans (fe_no hlt (by rw [nd_at hlt]; exact h))
              try dsimp only at h2
              rw [nd_at hlt] at h2
              rw [H1.out]; unfold chk1; rw [h2, if_neg h])
            have HNY : Hid (ndE (ns.getD k nw0).n k ns.length = 0 → fe (fun i => ndE ((ns.map NdW.n).getD i nd0) i ns.length) ns.length 0 = fe (fun i => ndE ((ns.map NdW.n).getD i nd0) i ns.length) (ns.length - (k + 1)) (k + 1)) := Lib.hid (fun h => HF.out.trans (fe_yes hlt (by rw [nd_at hlt]; exact h)))
            generalize ns.getD k nw0 = x at c0 c1 c2 c3 c4 c5 c6 HXO HNV HNN HNY
            unfold ndV at HNV
            generalize ndE x.n k ns.length = er at HNV HNN HNY
            go_upto_region 8 with (fail)
            refine wp_region_grown [0, 1, 2, 3, 4, 5, 6, 7, 8] [9, 10] (by kernel_rfl) (by kernel_rfl) ?_
            simp only [pick, List.map_cons, List.map_nil, List.getD_cons_succ, List.getD_cons_zero]
            iterate 9 (refine wpQuiet_step (fun K hK => ?_); go_simp; refine hK _ ?_; clear hK K)
            refine wpQuiet_nil ?_
            intro w6 hw6
            have O6 := Lib.hid (OO.out.nil_trans (only_of_plus hw6)); have OB := Lib.hid (OA.out.nil_trans (only_of_plus hw6))
            clear hw6 c0 c1 c2 c3 c4 c5 c6 lb g0 g1 g2 g3 g4 l0
            go_wp2_with fail
            refine (HNV.out w6 OB.out).mono ?_
            rintro e w7 ⟨rfl, ho7⟩
            have O7 := Lib.hid (O6.out.nil_trans ho7); have OC := Lib.hid (OB.out.nil_trans ho7)
            clear ho7
            by_cases h0 : er = 0
            · have HQ := Lib.hid (HNY.out h0)
              have ex : (er != 0) = false := by simp [h0]
              have ey : (er == 0) = true := by simp [h0]
              clear h0
              go_wp2
              go_roundw
              case rel => exact ⟨k + 1, by omega, by go_num, HQ.out, O7.out⟩
              case measure => first | (simp [intOf]; done) | (simp [intOf]; omega)
            · have HQ := Lib.hid (HNN.out h0)
              have ex : (er != 0) = true := by simp [h0]
              have ey : (er == 0) = false := by simp [h0]
              clear h0
              go_wp2
              go_ret
              exact ⟨by rw [HQ.out]; rfl, OC.out⟩
          · have HX0 : fe (fun i => ndE ((ns.map NdW.n).getD i nd0) i ns.length) ns.length 0 = 0 := by rw [HF.out, fe_end (by omega)]
            obtain rfl : k = ns.length := by omega
            have H2 : Hid (res = chk2 (ns.map NdW.n) (ls.map LkW.l) ns.length ls.length ft un) := Lib.hid (by rw [H1.out]; unfold chk1; rw [if_pos HX0])
            clear HX0 HF OO
            have HLKS := Lib.hid (rLinks (ns.length : Int) (HL.out.kept OA.out) (fun x hx => (HLO.out x hx).kept OA.out) hl)
            have hlk : LksE (ls.map LkW.l) (ns.length : Int) = fe (leE (ls.map LkW.l) ns.length) ls.length 0 := by unfold LksE; rw [List.length_map]
            rw [hlk] at HLKS
            clear hlk
            go_wp2_with fail
            refine HLKS.out.mono ?_
            rintro e w2 ⟨rfl, ho2⟩
            have B2 := Lib.hid (ho2.got BB.out (by simp)); have O2 := Lib.hid (OA.out.nil_trans ho2)
            clear ho2 g0 g1 g2 g3 g4 l0 BB OA HLKS
            have g0 := cell_got B2.out 0; have g1 := cell_got B2.out 1; have g2 := cell_got B2.out 2; have g3 := cell_got B2.out 3; have g4 := cell_got B2.out 4; have l0 := got_lt B2.out
            by_cases hle : fe (leE (ls.map LkW.l) ns.length) ls.length 0 = 0
            · have H3 : Hid (res = chk3 (ns.map NdW.n) (ls.map LkW.l) ns.length ft un) := Lib.hid (by rw [H2.out]; unfold chk2; rw [if_pos hle])
              rw [hle]
              clear hle
              go_wp2_with fail
              refine (HJN.out w2 O2.out).mono ?_
              rintro e w3 ⟨rfl, ho3⟩
              have B3 := Lib.hid (ho3.got B2.out (by simp)); have O3 := Lib.hid (O2.out.nil_trans ho3)
              clear ho3 g0 g1 g2 g3 g4 l0 B2 O2
              have g0 := cell_got B3.out 0; have g1 := cell_got B3.out 1; have g2 := cell_got B3.out 2; have g3 := cell_got B3.out 3; have g4 := cell_got B3.out 4; have l0 := got_lt B3.out
              have hjd : JnE (ns.map NdW.n) (ls.map LkW.l) ns.length = decide (fe (fun i => jnE (ls.map LkW.l) i ((ns.map NdW.n).getD i nd0)) ns.length 0 = 0) := rfl
              by_cases hj : fe (fun i => jnE (ls.map LkW.l) i ((ns.map NdW.n).getD i nd0)) ns.length 0 = 0
              · rw [hjd, decide_eq_true hj]
                have H4 : Hid (res = chk4 ns.length ft un) := Lib.hid (by rw [H3.out]; unfold chk3; rw [if_pos hj])
                clear hj hjd
                have HFTC := Lib.hid (rFault (HFT.out.kept O3.out) hf)
                go_wp2_with fail
                refine HFTC.out.mono ?_
                rintro e w5 ⟨rfl, ho5⟩
                have B5 := Lib.hid (ho5.got B3.out (by simp)); have O5 := Lib.hid (O3.out.nil_trans ho5)
                clear ho5 g0 g1 g2 g3 g4 l0 B3 O3 HFTC
                have g0 := cell_got B5.out 0; have g1 := cell_got B5.out 1; have g2 := cell_got B5.out 2; have g3 := cell_got B5.out 3; have g4 := cell_got B5.out 4; have l0 := got_lt B5.out
                by_cases hc : fcE ft = 0
                · have H5 : Hid (res = chk5 ns.length ft un) := Lib.hid (by rw [H4.out]; unfold chk4; rw [if_pos hc])
                  rw [hc]
                  clear hc
                  go_wp2
                  go_loopw [6] (fun vi wr => AlI w5 (fun f : Ft => decide (f.n < (ns.length : Int))) ft vi wr) (fun vi _ => ft.length - (intOf vi).toNat)
                  case atStart => exact ⟨0, Nat.zero_le _, rfl, rfl, Only.refl _ _⟩
                  case round =>
                    clear g0 g1 g2 g3 g4 l0
                    obtain ⟨k, hk, rfl, hfe, ho⟩ := hrel
                    have HF := Lib.hid hfe; have OO := Lib.hid ho; have OA := Lib.hid (O5.out.nil_trans ho); have BB := Lib.hid (ho.got B5.out (by simp))
                    clear hfe ho
                    have g0 := cell_got BB.out 0; have g1 := cell_got BB.out 1; have g2 := cell_got BB.out 2; have g3 := cell_got BB.out 3; have g4 := cell_got BB.out 4; have l0 := got_lt BB.out
                    by_cases hlt : k < ft.length
                    · obtain ⟨bk, off, hp, c0, c1, c2, c3, c4, lb⟩ := HFT.out.ft OA.out hlt
                      subst hp
                      have HTK := Lib.hid (all_take ft0 hlt HF.out)
                      have HBD : Hid (decide ((ft.getD k ft0).n < (ns.length : Int)) = false → res = 3) := Lib.hid (fun h => by rw [H5.out]; unfold chk5; rw [if_neg (all_no (P := fun f : Ft => decide (f.n < (ns.length : Int))) ft0 hlt h)])
                      generalize ft.getD k ft0 = f at c0 c1 c2 c3 c4 HTK HBD
                      clear c1 c2 c3 c4
                      by_cases hc : f.n < (ns.length : Int)
                      · have cx : decide (f.n ≥ (ns.length : Int)) = false := decide_eq_false (by omega)
                        have cy : decide ((ns.length : Int) ≤ f.n) = false := decide_eq_false (by omega)
                        have HQ := Lib.hid (HTK.out.trans (decide_eq_true hc))
                        clear hc
                        go_wp2_with fail
                        go_quiet (fail)
                        go_wp2
                        go_roundw
                        case rel => exact ⟨k + 1, by omega, by go_num, HQ.out, OO.out.nil_trans (only_dr2 _ _)⟩
                        case measure => first | (simp [intOf]; done) | (simp [intOf]; omega)
                      · have cx : decide (f.n ≥ (ns.length : Int)) = true := decide_eq_true (by omega)
                        have cy : decide ((ns.length : Int) ≤ f.n) = true := decide_eq_true (by omega)
                        have HQ := Lib.hid (HBD.out (decide_eq_false hc))
                        clear hc
                        go_wp2_with fail
                        go_quiet (fail)
                        go_wp2
                        go_ret
                        exact ⟨by rw [HQ.out]; rfl, OA.out.nil_trans (only_dr2 _ _)⟩
                    · obtain rfl : k = ft.length := by omega
                      have hal := HF.out
                      rw [List.take_of_length_le (Nat.le_refl _)] at hal
                      have HU : Hid (res = if inR un 1 1125899906842624 = true then 0 else 3) := Lib.hid (by rw [H5.out]; unfold chk5; rw [if_pos hal])
                      clear hal
                      by_cases hu : inR un 1 1125899906842624 = true
                      · obtain ⟨u0, u1⟩ := inR_t.1 hu
                        have ux : decide (un < 1) = false := decide_eq_false (by omega)
                        have uy : decide (un > 1125899906842624) = false := decide_eq_false (by omega)
                        have uz : decide (1125899906842624 < un) = false := decide_eq_false (by omega)
                        have HQ : Hid (res = 0) := Lib.hid (by rw [HU.out, if_pos hu])
                        clear hu
                        go_wp2
                        go_ret
                        exact ⟨by rw [HQ.out]; rfl, OA.out⟩
                      · have HQ : Hid (res = 3) := Lib.hid (by rw [HU.out, if_neg hu])
                        rcases inR_no hu with hq | ⟨hq, hr⟩
                        · have ux : decide (un < 1) = true := decide_eq_true (by omega)
                          clear hu
                          go_wp2
                          go_ret
                          exact ⟨by rw [HQ.out]; rfl, OA.out⟩
                        · have ux : decide (un < 1) = false := decide_eq_false (by omega)
                          have uy : decide (un > 1125899906842624) = true := decide_eq_true (by omega)
                          have uz : decide (1125899906842624 < un) = true := decide_eq_true (by omega)
                          clear hu
                          go_wp2
                          go_ret
                          exact ⟨by rw [HQ.out]; rfl, OA.out⟩
                · have HQ : Hid (res = fcE ft) := Lib.hid (by rw [H4.out]; unfold chk4; rw [if_neg hc])
                  have cx : (fcE ft != 0) = true := by simp [hc]
                  have cy : (fcE ft == 0) = false := by simp [hc]
                  clear hc
                  go_wp2
                  go_ret
                  exact ⟨by rw [HQ.out]; rfl, O5.out⟩
              · rw [hjd, decide_eq_false hj]
                have HQ : Hid (res = 11) := Lib.hid (by rw [H3.out]; unfold chk3; rw [if_neg hj])
                clear hj hjd
                go_wp2
                go_ret
                exact ⟨by rw [HQ.out]; rfl, O3.out⟩
            · have HQ : Hid (res = fe (leE (ls.map LkW.l) ns.length) ls.length 0) := Lib.hid (by rw [H2.out]; unfold chk2; rw [if_neg hle])
              generalize fe (leE (ls.map LkW.l) ns.length) ls.length 0 = er at hle HQ ⊢
              have cx : (er != 0) = true := by simp [hle]
              have cy : (er == 0) = false := by simp [hle]
              clear hle
              go_wp2
              go_ret
              exact ⟨by rw [HQ.out]; rfl, O2.out⟩
end Go.Proofs.YthmeifdgkodjlaaGreatDoor
