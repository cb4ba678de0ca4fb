/- timesyncref56's state.part reads the lines osc, seg and use. Condition: the lengths. -/
import Derived.Test.YthmeifdgkodjlaaGreatDoorUa
namespace Go.Proofs.YthmeifdgkodjlaaGreatDoor
open Go.RowKit
namespace Rf

set_option maxRecDepth 100000 in
set_option maxHeartbeats 4000000 in
theorem partOsc {W0 : Two} {w : World} {b : Nat} {x : SSt} {p : Option Addr} {n cap : Nat} {r : List (List UInt8)} (h : RdX W0 b w x) (hsz : SLe 100000 x) (hv : VRow strC 1 w p n cap (wOsc :: r)) (hn : n ≤ 100000) (hl : ∀ y ∈ wOsc :: r, y.length ≤ 1000000) :
    Calls Tryz.prog 80 #[.pointer (some ⟨b, 0, none⟩), .slice p n cap] w fun e w' => RdR W0 b (rdPart x wOsc r) e w' := by
  have hlen := hv.len
  subst hlen
  obtain ⟨hb0, hb1, ns, ls, vn, vl, vf, hR⟩ := h
  have hfl := hsz.sg
  have hx1 := hR.hn; have hle := hsz.nd
  have HN := Lib.hid (rNumbers 1 (by simp) hv hn hl)
  rw [show (wOsc :: r).drop 1 = r from rfl] at HN
  have HR := Lib.hid hR; have HV := Lib.hid hv; have H0 := Lib.hid hb0; have H1 := Lib.hid hb1
  obtain ⟨bw, off, hp, _, lw⟩ := HV.out.str (Only.refl [] w) (k := 0) (by simp)
  subst hp
  have hwp : 0 < (wOsc :: r).length := by simp
  generalize (wOsc :: r).length = nn at hn hwp ⊢ HN
  have hwp2 : (0 : Int) < (nn : Int) := by omega
  clear hR hv hl hb0 hb1 hsz
  obtain ⟨res, hres⟩ : ∃ res, res = rdPart x wOsc r := ⟨_, rfl⟩
  rw [← hres]
  go_enter Tryz.func80, Tryz.ntmps80
  go_wp2_with fail
  refine HN.out.mono ?_
  rintro e w2 ⟨hv4, ho2⟩
  have R2 := Lib.hid (HR.out.kept ho2); have O2 := Lib.hid (H1.out.nil_trans ho2); have V2 := Lib.hid (HV.out.kept ho2)
  clear HN H1 HV lw
  cases hq : numsO r with
  | none =>
    rw [hq] at hv4
    have he : e = .returned (.tuple #[.slice none 0 0, .bool false]) := hv4
    subst he
    have HQ : Hid (res = none) := Lib.hid (by rw [hres]; exact rdPart_none hq)
    clear hv4 hq hres ho2 HR
    have q0 := cell_got R2.out.box 0; have q5 := cell_got R2.out.box 5; have lq := got_lt R2.out.box
    go_upto_region 2 with (fail)
    refine wp_region_grown [0, 1, 2, 3, 4, 5, 6, 7, 8, 9, 10, 11, 12, 13, 14, 15, 16, 17, 18, 19, 20, 21, 22, 23, 24, 25, 26, 27, 28] [] (by kernel_rfl) (by kernel_rfl) ?_
    simp only [pick, List.map_cons, List.map_nil, List.getD_cons_succ, List.getD_cons_zero]
    iterate 1 (refine wpQuiet_step (fun K hK => ?_); go_simp; refine hK _ ?_; clear hK K)
    repeat (go_big_quiet_step (fail))
    refine wpQuiet_nil ?_
    intro w4 hw4
    have o4 := only_of_plus hw4
    clear hw4
    have O4 := Lib.hid (O2.out.nil_trans o4)
    clear o4
    go_wp2
    go_ret
    rw [HQ.out]
    exact ⟨rfl, O4.out⟩
  | some ms =>
    rw [hq] at hv4
    obtain ⟨v, he, hown⟩ : ∃ v, e = .returned (.tuple #[v, .bool true]) ∧ Own itC 3 1 w.heap.size w2 v ms := hv4
    subst he
    rcases ms with _ | ⟨k, _ | ⟨a, ms⟩⟩
    · have HQ : Hid (res = none) := Lib.hid (by rw [hres]; exact rdPart_nil hq)
      obtain ⟨p', cap', rfl, _⟩ := hown.vrow itC_len
      simp only [List.length_nil]
      clear hown hq hres ho2 HR
      have q0 := cell_got R2.out.box 0; have q5 := cell_got R2.out.box 5; have lq := got_lt R2.out.box
      go_upto_region 2 with (fail)
      refine wp_region_grown [0, 1, 2, 3, 4, 5, 6, 7, 8, 9, 10, 11, 12, 13, 14, 15, 16, 17, 18, 19, 20, 21, 22, 23, 24, 25, 26, 27, 28] [] (by kernel_rfl) (by kernel_rfl) ?_
      simp only [pick, List.map_cons, List.map_nil, List.getD_cons_succ, List.getD_cons_zero]
      iterate 1 (refine wpQuiet_step (fun K hK => ?_); go_simp; refine hK _ ?_; clear hK K)
      repeat (go_big_quiet_step (fail))
      refine wpQuiet_nil ?_
      intro w4 hw4
      have o4 := only_of_plus hw4
      clear hw4
      have O4 := Lib.hid (O2.out.nil_trans o4)
      clear o4
      go_wp2
      go_ret
      rw [HQ.out]
      exact ⟨rfl, O4.out⟩
    · have HQ : Hid (res = none) := Lib.hid (by
        rw [hres]
        by_cases hk : 0 < x.sc.nd.length ∧ k = (x.sc.nd.length : Int) - 1
        · rw [rdPart_yes hq hk]
        · exact rdPart_no hq hk)
      obtain ⟨p', cap', rfl, _⟩ := hown.vrow itC_len
      simp only [List.length_cons, List.length_nil]
      clear hown hq hres ho2 HR
      have q0 := cell_got R2.out.box 0; have q5 := cell_got R2.out.box 5; have lq := got_lt R2.out.box
      go_upto_region 2 with (fail)
      refine wp_region_grown [0, 1, 2, 3, 4, 5, 6, 7, 8, 9, 10, 11, 12, 13, 14, 15, 16, 17, 18, 19, 20, 21, 22, 23, 24, 25, 26, 27, 28] [] (by kernel_rfl) (by kernel_rfl) ?_
      simp only [pick, List.map_cons, List.map_nil, List.getD_cons_succ, List.getD_cons_zero]
      iterate 1 (refine wpQuiet_step (fun K hK => ?_); go_simp; refine hK _ ?_; clear hK K)
      repeat (go_big_quiet_step (fail))
      refine wpQuiet_nil ?_
      intro w4 hw4
      have o4 := only_of_plus hw4
      clear hw4
      have O4 := Lib.hid (O2.out.nil_trans o4)
      clear o4
      go_wp2
      go_ret
      rw [HQ.out]
      exact ⟨rfl, O4.out⟩
    · obtain ⟨g, capg, rfl, hgw, hrow⟩ : ∃ g capg, v = .slice (some ⟨g, 0, none⟩) (k :: a :: ms).length capg ∧ w.heap.size ≤ g ∧ RowAt itC 3 1 w2 g capg (k :: a :: ms) := by
        rcases hown with ⟨_, h⟩ | h
        · cases h
        · exact h
      clear hown
      have HGW := Lib.hid hgw
      have M2 := Lib.hid hrow
      have c0 : w2.cell? ⟨g, 0, none⟩ = some (.int .i64 k) := hrow.cell (i := 0) (j := 0) itC_len rfl (by decide)
      have c1 : w2.cell? ⟨g, 1, none⟩ = some (.int .i64 a) := hrow.cell (i := 1) (j := 0) itC_len rfl (by decide)
      have lg := hrow.lt
      obtain ⟨L, hL⟩ : ∃ L, L = (k :: a :: ms).length := ⟨_, rfl⟩
      rw [← hL]
      simp only [List.length_cons] at hL
      have L2 : decide ((L : Int) < 2) = false := decide_eq_false (by omega)
      have L0 : (0 : Int) < (L : Int) := by omega
      have L1 : (1 : Int) < (L : Int) := by omega
      have HLE := Lib.hid hL
      clear hgw hrow hL
      rcases snoc_or ns with hns | ⟨rl, y, hns⟩
      · subst hns
        have HQ : Hid (res = none) := Lib.hid (by rw [hres]; exact rdPart_empty (by rw [hx1]; rfl))
        obtain ⟨pn, cn, hvn, _⟩ := HR.out.nd.vrow ndC_len
        subst hvn
        clear hq hres ho2 HR hx1 hfl hle
        have q0 := cell_got R2.out.box 0; have q5 := cell_got R2.out.box 5; have lq := got_lt R2.out.box
        simp only [List.length_nil] at q0
        go_upto_region 2 with (fail)
        refine wp_region_grown [0, 1, 2, 3, 4, 5, 6, 7, 8, 9, 10, 11, 12, 13, 14, 15, 16, 17, 18, 19, 20, 21, 22, 23, 24, 25, 26, 27, 28] [] (by kernel_rfl) (by kernel_rfl) ?_
        simp only [pick, List.map_cons, List.map_nil, List.getD_cons_succ, List.getD_cons_zero]
        iterate 1 (refine wpQuiet_step (fun K hK => ?_); go_simp; refine hK _ ?_; clear hK K)
        repeat (go_big_quiet_step (fail))
        refine wpQuiet_nil ?_
        intro w4 hw4
        have o4 := only_of_plus hw4
        clear hw4
        have O4 := Lib.hid (O2.out.nil_trans o4)
        clear o4
        go_wp2
        go_ret
        rw [HQ.out]
        exact ⟨rfl, O4.out⟩
      · subst hns
        have hrl : rl.length ≤ 100000 := by rw [hx1] at hle; simp at hle; omega
        have hxl : x.sc.nd.length = rl.length + 1 := by rw [hx1]; simp
        have hyc := hfl y.n (by rw [hx1]; simp)
        obtain ⟨gn, capn, hvn, hgB, hrown⟩ := own_at HR.out.nd
        subst hvn
        have N2 := Lib.hid (hrown.kept ho2 (by simp))
        have HSG : Hid (∀ k, (Value.slice y.ps y.n.sg.length y.cs).ownBlock = some k → k < w.heap.size) := Lib.hid (fun k hk => by obtain ⟨_, _, hq⟩ := (HR.out.sg y (by simp)).block hk; exact hq.lt)
        have HSV : Hid (∀ k, (Value.slice y.pv y.n.sv.length y.cv).ownBlock = some k → k < w.heap.size) := Lib.hid (fun k hk => by obtain ⟨_, _, hq⟩ := (HR.out.sv y (by simp)).block hk; exact hq.lt)
        have HRES := Lib.hid hres
        have hwl : IntKind.i64.wrap (rl.length : Int) = (rl.length : Int) := by rw [IntKind.wrap_i64]; omega
        have hsub : ((rl.length : Int) + 1 - 1) = rl.length := by omega
        have hwl2 : IntKind.i64.wrap ((rl.length : Int) + 1 - 1) = (rl.length : Int) := by rw [hsub]; exact hwl
        have hz0 : (((rl.length : Int) + 1) == 0) = false := by rw [beq_eq_false_iff_ne]; omega
        have hkl : (rl.length : Int) < (rl.length : Int) + 1 := by omega
        have hkn : (0 : Int) ≤ (rl.length : Int) := by omega
        have HX1 := Lib.hid hx1
        clear hres hfl hle hrown hx1 ho2 HR
        have q0 := cell_got R2.out.box 0; have q5 := cell_got R2.out.box 5; have lq := got_lt R2.out.box
        by_cases hk : k = (rl.length : Int)
        · have HY := Lib.hid (HRES.out.trans (rdPart_yes hq ⟨by omega, by rw [hk, hxl]; omega⟩))
          clear hq HRES
          subst hk
          go_upto_region 2 with (fail)
          refine wp_region_grown [0, 1, 2, 3, 4, 5, 6, 7, 8, 9, 10, 11, 12, 13, 14, 15, 16, 17, 18, 19, 20, 21, 22, 23, 24, 25, 26, 27, 28] [] (by kernel_rfl) (by kernel_rfl) ?_
          simp only [pick, List.map_cons, List.map_nil, List.getD_cons_succ, List.getD_cons_zero]
          iterate 1 (refine wpQuiet_step (fun K hK => ?_); go_simp; refine hK _ ?_; clear hK K)
          repeat (go_big_quiet_step (fail))
          refine wpQuiet_nil ?_
          intro w4 hw4
          have o4 := only_of_plus hw4
          clear hw4
          have R4 := Lib.hid (R2.out.kept o4); have O4 := Lib.hid (O2.out.nil_trans o4); have V4 := Lib.hid (V2.out.kept o4); have N4 := Lib.hid (N2.out.kept o4 (by simp)); have M4 := Lib.hid (M2.out.kept o4 (by simp))
          clear o4 c0 c1 lg q0 q5 lq R2 O2 V2 N2 M2
          have q0 := cell_got R4.out.box 0; have q5 := cell_got R4.out.box 5; have lq := got_lt R4.out.box
          have c0 : w4.cell? ⟨g, 0, none⟩ = some (.int .i64 (rl.length : Int)) := M4.out.cell (i := 0) (j := 0) itC_len rfl (by decide)
          have c1 : w4.cell? ⟨g, 1, none⟩ = some (.int .i64 a) := M4.out.cell (i := 1) (j := 0) itC_len rfl (by decide)
          have lg := M4.out.lt
          obtain ⟨bw', off', hp', s0, lw4⟩ := V4.out.str (Only.refl [] w4) (k := 0) (by simp)
          cases hp'
          simp only [Nat.add_zero, List.getD_cons_zero] at s0
          have tO : (bstr wOsc).toList = [111, 115, 99] := by rw [Lib.toList_data]; rfl
          generalize bstr wOsc = S at s0 tO
          have hL := HLE.out
          by_cases hLn : L = 2
          · have ln2 : ((L : Int) == 2) = true := by rw [beq_iff_eq]; omega
            have ln3 : ((L : Int) == 3) = false := by rw [beq_eq_false_iff_ne]; omega
            obtain rfl : ms = [] := List.eq_nil_of_length_eq_zero (by omega)
            by_cases h3 : x.at_ = 3
            · have HQ : Hid (res = some ⟨{ x.sc with nd := lastN x.sc.nd (fun n => { n with ph := a }) }, 4⟩) := Lib.hid (by rw [HY.out]; exact if_pos ⟨by first | rfl | trivial, h3⟩)
              have e3 : ((x.at_ : Int) == 3) = true := by rw [beq_iff_eq]; omega
              clear HY hLn hL
              have cP : w4.cell? ⟨gn, rl.length * 7, none⟩ = some (.int .i64 y.n.ph) := N4.out.cell (i := rl.length) (j := 0) ndC_len row_last (by decide)
              clear cP
              go_upto_region 7 with (fail)
              refine wp_region_grown [0, 1, 2, 3, 4, 5, 6, 7, 8] [9, 10, 11, 12] (by kernel_rfl) (by kernel_rfl) ?_
              simp only [pick, List.map_cons, List.map_nil, List.getD_cons_succ, List.getD_cons_zero]
              iterate 9 (refine wpQuiet_step (fun K hK => ?_); go_simp; refine hK _ ?_; clear hK K)
              refine wpQuiet_nil ?_
              intro w5 hw5
              have R5 := Lib.hid (R4.out.kept (only_of_plus hw5)); have O5 := Lib.hid (O4.out.nil_trans (only_of_plus hw5)); have N5 := Lib.hid (N4.out.kept (only_of_plus hw5) (by simp))
              clear hw5 c1 c0 lg q0 q5 lq s0 lw4
              have cP : w5.cell? ⟨gn, rl.length * 7, none⟩ = some (.int .i64 y.n.ph) := N5.out.cell (i := rl.length) (j := 0) ndC_len row_last (by decide)
              have lP := N5.out.lt; have fP := N5.out.frozen (rl.length * 7); have fB := frozen_got R5.out.box 5; have q5 := cell_got R5.out.box 5; have lq := got_lt R5.out.box
              have hgb : gn ≠ b := fun e => R5.out.nd.ne_box R5.out.box (by decide) (by rw [e]; rfl)
              have hbg : b ≠ gn := fun e => hgb e.symm
              go_wp2_with fail
              have hSt := R5.out.setN (y' := ⟨{ y.n with ph := a }, y.ps, y.cs, y.pv, y.cv⟩) (x' := (⟨{ x.sc with nd := lastN x.sc.nd (fun n => { n with ph := a }) }, x.at_⟩ : SSt)) (j := 0) (u := .int .i64 a) (Only.refl [] w5) (by simp) (by simp) (by simp) (by simp) (by simp) (by simp) (by simp)
                (R5.out.sg y (by simp)) (R5.out.sv y (by simp)) (fun z hz => R5.out.apN rl y rfl z hz) (by decide) rfl (by rw [show ((⟨{ x.sc with nd := lastN x.sc.nd (fun n => { n with ph := a }) }, x.at_⟩ : SSt)).sc.nd = lastN x.sc.nd (fun n => { n with ph := a }) from rfl, HX1.out, List.map_append]; exact lastN_snoc _ _ _) rfl rfl rfl rfl rfl
              obtain ⟨gn', capn', he1, hgB', hgs, hRd⟩ := hSt
              cases he1
              rw [Nat.add_zero] at hRd
              go_ret
              rw [HQ.out]
              refine ⟨rfl, H0.out, ?_, _, ls, _, vl, vf, hRd.cell (x' := (⟨{ x.sc with nd := lastN x.sc.nd (fun n => { n with ph := a }) }, 4⟩ : SSt)) ((Only.refl [b] _).setCell (.inl (by simp)) _) (setCell_got _ hRd.box) rfl rfl rfl⟩
              exact (O5.out.setCell (.inr hgB') _).setCell (.inl (by simp)) _
            · have HQ : Hid (res = none) := Lib.hid (by
                rw [HY.out]
                show (if _ then _ else if _ then _ else none) = none; rw [if_neg (fun h => h3 h.2), if_neg (fun h => absurd h.1 (by decide))])
              have e3 : ((x.at_ : Int) == 3) = false := by rw [beq_eq_false_iff_ne]; omega
              clear HY hLn hL
              go_wp2
              go_ret
              rw [HQ.out]
              exact ⟨rfl, O4.out⟩
          · have HQ : Hid (res = none) := Lib.hid (by
              rw [HY.out]
              rcases ms with _ | ⟨p, _ | ⟨q, l⟩⟩
              · simp at hL; exact absurd hL hLn
              · exact if_neg (fun h => absurd h.1 (by decide))
              · rfl)
            clear HY
            have ln : ((L : Int) == 2) = false := by rw [beq_eq_false_iff_ne]; omega
            clear hLn hL
            go_wp2
            go_ret
            rw [HQ.out]
            exact ⟨rfl, O4.out⟩
        · have HQ : Hid (res = none) := Lib.hid (by rw [HRES.out]; exact rdPart_no hq (fun q => hk (by have := q.2; omega)))
          have dk : (k != (rl.length : Int)) = true := by simp [hk]
          have dk2 : (k == (rl.length : Int)) = false := by simp [hk]
          clear hq hk HRES
          go_upto_region 2 with (fail)
          refine wp_region_grown [0, 1, 2, 3, 4, 5, 6, 7, 8, 9, 10, 11, 12, 13, 14, 15, 16, 17, 18, 19, 20, 21, 22, 23, 24, 25, 26, 27, 28] [] (by kernel_rfl) (by kernel_rfl) ?_
          simp only [pick, List.map_cons, List.map_nil, List.getD_cons_succ, List.getD_cons_zero]
          iterate 1 (refine wpQuiet_step (fun K hK => ?_); go_simp; refine hK _ ?_; clear hK K)
          repeat (go_big_quiet_step (fail))
          refine wpQuiet_nil ?_
          intro w4 hw4
          have o4 := only_of_plus hw4
          clear hw4
          have O4 := Lib.hid (O2.out.nil_trans o4)
          clear o4
          go_wp2
          go_ret
          rw [HQ.out]
          exact ⟨rfl, O4.out⟩
set_option maxRecDepth 100000 in
set_option maxHeartbeats 4000000 in
theorem partSeg {W0 : Two} {w : World} {b : Nat} {x : SSt} {p : Option Addr} {n cap : Nat} {r : List (List UInt8)} (h : RdX W0 b w x) (hsz : SLe 100000 x) (hv : VRow strC 1 w p n cap (wSeg :: r)) (hn : n ≤ 100000) (hl : ∀ y ∈ wSeg :: r, y.length ≤ 1000000) :
    Calls Tryz.prog 80 #[.pointer (some ⟨b, 0, none⟩), .slice p n cap] w fun e w' => RdR W0 b (rdPart x wSeg r) e w' := by
  have hlen := hv.len
  subst hlen
  obtain ⟨hb0, hb1, ns, ls, vn, vl, vf, hR⟩ := h
  have hfl := hsz.sg
  have hx1 := hR.hn; have hle := hsz.nd
  have HN := Lib.hid (rNumbers 1 (by simp) hv hn hl)
  rw [show (wSeg :: r).drop 1 = r from rfl] at HN
  have HR := Lib.hid hR; have HV := Lib.hid hv; have H0 := Lib.hid hb0; have H1 := Lib.hid hb1
  obtain ⟨bw, off, hp, _, lw⟩ := HV.out.str (Only.refl [] w) (k := 0) (by simp)
  subst hp
  have hwp : 0 < (wSeg :: r).length := by simp
  generalize (wSeg :: r).length = nn at hn hwp ⊢ HN
  have hwp2 : (0 : Int) < (nn : Int) := by omega
  clear hR hv hl hb0 hb1 hsz
  obtain ⟨res, hres⟩ : ∃ res, res = rdPart x wSeg r := ⟨_, rfl⟩
  rw [← hres]
  go_enter Tryz.func80, Tryz.ntmps80
  go_wp2_with fail
  refine HN.out.mono ?_
  rintro e w2 ⟨hv4, ho2⟩
  have R2 := Lib.hid (HR.out.kept ho2); have O2 := Lib.hid (H1.out.nil_trans ho2); have V2 := Lib.hid (HV.out.kept ho2)
  clear HN H1 HV lw
  cases hq : numsO r with
  | none =>
    rw [hq] at hv4
    have he : e = .returned (.tuple #[.slice none 0 0, .bool false]) := hv4
    subst he
    have HQ : Hid (res = none) := Lib.hid (by rw [hres]; exact rdPart_none hq)
    clear hv4 hq hres ho2 HR
    have q0 := cell_got R2.out.box 0; have q5 := cell_got R2.out.box 5; have lq := got_lt R2.out.box
    go_upto_region 2 with (fail)
    refine wp_region_grown [0, 1, 2, 3, 4, 5, 6, 7, 8, 9, 10, 11, 12, 13, 14, 15, 16, 17, 18, 19, 20, 21, 22, 23, 24, 25, 26, 27, 28] [] (by kernel_rfl) (by kernel_rfl) ?_
    simp only [pick, List.map_cons, List.map_nil, List.getD_cons_succ, List.getD_cons_zero]
    iterate 1 (refine wpQuiet_step (fun K hK => ?_); go_simp; refine hK _ ?_; clear hK K)
    repeat (go_big_quiet_step (fail))
    refine wpQuiet_nil ?_
    intro w4 hw4
    have o4 := only_of_plus hw4
    clear hw4
    have O4 := Lib.hid (O2.out.nil_trans o4)
    clear o4
    go_wp2
    go_ret
    rw [HQ.out]
    exact ⟨rfl, O4.out⟩
  | some ms =>
    rw [hq] at hv4
    obtain ⟨v, he, hown⟩ : ∃ v, e = .returned (.tuple #[v, .bool true]) ∧ Own itC 3 1 w.heap.size w2 v ms := hv4
    subst he
    rcases ms with _ | ⟨k, _ | ⟨a, ms⟩⟩
    · have HQ : Hid (res = none) := Lib.hid (by rw [hres]; exact rdPart_nil hq)
      obtain ⟨p', cap', rfl, _⟩ := hown.vrow itC_len
      simp only [List.length_nil]
      clear hown hq hres ho2 HR
      have q0 := cell_got R2.out.box 0; have q5 := cell_got R2.out.box 5; have lq := got_lt R2.out.box
      go_upto_region 2 with (fail)
      refine wp_region_grown [0, 1, 2, 3, 4, 5, 6, 7, 8, 9, 10, 11, 12, 13, 14, 15, 16, 17, 18, 19, 20, 21, 22, 23, 24, 25, 26, 27, 28] [] (by kernel_rfl) (by kernel_rfl) ?_
      simp only [pick, List.map_cons, List.map_nil, List.getD_cons_succ, List.getD_cons_zero]
      iterate 1 (refine wpQuiet_step (fun K hK => ?_); go_simp; refine hK _ ?_; clear hK K)
      repeat (go_big_quiet_step (fail))
      refine wpQuiet_nil ?_
      intro w4 hw4
      have o4 := only_of_plus hw4
      clear hw4
      have O4 := Lib.hid (O2.out.nil_trans o4)
      clear o4
      go_wp2
      go_ret
      rw [HQ.out]
      exact ⟨rfl, O4.out⟩
    · have HQ : Hid (res = none) := Lib.hid (by
        rw [hres]
        by_cases hk : 0 < x.sc.nd.length ∧ k = (x.sc.nd.length : Int) - 1
        · rw [rdPart_yes hq hk]
        · exact rdPart_no hq hk)
      obtain ⟨p', cap', rfl, _⟩ := hown.vrow itC_len
      simp only [List.length_cons, List.length_nil]
      clear hown hq hres ho2 HR
      have q0 := cell_got R2.out.box 0; have q5 := cell_got R2.out.box 5; have lq := got_lt R2.out.box
      go_upto_region 2 with (fail)
      refine wp_region_grown [0, 1, 2, 3, 4, 5, 6, 7, 8, 9, 10, 11, 12, 13, 14, 15, 16, 17, 18, 19, 20, 21, 22, 23, 24, 25, 26, 27, 28] [] (by kernel_rfl) (by kernel_rfl) ?_
      simp only [pick, List.map_cons, List.map_nil, List.getD_cons_succ, List.getD_cons_zero]
      iterate 1 (refine wpQuiet_step (fun K hK => ?_); go_simp; refine hK _ ?_; clear hK K)
      repeat (go_big_quiet_step (fail))
      refine wpQuiet_nil ?_
      intro w4 hw4
      have o4 := only_of_plus hw4
      clear hw4
      have O4 := Lib.hid (O2.out.nil_trans o4)
      clear o4
      go_wp2
      go_ret
      rw [HQ.out]
      exact ⟨rfl, O4.out⟩
    · obtain ⟨g, capg, rfl, hgw, hrow⟩ : ∃ g capg, v = .slice (some ⟨g, 0, none⟩) (k :: a :: ms).length capg ∧ w.heap.size ≤ g ∧ RowAt itC 3 1 w2 g capg (k :: a :: ms) := by
        rcases hown with ⟨_, h⟩ | h
        · cases h
        · exact h
      clear hown
      have HGW := Lib.hid hgw
      have M2 := Lib.hid hrow
      have c0 : w2.cell? ⟨g, 0, none⟩ = some (.int .i64 k) := hrow.cell (i := 0) (j := 0) itC_len rfl (by decide)
      have c1 : w2.cell? ⟨g, 1, none⟩ = some (.int .i64 a) := hrow.cell (i := 1) (j := 0) itC_len rfl (by decide)
      have lg := hrow.lt
      obtain ⟨L, hL⟩ : ∃ L, L = (k :: a :: ms).length := ⟨_, rfl⟩
      rw [← hL]
      simp only [List.length_cons] at hL
      have L2 : decide ((L : Int) < 2) = false := decide_eq_false (by omega)
      have L0 : (0 : Int) < (L : Int) := by omega
      have L1 : (1 : Int) < (L : Int) := by omega
      have HLE := Lib.hid hL
      clear hgw hrow hL
      rcases snoc_or ns with hns | ⟨rl, y, hns⟩
      · subst hns
        have HQ : Hid (res = none) := Lib.hid (by rw [hres]; exact rdPart_empty (by rw [hx1]; rfl))
        obtain ⟨pn, cn, hvn, _⟩ := HR.out.nd.vrow ndC_len
        subst hvn
        clear hq hres ho2 HR hx1 hfl hle
        have q0 := cell_got R2.out.box 0; have q5 := cell_got R2.out.box 5; have lq := got_lt R2.out.box
        simp only [List.length_nil] at q0
        go_upto_region 2 with (fail)
        refine wp_region_grown [0, 1, 2, 3, 4, 5, 6, 7, 8, 9, 10, 11, 12, 13, 14, 15, 16, 17, 18, 19, 20, 21, 22, 23, 24, 25, 26, 27, 28] [] (by kernel_rfl) (by kernel_rfl) ?_
        simp only [pick, List.map_cons, List.map_nil, List.getD_cons_succ, List.getD_cons_zero]
        iterate 1 (refine wpQuiet_step (fun K hK => ?_); go_simp; refine hK _ ?_; clear hK K)
        repeat (go_big_quiet_step (fail))
        refine wpQuiet_nil ?_
        intro w4 hw4
        have o4 := only_of_plus hw4
        clear hw4
        have O4 := Lib.hid (O2.out.nil_trans o4)
        clear o4
        go_wp2
        go_ret
        rw [HQ.out]
        exact ⟨rfl, O4.out⟩
      · subst hns
        have hrl : rl.length ≤ 100000 := by rw [hx1] at hle; simp at hle; omega
        have hxl : x.sc.nd.length = rl.length + 1 := by rw [hx1]; simp
        have hyc := hfl y.n (by rw [hx1]; simp)
        obtain ⟨gn, capn, hvn, hgB, hrown⟩ := own_at HR.out.nd
        subst hvn
        have N2 := Lib.hid (hrown.kept ho2 (by simp))
        have HSG : Hid (∀ k, (Value.slice y.ps y.n.sg.length y.cs).ownBlock = some k → k < w.heap.size) := Lib.hid (fun k hk => by obtain ⟨_, _, hq⟩ := (HR.out.sg y (by simp)).block hk; exact hq.lt)
        have HSV : Hid (∀ k, (Value.slice y.pv y.n.sv.length y.cv).ownBlock = some k → k < w.heap.size) := Lib.hid (fun k hk => by obtain ⟨_, _, hq⟩ := (HR.out.sv y (by simp)).block hk; exact hq.lt)
        have HRES := Lib.hid hres
        have hwl : IntKind.i64.wrap (rl.length : Int) = (rl.length : Int) := by rw [IntKind.wrap_i64]; omega
        have hsub : ((rl.length : Int) + 1 - 1) = rl.length := by omega
        have hwl2 : IntKind.i64.wrap ((rl.length : Int) + 1 - 1) = (rl.length : Int) := by rw [hsub]; exact hwl
        have hz0 : (((rl.length : Int) + 1) == 0) = false := by rw [beq_eq_false_iff_ne]; omega
        have hkl : (rl.length : Int) < (rl.length : Int) + 1 := by omega
        have hkn : (0 : Int) ≤ (rl.length : Int) := by omega
        have HX1 := Lib.hid hx1
        clear hres hfl hle hrown hx1 ho2 HR
        have q0 := cell_got R2.out.box 0; have q5 := cell_got R2.out.box 5; have lq := got_lt R2.out.box
        by_cases hk : k = (rl.length : Int)
        · have HY := Lib.hid (HRES.out.trans (rdPart_yes hq ⟨by omega, by rw [hk, hxl]; omega⟩))
          clear hq HRES
          subst hk
          go_upto_region 2 with (fail)
          refine wp_region_grown [0, 1, 2, 3, 4, 5, 6, 7, 8, 9, 10, 11, 12, 13, 14, 15, 16, 17, 18, 19, 20, 21, 22, 23, 24, 25, 26, 27, 28] [] (by kernel_rfl) (by kernel_rfl) ?_
          simp only [pick, List.map_cons, List.map_nil, List.getD_cons_succ, List.getD_cons_zero]
          iterate 1 (refine wpQuiet_step (fun K hK => ?_); go_simp; refine hK _ ?_; clear hK K)
          repeat (go_big_quiet_step (fail))
          refine wpQuiet_nil ?_
          intro w4 hw4
          have o4 := only_of_plus hw4
          clear hw4
          have R4 := Lib.hid (R2.out.kept o4); have O4 := Lib.hid (O2.out.nil_trans o4); have V4 := Lib.hid (V2.out.kept o4); have N4 := Lib.hid (N2.out.kept o4 (by simp)); have M4 := Lib.hid (M2.out.kept o4 (by simp))
          clear o4 c0 c1 lg q0 q5 lq R2 O2 V2 N2 M2
          have q0 := cell_got R4.out.box 0; have q5 := cell_got R4.out.box 5; have lq := got_lt R4.out.box
          have c0 : w4.cell? ⟨g, 0, none⟩ = some (.int .i64 (rl.length : Int)) := M4.out.cell (i := 0) (j := 0) itC_len rfl (by decide)
          have c1 : w4.cell? ⟨g, 1, none⟩ = some (.int .i64 a) := M4.out.cell (i := 1) (j := 0) itC_len rfl (by decide)
          have lg := M4.out.lt
          obtain ⟨bw', off', hp', s0, lw4⟩ := V4.out.str (Only.refl [] w4) (k := 0) (by simp)
          cases hp'
          simp only [Nat.add_zero, List.getD_cons_zero] at s0
          have tO : (bstr wSeg).toList = [115, 101, 103] := by rw [Lib.toList_data]; rfl
          generalize bstr wSeg = S at s0 tO
          have hL := HLE.out
          by_cases hLn : L = 3
          · have ln2 : ((L : Int) == 2) = false := by rw [beq_eq_false_iff_ne]; omega
            have ln3 : ((L : Int) == 3) = true := by rw [beq_iff_eq]; omega
            obtain ⟨p, rfl⟩ : ∃ p, ms = [p] := by
              rcases ms with _ | ⟨p, _ | ⟨q, l⟩⟩
              · simp at hL; omega
              · exact ⟨p, rfl⟩
              · simp at hL; omega
            have c2 : w4.cell? ⟨g, 2, none⟩ = some (.int .i64 p) := M4.out.cell (i := 2) (j := 0) itC_len rfl (by decide)
            have L3 : (2 : Int) < (L : Int) := by omega
            by_cases h4 : x.at_ = 4
            · have HQ : Hid (res = some ⟨{ x.sc with nd := lastN x.sc.nd (fun n => { n with sg := n.sg ++ [⟨a, p⟩] }) }, 4⟩) := Lib.hid (by rw [HY.out]; exact if_pos ⟨by first | rfl | trivial, h4⟩)
              have e4 : ((x.at_ : Int) == 4) = true := by rw [beq_iff_eq]; omega
              have E4 := Lib.hid h4
              clear HY hLn hL h4
              go_upto_region 10 with (fail)
              have cS : w4.cell? ⟨gn, rl.length * 7 + 1, none⟩ = some (Value.slice y.ps y.n.sg.length y.cs) := N4.out.cell (i := rl.length) (j := 1) ndC_len row_last (by decide)
              have lP := N4.out.lt
              have HCO := Lib.hid (R4.out.sg y (by simp))
              obtain ⟨T, hT⟩ : ∃ T, T = (Value.slice y.ps y.n.sg.length y.cs).ownBlock.toList := ⟨_, rfl⟩
              have hbT : b ∉ T := fun hm => by rw [hT] at hm; exact HCO.out.ne_box R4.out.box (by decide) (by simpa using hm)
              have hnT : gn ∉ T := fun hm => by
                rw [hT] at hm
                obtain ⟨_, _, hq⟩ := HCO.out.block (by simpa using hm)
                exact hq.ne N4.out (by decide) rfl
              have hgT : g ∉ T := fun hm => by
                rw [hT] at hm
                have h1 := HSG.out g (by simpa using hm); have h2 := HGW.out
                omega
              have HTE := Lib.hid hT
              clear hT
              refine wp_region_calm2 [0, 1, 2, 3, 4, 5, 6, 7, 8, 9, 10, 11, 12, 13, 14, 15, 16, 17, 18, 19, 20, 21, 22] [25, 26, 27, 28] (OnlyC T w4) (by kernel_rfl) (by kernel_rfl) ?_
              simp only [pick, List.map_cons, List.map_nil, List.getD_cons_succ, List.getD_cons_zero]
              iterate 23 (refine wpCalm_step (fun K hK => ?_); go_simp; refine hK _ ?_; clear hK K)
              refine wpCalm_nil ?_
              clear cS lP
              refine Rest.by (X := Nat × Nat) (fun q a => ((((a.put (some 117) (.slice (some ⟨w4.heap.size, 0, none⟩) 1 1)).put (some 118) (.slice (some ⟨q.1, 0, none⟩) (y.n.sg.length + 1) q.2)).put (some 119) (.pointer (some ⟨gn, rl.length * 7, none⟩))).put (some 120) (.pointer (some ⟨gn, rl.length * 7, none⟩))).put (some 121) (.pointer (some ⟨gn, rl.length * 7 + 1, none⟩)))
                (fun q w' => Ob b W0 w' ∧ RdW W0.heap.size b w' (⟨{ x.sc with nd := lastN x.sc.nd (fun n => { n with sg := n.sg ++ [⟨a, p⟩] }) }, x.at_⟩ : SSt) (rl ++ [⟨{ y.n with sg := y.n.sg ++ [⟨a, p⟩] }, some ⟨q.1, 0, none⟩, q.2, y.pv, y.cv⟩]) ls (.slice (some ⟨gn, 0, none⟩) (rl.length + 1) capn) vl vf) ?_ ?_
              · rintro ⟨g9, cap9⟩ w9 ⟨ho9, hr9⟩
                simp only [Act.put, List.setIfInBounds_toArray, List.set_cons_succ, List.set_cons_zero]
                have O9 := Lib.hid ho9; have R9 := Lib.hid hr9
                clear ho9 hr9
                have BP := Lib.hid R9.out.box
                have lp := got_lt BP.out; have q5 := cell_got BP.out 5; have f5 := frozen_got BP.out 5
                go_wp2
                go_ret
                rw [HQ.out]
                rw [E4.out] at R9
                exact ⟨rfl, H0.out, O9.out, _, ls, _, vl, vf, R9.out⟩
              · refine wpAnyC_next [23] (by kernel_rfl) (by simp) (.inr (onlyC (Only.refl T w4).drew)) ?_
                simp only [List.mem_cons, List.not_mem_nil, or_false, forall_eq]
                refine wpOp_one rfl ?_
                go_wp2
                simp only [nrm]
                refine allocd_abs (G := wpAnyC _ _ _ _ _ _ _ _ _) ?_
                intro wa hna hoa hsa
                have MA := Lib.hid hna; have oA := Lib.hid hoa; have RA := Lib.hid (R4.out.kept hoa); have OA := Lib.hid (O4.out.nil_trans hoa); have CA := Lib.hid (HCO.out.kept hoa)
                clear hna hsa hoa
                refine wpAnyC_next [24] (by kernel_rfl) (by simp) (.inr (onlyC (oA.out.mono (by simp)))) ?_
                simp only [List.mem_cons, List.not_mem_nil, or_false, forall_eq]
                refine wpOp_one rfl ?_
                refine wpList_append_B (B := W0.heap.size) rfl _ _ 43 rfl 96 (.agg #[.int .i64 0, .int .i64 0]) 2 16 Tryz.underlying43 (by kernel_rfl) rfl (by decide) sgC_len sgC_one y.n.sg (Value.slice y.ps y.n.sg.length y.cs) rfl CA.out w4.heap.size ((⟨a, p⟩ : Sg)) rfl (fun j u hj => ?_) (by simp [maxLen]; omega) (by omega) (by have := OA.out.size; omega) ?_
                · rw [cell_got MA.out]; rw [← hj]; simp [sgC]
                · intro g9 cap9 wb hown hob hg9
                  rw [← HTE.out] at hob
                  have WB := Lib.hid hown; have oB := Lib.hid hob; have oS := Lib.hid ((oA.out.mono (S' := T) (by simp)).trans hob (fun x h => .inl h)); have HG9 := Lib.hid hg9
                  clear hown hob hg9
                  simp only [wpList, nrm]
                  refine wpAnyC_next [25] (by kernel_rfl) (by simp) (.inr (onlyC oS.out)) ?_
                  simp only [List.mem_cons, List.not_mem_nil, or_false, forall_eq]
                  refine wpOp_one rfl ?_
                  go_wp2
                  simp only [nrm]
                  refine wpAnyC_next [26] (by kernel_rfl) (by simp) (.inr (onlyC oS.out)) ?_
                  simp only [List.mem_cons, List.not_mem_nil, or_false, forall_eq]
                  refine wpOp_one rfl ?_
                  go_wp2
                  simp only [nrm]
                  refine wpAnyC_next [27] (by kernel_rfl) (by simp) (.inr (onlyC oS.out)) ?_
                  simp only [List.mem_cons, List.not_mem_nil, or_false, forall_eq]
                  refine wpOp_one rfl ?_
                  go_wp2
                  simp only [nrm]
                  refine wpAnyC_next [28] (by kernel_rfl) (by simp) (.inr (onlyC oS.out)) ?_
                  simp only [List.mem_cons, List.not_mem_nil, or_false, forall_eq]
                  refine wpOp_one rfl ?_
                  have NB := Lib.hid (N4.out.kept oS.out hnT)
                  have cD : wb.cell? ⟨gn, rl.length * 7 + 1, none⟩ = some (Value.slice y.ps y.n.sg.length y.cs) := NB.out.cell (i := rl.length) (j := 1) ndC_len row_last (by decide)
                  have fD := NB.out.frozen (rl.length * 7 + 1); have lD := NB.out.lt
                  go_wp2
                  simp only [nrm]
                  clear cD fD lD
                  have hz := oA.out.size
                  have hSt := RA.out.setN (y' := ⟨{ y.n with sg := y.n.sg ++ [⟨a, p⟩] }, some ⟨g9, 0, none⟩, cap9, y.pv, y.cv⟩) (x' := (⟨{ x.sc with nd := lastN x.sc.nd (fun n => { n with sg := n.sg ++ [⟨a, p⟩] }) }, x.at_⟩ : SSt)) (j := 1) (u := .slice (some ⟨g9, 0, none⟩) (y.n.sg.length + 1) cap9) oB.out hbT
                    (fun k hk => by rw [HTE.out] at hk; exact RA.out.nd.ne_of CA.out (by decide) k hk) (fun k hk => by rw [HTE.out] at hk; exact RA.out.lk.ne_of CA.out (by decide) k hk) (fun k hk => by rw [HTE.out] at hk; exact RA.out.ft.ne_of CA.out (by decide) k hk)
                    (fun z hz k hk => by rw [HTE.out] at hk; exact (RA.out.ch z hz).ne_of CA.out (by decide) k hk)
                    (fun z hz k hk => by rw [HTE.out] at hk; exact ptr_ne (RA.out.sg z (by simp [hz])) CA.out (RA.out.apN rl y rfl z hz).1 hk) (fun z hz k hk => by rw [HTE.out] at hk; exact (RA.out.sv z (by simp [hz])).ne_of CA.out (by decide) k hk)
                    (by simpa using WB.out) ((RA.out.sv y (by simp)).keptS oB.out (fun k hk => by rw [HTE.out] at hk; exact (RA.out.sv y (by simp)).ne_of CA.out (by decide) k hk))
                    (fun z hz => ⟨.inl (ptr_new (RA.out.sg z (by simp [hz])) CA.out (RA.out.apN rl y rfl z hz).1 (Nat.le_refl _) HG9.out), (RA.out.apN rl y rfl z hz).2⟩) (by decide) (by simp [ndC]) (by rw [show ((⟨{ x.sc with nd := lastN x.sc.nd (fun n => { n with sg := n.sg ++ [⟨a, p⟩] }) }, x.at_⟩ : SSt)).sc.nd = lastN x.sc.nd (fun n => { n with sg := n.sg ++ [⟨a, p⟩] }) from rfl, HX1.out, List.map_append]; exact lastN_snoc _ _ _) rfl rfl rfl rfl rfl
                  obtain ⟨gn', capn', he1, hgB', hgs, hRd⟩ := hSt
                  cases he1
                  have hOn : Ob b W0 wb := Ob.row (S := T) OA.out oB.out (fun k hk => by
                    rw [HTE.out] at hk
                    exact CA.out.blockC (by simpa using hk))
                  have hfin := hOn.setCell (p := ⟨gn, rl.length * 7 + 1, none⟩) (.inr hgB') (.slice (some ⟨g9, 0, none⟩) (y.n.sg.length + 1) cap9)
                  refine wpAnyC_done (by kernel_rfl) (.inl (late_of (by kernel_rfl))) ?_
                  first | exact ⟨(g9, cap9), rfl, hfin, hRd⟩ | exact ⟨g9, cap9, rfl, hfin, hRd⟩
            · have HQ : Hid (res = none) := Lib.hid (by
                rw [HY.out]
                exact if_neg (fun h => h4 h.2))
              have e4 : ((x.at_ : Int) == 4) = false := by rw [beq_eq_false_iff_ne]; omega
              clear HY hLn hL
              go_wp2
              go_ret
              rw [HQ.out]
              exact ⟨rfl, O4.out⟩
          · have HQ : Hid (res = none) := Lib.hid (by
              rw [HY.out]
              rcases ms with _ | ⟨p, _ | ⟨q, l⟩⟩
              · show (if _ then _ else if _ then _ else none) = none; rw [if_neg (fun h => absurd h.1 (by decide)), if_neg (fun h => absurd h.1 (by decide))]
              · simp at hL; exact absurd hL hLn
              · rfl)
            clear HY
            have ln : ((L : Int) == 3) = false := by rw [beq_eq_false_iff_ne]; omega
            clear hLn hL
            go_wp2
            go_ret
            rw [HQ.out]
            exact ⟨rfl, O4.out⟩
        · have HQ : Hid (res = none) := Lib.hid (by rw [HRES.out]; exact rdPart_no hq (fun q => hk (by have := q.2; omega)))
          have dk : (k != (rl.length : Int)) = true := by simp [hk]
          have dk2 : (k == (rl.length : Int)) = false := by simp [hk]
          clear hq hk HRES
          go_upto_region 2 with (fail)
          refine wp_region_grown [0, 1, 2, 3, 4, 5, 6, 7, 8, 9, 10, 11, 12, 13, 14, 15, 16, 17, 18, 19, 20, 21, 22, 23, 24, 25, 26, 27, 28] [] (by kernel_rfl) (by kernel_rfl) ?_
          simp only [pick, List.map_cons, List.map_nil, List.getD_cons_succ, List.getD_cons_zero]
          iterate 1 (refine wpQuiet_step (fun K hK => ?_); go_simp; refine hK _ ?_; clear hK K)
          repeat (go_big_quiet_step (fail))
          refine wpQuiet_nil ?_
          intro w4 hw4
          have o4 := only_of_plus hw4
          clear hw4
          have O4 := Lib.hid (O2.out.nil_trans o4)
          clear o4
          go_wp2
          go_ret
          rw [HQ.out]
          exact ⟨rfl, O4.out⟩
set_option maxRecDepth 100000 in
set_option maxHeartbeats 4000000 in
theorem partUse {W0 : Two} {w : World} {b : Nat} {x : SSt} {p : Option Addr} {n cap : Nat} {r : List (List UInt8)} (h : RdX W0 b w x) (hsz : SLe 100000 x) (hv : VRow strC 1 w p n cap (wUse :: r)) (hn : n ≤ 100000) (hl : ∀ y ∈ wUse :: r, y.length ≤ 1000000) :
    Calls Tryz.prog 80 #[.pointer (some ⟨b, 0, none⟩), .slice p n cap] w fun e w' => RdR W0 b (rdPart x wUse r) e w' := by
  have hlen := hv.len
  subst hlen
  obtain ⟨hb0, hb1, ns, ls, vn, vl, vf, hR⟩ := h
  have hfl := hsz.sg
  have hx1 := hR.hn; have hle := hsz.nd
  have HN := Lib.hid (rNumbers 1 (by simp) hv hn hl)
  rw [show (wUse :: r).drop 1 = r from rfl] at HN
  have HR := Lib.hid hR; have HV := Lib.hid hv; have H0 := Lib.hid hb0; have H1 := Lib.hid hb1
  obtain ⟨bw, off, hp, _, lw⟩ := HV.out.str (Only.refl [] w) (k := 0) (by simp)
  subst hp
  have hwp : 0 < (wUse :: r).length := by simp
  generalize (wUse :: r).length = nn at hn hwp ⊢ HN
  have hwp2 : (0 : Int) < (nn : Int) := by omega
  clear hR hv hl hb0 hb1 hsz
  obtain ⟨res, hres⟩ : ∃ res, res = rdPart x wUse r := ⟨_, rfl⟩
  rw [← hres]
  go_enter Tryz.func80, Tryz.ntmps80
  go_wp2_with fail
  refine HN.out.mono ?_
  rintro e w2 ⟨hv4, ho2⟩
  have R2 := Lib.hid (HR.out.kept ho2); have O2 := Lib.hid (H1.out.nil_trans ho2); have V2 := Lib.hid (HV.out.kept ho2)
  clear HN H1 HV lw
  cases hq : numsO r with
  | none =>
    rw [hq] at hv4
    have he : e = .returned (.tuple #[.slice none 0 0, .bool false]) := hv4
    subst he
    have HQ : Hid (res = none) := Lib.hid (by rw [hres]; exact rdPart_none hq)
    clear hv4 hq hres ho2 HR
    have q0 := cell_got R2.out.box 0; have q5 := cell_got R2.out.box 5; have lq := got_lt R2.out.box
    go_upto_region 2 with (fail)
    refine wp_region_grown [0, 1, 2, 3, 4, 5, 6, 7, 8, 9, 10, 11, 12, 13, 14, 15, 16, 17, 18, 19, 20, 21, 22, 23, 24, 25, 26, 27, 28] [] (by kernel_rfl) (by kernel_rfl) ?_
    simp only [pick, List.map_cons, List.map_nil, List.getD_cons_succ, List.getD_cons_zero]
    iterate 1 (refine wpQuiet_step (fun K hK => ?_); go_simp; refine hK _ ?_; clear hK K)
    repeat (go_big_quiet_step (fail))
    refine wpQuiet_nil ?_
    intro w4 hw4
    have o4 := only_of_plus hw4
    clear hw4
    have O4 := Lib.hid (O2.out.nil_trans o4)
    clear o4
    go_wp2
    go_ret
    rw [HQ.out]
    exact ⟨rfl, O4.out⟩
  | some ms =>
    rw [hq] at hv4
    obtain ⟨v, he, hown⟩ : ∃ v, e = .returned (.tuple #[v, .bool true]) ∧ Own itC 3 1 w.heap.size w2 v ms := hv4
    subst he
    rcases ms with _ | ⟨k, _ | ⟨a, ms⟩⟩
    · have HQ : Hid (res = none) := Lib.hid (by rw [hres]; exact rdPart_nil hq)
      obtain ⟨p', cap', rfl, _⟩ := hown.vrow itC_len
      simp only [List.length_nil]
      clear hown hq hres ho2 HR
      have q0 := cell_got R2.out.box 0; have q5 := cell_got R2.out.box 5; have lq := got_lt R2.out.box
      go_upto_region 2 with (fail)
      refine wp_region_grown [0, 1, 2, 3, 4, 5, 6, 7, 8, 9, 10, 11, 12, 13, 14, 15, 16, 17, 18, 19, 20, 21, 22, 23, 24, 25, 26, 27, 28] [] (by kernel_rfl) (by kernel_rfl) ?_
      simp only [pick, List.map_cons, List.map_nil, List.getD_cons_succ, List.getD_cons_zero]
      iterate 1 (refine wpQuiet_step (fun K hK => ?_); go_simp; refine hK _ ?_; clear hK K)
      repeat (go_big_quiet_step (fail))
      refine wpQuiet_nil ?_
      intro w4 hw4
      have o4 := only_of_plus hw4
      clear hw4
      have O4 := Lib.hid (O2.out.nil_trans o4)
      clear o4
      go_wp2
      go_ret
      rw [HQ.out]
      exact ⟨rfl, O4.out⟩
    · have HQ : Hid (res = none) := Lib.hid (by
        rw [hres]
        by_cases hk : 0 < x.sc.nd.length ∧ k = (x.sc.nd.length : Int) - 1
        · rw [rdPart_yes hq hk]
        · exact rdPart_no hq hk)
      obtain ⟨p', cap', rfl, _⟩ := hown.vrow itC_len
      simp only [List.length_cons, List.length_nil]
      clear hown hq hres ho2 HR
      have q0 := cell_got R2.out.box 0; have q5 := cell_got R2.out.box 5; have lq := got_lt R2.out.box
      go_upto_region 2 with (fail)
      refine wp_region_grown [0, 1, 2, 3, 4, 5, 6, 7, 8, 9, 10, 11, 12, 13, 14, 15, 16, 17, 18, 19, 20, 21, 22, 23, 24, 25, 26, 27, 28] [] (by kernel_rfl) (by kernel_rfl) ?_
      simp only [pick, List.map_cons, List.map_nil, List.getD_cons_succ, List.getD_cons_zero]
      iterate 1 (refine wpQuiet_step (fun K hK => ?_); go_simp; refine hK _ ?_; clear hK K)
      repeat (go_big_quiet_step (fail))
      refine wpQuiet_nil ?_
      intro w4 hw4
      have o4 := only_of_plus hw4
      clear hw4
      have O4 := Lib.hid (O2.out.nil_trans o4)
      clear o4
      go_wp2
      go_ret
      rw [HQ.out]
      exact ⟨rfl, O4.out⟩
    · obtain ⟨g, capg, rfl, hgw, hrow⟩ : ∃ g capg, v = .slice (some ⟨g, 0, none⟩) (k :: a :: ms).length capg ∧ w.heap.size ≤ g ∧ RowAt itC 3 1 w2 g capg (k :: a :: ms) := by
        rcases hown with ⟨_, h⟩ | h
        · cases h
        · exact h
      clear hown
      have HGW := Lib.hid hgw
      have M2 := Lib.hid hrow
      have c0 : w2.cell? ⟨g, 0, none⟩ = some (.int .i64 k) := hrow.cell (i := 0) (j := 0) itC_len rfl (by decide)
      have c1 : w2.cell? ⟨g, 1, none⟩ = some (.int .i64 a) := hrow.cell (i := 1) (j := 0) itC_len rfl (by decide)
      have lg := hrow.lt
      obtain ⟨L, hL⟩ : ∃ L, L = (k :: a :: ms).length := ⟨_, rfl⟩
      rw [← hL]
      simp only [List.length_cons] at hL
      have L2 : decide ((L : Int) < 2) = false := decide_eq_false (by omega)
      have L0 : (0 : Int) < (L : Int) := by omega
      have L1 : (1 : Int) < (L : Int) := by omega
      have HLE := Lib.hid hL
      clear hgw hrow hL
      rcases snoc_or ns with hns | ⟨rl, y, hns⟩
      · subst hns
        have HQ : Hid (res = none) := Lib.hid (by rw [hres]; exact rdPart_empty (by rw [hx1]; rfl))
        obtain ⟨pn, cn, hvn, _⟩ := HR.out.nd.vrow ndC_len
        subst hvn
        clear hq hres ho2 HR hx1 hfl hle
        have q0 := cell_got R2.out.box 0; have q5 := cell_got R2.out.box 5; have lq := got_lt R2.out.box
        simp only [List.length_nil] at q0
        go_upto_region 2 with (fail)
        refine wp_region_grown [0, 1, 2, 3, 4, 5, 6, 7, 8, 9, 10, 11, 12, 13, 14, 15, 16, 17, 18, 19, 20, 21, 22, 23, 24, 25, 26, 27, 28] [] (by kernel_rfl) (by kernel_rfl) ?_
        simp only [pick, List.map_cons, List.map_nil, List.getD_cons_succ, List.getD_cons_zero]
        iterate 1 (refine wpQuiet_step (fun K hK => ?_); go_simp; refine hK _ ?_; clear hK K)
        repeat (go_big_quiet_step (fail))
        refine wpQuiet_nil ?_
        intro w4 hw4
        have o4 := only_of_plus hw4
        clear hw4
        have O4 := Lib.hid (O2.out.nil_trans o4)
        clear o4
        go_wp2
        go_ret
        rw [HQ.out]
        exact ⟨rfl, O4.out⟩
      · subst hns
        have hrl : rl.length ≤ 100000 := by rw [hx1] at hle; simp at hle; omega
        have hxl : x.sc.nd.length = rl.length + 1 := by rw [hx1]; simp
        have hyc := hfl y.n (by rw [hx1]; simp)
        obtain ⟨gn, capn, hvn, hgB, hrown⟩ := own_at HR.out.nd
        subst hvn
        have N2 := Lib.hid (hrown.kept ho2 (by simp))
        have HSG : Hid (∀ k, (Value.slice y.ps y.n.sg.length y.cs).ownBlock = some k → k < w.heap.size) := Lib.hid (fun k hk => by obtain ⟨_, _, hq⟩ := (HR.out.sg y (by simp)).block hk; exact hq.lt)
        have HSV : Hid (∀ k, (Value.slice y.pv y.n.sv.length y.cv).ownBlock = some k → k < w.heap.size) := Lib.hid (fun k hk => by obtain ⟨_, _, hq⟩ := (HR.out.sv y (by simp)).block hk; exact hq.lt)
        have HRES := Lib.hid hres
        have hwl : IntKind.i64.wrap (rl.length : Int) = (rl.length : Int) := by rw [IntKind.wrap_i64]; omega
        have hsub : ((rl.length : Int) + 1 - 1) = rl.length := by omega
        have hwl2 : IntKind.i64.wrap ((rl.length : Int) + 1 - 1) = (rl.length : Int) := by rw [hsub]; exact hwl
        have hz0 : (((rl.length : Int) + 1) == 0) = false := by rw [beq_eq_false_iff_ne]; omega
        have hkl : (rl.length : Int) < (rl.length : Int) + 1 := by omega
        have hkn : (0 : Int) ≤ (rl.length : Int) := by omega
        have HX1 := Lib.hid hx1
        clear hres hfl hle hrown hx1 ho2 HR
        have q0 := cell_got R2.out.box 0; have q5 := cell_got R2.out.box 5; have lq := got_lt R2.out.box
        by_cases hk : k = (rl.length : Int)
        · have HY := Lib.hid (HRES.out.trans (rdPart_yes hq ⟨by omega, by rw [hk, hxl]; omega⟩))
          clear hq HRES
          subst hk
          go_upto_region 2 with (fail)
          refine wp_region_grown [0, 1, 2, 3, 4, 5, 6, 7, 8, 9, 10, 11, 12, 13, 14, 15, 16, 17, 18, 19, 20, 21, 22, 23, 24, 25, 26, 27, 28] [] (by kernel_rfl) (by kernel_rfl) ?_
          simp only [pick, List.map_cons, List.map_nil, List.getD_cons_succ, List.getD_cons_zero]
          iterate 1 (refine wpQuiet_step (fun K hK => ?_); go_simp; refine hK _ ?_; clear hK K)
          repeat (go_big_quiet_step (fail))
          refine wpQuiet_nil ?_
          intro w4 hw4
          have o4 := only_of_plus hw4
          clear hw4
          have R4 := Lib.hid (R2.out.kept o4); have O4 := Lib.hid (O2.out.nil_trans o4); have V4 := Lib.hid (V2.out.kept o4); have N4 := Lib.hid (N2.out.kept o4 (by simp)); have M4 := Lib.hid (M2.out.kept o4 (by simp))
          clear o4 c0 c1 lg q0 q5 lq R2 O2 V2 N2 M2
          have q0 := cell_got R4.out.box 0; have q5 := cell_got R4.out.box 5; have lq := got_lt R4.out.box
          have c0 : w4.cell? ⟨g, 0, none⟩ = some (.int .i64 (rl.length : Int)) := M4.out.cell (i := 0) (j := 0) itC_len rfl (by decide)
          have c1 : w4.cell? ⟨g, 1, none⟩ = some (.int .i64 a) := M4.out.cell (i := 1) (j := 0) itC_len rfl (by decide)
          have lg := M4.out.lt
          obtain ⟨bw', off', hp', s0, lw4⟩ := V4.out.str (Only.refl [] w4) (k := 0) (by simp)
          cases hp'
          simp only [Nat.add_zero, List.getD_cons_zero] at s0
          have tO : (bstr wUse).toList = [117, 115, 101] := by rw [Lib.toList_data]; rfl
          generalize bstr wUse = S at s0 tO
          have hL := HLE.out
          by_cases hLn : L = 2
          · have ln2 : ((L : Int) == 2) = true := by rw [beq_iff_eq]; omega
            have ln3 : ((L : Int) == 3) = false := by rw [beq_eq_false_iff_ne]; omega
            obtain rfl : ms = [] := List.eq_nil_of_length_eq_zero (by omega)
            by_cases h4 : x.at_ = 4
            · have HQ : Hid (res = some ⟨{ x.sc with nd := lastN x.sc.nd (fun n => { n with sv := n.sv ++ [a] }) }, 5⟩) := Lib.hid (by
                rw [HY.out]
                show (if _ then _ else if _ then _ else none) = _; rw [if_neg (fun h => absurd h.1 (by decide)), if_pos ⟨by first | rfl | trivial, by omega⟩])
              have e4 : ((x.at_ : Int) == 4) = true := by rw [beq_iff_eq]; omega
              clear HY hLn hL h4
              go_upto_region 12 with (fail)
              have cS : w4.cell? ⟨gn, rl.length * 7 + 6, none⟩ = some (Value.slice y.pv y.n.sv.length y.cv) := N4.out.cell (i := rl.length) (j := 6) ndC_len row_last (by decide)
              have lP := N4.out.lt
              have HCO := Lib.hid (R4.out.sv y (by simp))
              obtain ⟨T, hT⟩ : ∃ T, T = (Value.slice y.pv y.n.sv.length y.cv).ownBlock.toList := ⟨_, rfl⟩
              have hbT : b ∉ T := fun hm => by rw [hT] at hm; exact HCO.out.ne_box R4.out.box (by decide) (by simpa using hm)
              have hnT : gn ∉ T := fun hm => by
                rw [hT] at hm
                obtain ⟨_, _, hq⟩ := HCO.out.block (by simpa using hm)
                exact hq.ne N4.out (by decide) rfl
              have hgT : g ∉ T := fun hm => by
                rw [hT] at hm
                have h1 := HSV.out g (by simpa using hm); have h2 := HGW.out
                omega
              have HTE := Lib.hid hT
              clear hT
              refine wp_region_calm2 [0, 1, 2, 3, 4, 5, 6, 7, 8, 9, 10, 11, 12, 13, 14, 15, 16, 17] [20, 21, 22] (OnlyC T w4) (by kernel_rfl) (by kernel_rfl) ?_
              simp only [pick, List.map_cons, List.map_nil, List.getD_cons_succ, List.getD_cons_zero]
              iterate 18 (refine wpCalm_step (fun K hK => ?_); go_simp; refine hK _ ?_; clear hK K)
              refine wpCalm_nil ?_
              clear cS lP
              refine Rest.by (X := Nat × Nat) (fun q a => (((a.put (some 164) (.slice (some ⟨w4.heap.size, 0, none⟩) 1 1)).put (some 165) (.slice (some ⟨q.1, 0, none⟩) (y.n.sv.length + 1) q.2)).put (some 166) (.pointer (some ⟨gn, rl.length * 7, none⟩))).put (some 167) (.pointer (some ⟨gn, rl.length * 7 + 6, none⟩)))
                (fun q w' => Ob b W0 w' ∧ RdW W0.heap.size b w' (⟨{ x.sc with nd := lastN x.sc.nd (fun n => { n with sv := n.sv ++ [a] }) }, x.at_⟩ : SSt) (rl ++ [⟨{ y.n with sv := y.n.sv ++ [a] }, y.ps, y.cs, some ⟨q.1, 0, none⟩, q.2⟩]) ls (.slice (some ⟨gn, 0, none⟩) (rl.length + 1) capn) vl vf) ?_ ?_
              · rintro ⟨g9, cap9⟩ w9 ⟨ho9, hr9⟩
                simp only [Act.put, List.setIfInBounds_toArray, List.set_cons_succ, List.set_cons_zero]
                have O9 := Lib.hid ho9; have R9 := Lib.hid hr9
                clear ho9 hr9
                have BP := Lib.hid R9.out.box
                have lp := got_lt BP.out; have q5 := cell_got BP.out 5; have f5 := frozen_got BP.out 5
                go_wp2
                go_ret
                rw [HQ.out]
                refine ⟨rfl, H0.out, O9.out.setCell (.inl (by simp)) _, rl ++ [⟨{ y.n with sv := y.n.sv ++ [a] }, y.ps, y.cs, some ⟨g9, 0, none⟩, cap9⟩], ls, .slice (some ⟨gn, 0, none⟩) (rl.length + 1) capn, vl, vf, ?_⟩
                exact R9.out.cell (x' := (⟨{ x.sc with nd := lastN x.sc.nd (fun n => { n with sv := n.sv ++ [a] }) }, 5⟩ : SSt)) ((Only.refl [b] w9).setCell (.inl (by simp)) _) (setCell_got _ BP.out) rfl rfl rfl
              · refine wpAnyC_next [18] (by kernel_rfl) (by simp) (.inr (onlyC (Only.refl T w4).drew)) ?_
                simp only [List.mem_cons, List.not_mem_nil, or_false, forall_eq]
                refine wpOp_one rfl ?_
                go_wp2
                simp only [nrm]
                refine allocd_abs (G := wpAnyC _ _ _ _ _ _ _ _ _) ?_
                intro wa hna hoa hsa
                have MA := Lib.hid hna; have oA := Lib.hid hoa; have RA := Lib.hid (R4.out.kept hoa); have OA := Lib.hid (O4.out.nil_trans hoa); have CA := Lib.hid (HCO.out.kept hoa)
                clear hna hsa hoa
                refine wpAnyC_next [19] (by kernel_rfl) (by simp) (.inr (onlyC (oA.out.mono (by simp)))) ?_
                simp only [List.mem_cons, List.not_mem_nil, or_false, forall_eq]
                refine wpOp_one rfl ?_
                refine wpList_append_B (B := W0.heap.size) rfl _ _ 46 rfl 3 (.int .i64 0) 1 8 Tryz.underlying46 (by kernel_rfl) rfl (by decide) itC_len itC_one y.n.sv (Value.slice y.pv y.n.sv.length y.cv) rfl CA.out w4.heap.size ((a : Int)) rfl (fun j u hj => ?_) (by simp [maxLen]; omega) (by omega) (by have := OA.out.size; omega) ?_
                · rw [cell_got MA.out]; rw [← hj]; simp [itC]
                · intro g9 cap9 wb hown hob hg9
                  rw [← HTE.out] at hob
                  have WB := Lib.hid hown; have oB := Lib.hid hob; have oS := Lib.hid ((oA.out.mono (S' := T) (by simp)).trans hob (fun x h => .inl h)); have HG9 := Lib.hid hg9
                  clear hown hob hg9
                  simp only [wpList, nrm]
                  refine wpAnyC_next [20] (by kernel_rfl) (by simp) (.inr (onlyC oS.out)) ?_
                  simp only [List.mem_cons, List.not_mem_nil, or_false, forall_eq]
                  refine wpOp_one rfl ?_
                  go_wp2
                  simp only [nrm]
                  refine wpAnyC_next [21] (by kernel_rfl) (by simp) (.inr (onlyC oS.out)) ?_
                  simp only [List.mem_cons, List.not_mem_nil, or_false, forall_eq]
                  refine wpOp_one rfl ?_
                  go_wp2
                  simp only [nrm]
                  refine wpAnyC_next [22] (by kernel_rfl) (by simp) (.inr (onlyC oS.out)) ?_
                  simp only [List.mem_cons, List.not_mem_nil, or_false, forall_eq]
                  refine wpOp_one rfl ?_
                  have NB := Lib.hid (N4.out.kept oS.out hnT)
                  have cD : wb.cell? ⟨gn, rl.length * 7 + 6, none⟩ = some (Value.slice y.pv y.n.sv.length y.cv) := NB.out.cell (i := rl.length) (j := 6) ndC_len row_last (by decide)
                  have fD := NB.out.frozen (rl.length * 7 + 6); have lD := NB.out.lt
                  go_wp2
                  simp only [nrm]
                  clear cD fD lD
                  have hz := oA.out.size
                  have hSt := RA.out.setN (y' := ⟨{ y.n with sv := y.n.sv ++ [a] }, y.ps, y.cs, some ⟨g9, 0, none⟩, cap9⟩) (x' := (⟨{ x.sc with nd := lastN x.sc.nd (fun n => { n with sv := n.sv ++ [a] }) }, x.at_⟩ : SSt)) (j := 6) (u := .slice (some ⟨g9, 0, none⟩) (y.n.sv.length + 1) cap9) oB.out hbT
                    (fun k hk => by rw [HTE.out] at hk; exact RA.out.nd.ne_of CA.out (by decide) k hk) (fun k hk => by rw [HTE.out] at hk; exact RA.out.lk.ne_of CA.out (by decide) k hk) (fun k hk => by rw [HTE.out] at hk; exact RA.out.ft.ne_of CA.out (by decide) k hk)
                    (fun z hz k hk => by rw [HTE.out] at hk; exact (RA.out.ch z hz).ne_of CA.out (by decide) k hk)
                    (fun z hz k hk => by rw [HTE.out] at hk; exact (RA.out.sg z (by simp [hz])).ne_of CA.out (by decide) k hk) (fun z hz k hk => by rw [HTE.out] at hk; exact ptr_ne (RA.out.sv z (by simp [hz])) CA.out (RA.out.apN rl y rfl z hz).2 hk)
                    ((RA.out.sg y (by simp)).keptS oB.out (fun k hk => by rw [HTE.out] at hk; exact (RA.out.sg y (by simp)).ne_of CA.out (by decide) k hk)) (by simpa using WB.out)
                    (fun z hz => ⟨(RA.out.apN rl y rfl z hz).1, .inl (ptr_new (RA.out.sv z (by simp [hz])) CA.out (RA.out.apN rl y rfl z hz).2 (Nat.le_refl _) HG9.out)⟩) (by decide) (by simp [ndC]) (by rw [show ((⟨{ x.sc with nd := lastN x.sc.nd (fun n => { n with sv := n.sv ++ [a] }) }, x.at_⟩ : SSt)).sc.nd = lastN x.sc.nd (fun n => { n with sv := n.sv ++ [a] }) from rfl, HX1.out, List.map_append]; exact lastN_snoc _ _ _) rfl rfl rfl rfl rfl
                  obtain ⟨gn', capn', he1, hgB', hgs, hRd⟩ := hSt
                  cases he1
                  have hOn : Ob b W0 wb := Ob.row (S := T) OA.out oB.out (fun k hk => by
                    rw [HTE.out] at hk
                    exact CA.out.blockC (by simpa using hk))
                  have hfin := hOn.setCell (p := ⟨gn, rl.length * 7 + 6, none⟩) (.inr hgB') (.slice (some ⟨g9, 0, none⟩) (y.n.sv.length + 1) cap9)
                  refine wpAnyC_done (by kernel_rfl) (.inl (late_of (by kernel_rfl))) ?_
                  first | exact ⟨(g9, cap9), rfl, hfin, hRd⟩ | exact ⟨g9, cap9, rfl, hfin, hRd⟩
            · have e4 : ((x.at_ : Int) == 4) = false := by rw [beq_eq_false_iff_ne]; omega
              by_cases h5 : x.at_ = 5
              · have HQ : Hid (res = some ⟨{ x.sc with nd := lastN x.sc.nd (fun n => { n with sv := n.sv ++ [a] }) }, 5⟩) := Lib.hid (by
                  rw [HY.out]
                  show (if _ then _ else if _ then _ else none) = _; rw [if_neg (fun h => absurd h.1 (by decide)), if_pos ⟨by first | rfl | trivial, by omega⟩])
                have e5 : ((x.at_ : Int) == 5) = true := by rw [beq_iff_eq]; omega
                clear HY hLn hL h4 h5
                go_upto_region 12 with (fail)
                have cS : w4.cell? ⟨gn, rl.length * 7 + 6, none⟩ = some (Value.slice y.pv y.n.sv.length y.cv) := N4.out.cell (i := rl.length) (j := 6) ndC_len row_last (by decide)
                have lP := N4.out.lt
                have HCO := Lib.hid (R4.out.sv y (by simp))
                obtain ⟨T, hT⟩ : ∃ T, T = (Value.slice y.pv y.n.sv.length y.cv).ownBlock.toList := ⟨_, rfl⟩
                have hbT : b ∉ T := fun hm => by rw [hT] at hm; exact HCO.out.ne_box R4.out.box (by decide) (by simpa using hm)
                have hnT : gn ∉ T := fun hm => by
                  rw [hT] at hm
                  obtain ⟨_, _, hq⟩ := HCO.out.block (by simpa using hm)
                  exact hq.ne N4.out (by decide) rfl
                have hgT : g ∉ T := fun hm => by
                  rw [hT] at hm
                  have h1 := HSV.out g (by simpa using hm); have h2 := HGW.out
                  omega
                have HTE := Lib.hid hT
                clear hT
                refine wp_region_calm2 [0, 1, 2, 3, 4, 5, 6, 7, 8, 9, 10, 11, 12, 13, 14, 15, 16, 17] [20, 21, 22] (OnlyC T w4) (by kernel_rfl) (by kernel_rfl) ?_
                simp only [pick, List.map_cons, List.map_nil, List.getD_cons_succ, List.getD_cons_zero]
                iterate 18 (refine wpCalm_step (fun K hK => ?_); go_simp; refine hK _ ?_; clear hK K)
                refine wpCalm_nil ?_
                clear cS lP
                refine Rest.by (X := Nat × Nat) (fun q a => (((a.put (some 164) (.slice (some ⟨w4.heap.size, 0, none⟩) 1 1)).put (some 165) (.slice (some ⟨q.1, 0, none⟩) (y.n.sv.length + 1) q.2)).put (some 166) (.pointer (some ⟨gn, rl.length * 7, none⟩))).put (some 167) (.pointer (some ⟨gn, rl.length * 7 + 6, none⟩)))
                  (fun q w' => Ob b W0 w' ∧ RdW W0.heap.size b w' (⟨{ x.sc with nd := lastN x.sc.nd (fun n => { n with sv := n.sv ++ [a] }) }, x.at_⟩ : SSt) (rl ++ [⟨{ y.n with sv := y.n.sv ++ [a] }, y.ps, y.cs, some ⟨q.1, 0, none⟩, q.2⟩]) ls (.slice (some ⟨gn, 0, none⟩) (rl.length + 1) capn) vl vf) ?_ ?_
                · rintro ⟨g9, cap9⟩ w9 ⟨ho9, hr9⟩
                  simp only [Act.put, List.setIfInBounds_toArray, List.set_cons_succ, List.set_cons_zero]
                  have O9 := Lib.hid ho9; have R9 := Lib.hid hr9
                  clear ho9 hr9
                  have BP := Lib.hid R9.out.box
                  have lp := got_lt BP.out; have q5 := cell_got BP.out 5; have f5 := frozen_got BP.out 5
                  go_wp2
                  go_ret
                  rw [HQ.out]
                  refine ⟨rfl, H0.out, O9.out.setCell (.inl (by simp)) _, rl ++ [⟨{ y.n with sv := y.n.sv ++ [a] }, y.ps, y.cs, some ⟨g9, 0, none⟩, cap9⟩], ls, .slice (some ⟨gn, 0, none⟩) (rl.length + 1) capn, vl, vf, ?_⟩
                  exact R9.out.cell (x' := (⟨{ x.sc with nd := lastN x.sc.nd (fun n => { n with sv := n.sv ++ [a] }) }, 5⟩ : SSt)) ((Only.refl [b] w9).setCell (.inl (by simp)) _) (setCell_got _ BP.out) rfl rfl rfl
                · refine wpAnyC_next [18] (by kernel_rfl) (by simp) (.inr (onlyC (Only.refl T w4).drew)) ?_
                  simp only [List.mem_cons, List.not_mem_nil, or_false, forall_eq]
                  refine wpOp_one rfl ?_
                  go_wp2
                  simp only [nrm]
                  refine allocd_abs (G := wpAnyC _ _ _ _ _ _ _ _ _) ?_
                  intro wa hna hoa hsa
                  have MA := Lib.hid hna; have oA := Lib.hid hoa; have RA := Lib.hid (R4.out.kept hoa); have OA := Lib.hid (O4.out.nil_trans hoa); have CA := Lib.hid (HCO.out.kept hoa)
                  clear hna hsa hoa
                  refine wpAnyC_next [19] (by kernel_rfl) (by simp) (.inr (onlyC (oA.out.mono (by simp)))) ?_
                  simp only [List.mem_cons, List.not_mem_nil, or_false, forall_eq]
                  refine wpOp_one rfl ?_
                  refine wpList_append_B (B := W0.heap.size) rfl _ _ 46 rfl 3 (.int .i64 0) 1 8 Tryz.underlying46 (by kernel_rfl) rfl (by decide) itC_len itC_one y.n.sv (Value.slice y.pv y.n.sv.length y.cv) rfl CA.out w4.heap.size ((a : Int)) rfl (fun j u hj => ?_) (by simp [maxLen]; omega) (by omega) (by have := OA.out.size; omega) ?_
                  · rw [cell_got MA.out]; rw [← hj]; simp [itC]
                  · intro g9 cap9 wb hown hob hg9
                    rw [← HTE.out] at hob
                    have WB := Lib.hid hown; have oB := Lib.hid hob; have oS := Lib.hid ((oA.out.mono (S' := T) (by simp)).trans hob (fun x h => .inl h)); have HG9 := Lib.hid hg9
                    clear hown hob hg9
                    simp only [wpList, nrm]
                    refine wpAnyC_next [20] (by kernel_rfl) (by simp) (.inr (onlyC oS.out)) ?_
                    simp only [List.mem_cons, List.not_mem_nil, or_false, forall_eq]
                    refine wpOp_one rfl ?_
                    go_wp2
                    simp only [nrm]
                    refine wpAnyC_next [21] (by kernel_rfl) (by simp) (.inr (onlyC oS.out)) ?_
                    simp only [List.mem_cons, List.not_mem_nil, or_false, forall_eq]
                    refine wpOp_one rfl ?_
                    go_wp2
                    simp only [nrm]
                    refine wpAnyC_next [22] (by kernel_rfl) (by simp) (.inr (onlyC oS.out)) ?_
                    simp only [List.mem_cons, List.not_mem_nil, or_false, forall_eq]
                    refine wpOp_one rfl ?_
                    have NB := Lib.hid (N4.out.kept oS.out hnT)
                    have cD : wb.cell? ⟨gn, rl.length * 7 + 6, none⟩ = some (Value.slice y.pv y.n.sv.length y.cv) := NB.out.cell (i := rl.length) (j := 6) ndC_len row_last (by decide)
                    have fD := NB.out.frozen (rl.length * 7 + 6); have lD := NB.out.lt
                    go_wp2
                    simp only [nrm]
                    clear cD fD lD
                    have hz := oA.out.size
                    have hSt := RA.out.setN (y' := ⟨{ y.n with sv := y.n.sv ++ [a] }, y.ps, y.cs, some ⟨g9, 0, none⟩, cap9⟩) (x' := (⟨{ x.sc with nd := lastN x.sc.nd (fun n => { n with sv := n.sv ++ [a] }) }, x.at_⟩ : SSt)) (j := 6) (u := .slice (some ⟨g9, 0, none⟩) (y.n.sv.length + 1) cap9) oB.out hbT
                      (fun k hk => by rw [HTE.out] at hk; exact RA.out.nd.ne_of CA.out (by decide) k hk) (fun k hk => by rw [HTE.out] at hk; exact RA.out.lk.ne_of CA.out (by decide) k hk) (fun k hk => by rw [HTE.out] at hk; exact RA.out.ft.ne_of CA.out (by decide) k hk)
                      (fun z hz k hk => by rw [HTE.out] at hk; exact (RA.out.ch z hz).ne_of CA.out (by decide) k hk)
                      (fun z hz k hk => by rw [HTE.out] at hk; exact (RA.out.sg z (by simp [hz])).ne_of CA.out (by decide) k hk) (fun z hz k hk => by rw [HTE.out] at hk; exact ptr_ne (RA.out.sv z (by simp [hz])) CA.out (RA.out.apN rl y rfl z hz).2 hk)
                      ((RA.out.sg y (by simp)).keptS oB.out (fun k hk => by rw [HTE.out] at hk; exact (RA.out.sg y (by simp)).ne_of CA.out (by decide) k hk)) (by simpa using WB.out)
                      (fun z hz => ⟨(RA.out.apN rl y rfl z hz).1, .inl (ptr_new (RA.out.sv z (by simp [hz])) CA.out (RA.out.apN rl y rfl z hz).2 (Nat.le_refl _) HG9.out)⟩) (by decide) (by simp [ndC]) (by rw [show ((⟨{ x.sc with nd := lastN x.sc.nd (fun n => { n with sv := n.sv ++ [a] }) }, x.at_⟩ : SSt)).sc.nd = lastN x.sc.nd (fun n => { n with sv := n.sv ++ [a] }) from rfl, HX1.out, List.map_append]; exact lastN_snoc _ _ _) rfl rfl rfl rfl rfl
                    obtain ⟨gn', capn', he1, hgB', hgs, hRd⟩ := hSt
                    cases he1
                    have hOn : Ob b W0 wb := Ob.row (S := T) OA.out oB.out (fun k hk => by
                      rw [HTE.out] at hk
                      exact CA.out.blockC (by simpa using hk))
                    have hfin := hOn.setCell (p := ⟨gn, rl.length * 7 + 6, none⟩) (.inr hgB') (.slice (some ⟨g9, 0, none⟩) (y.n.sv.length + 1) cap9)
                    refine wpAnyC_done (by kernel_rfl) (.inl (late_of (by kernel_rfl))) ?_
                    first | exact ⟨(g9, cap9), rfl, hfin, hRd⟩ | exact ⟨g9, cap9, rfl, hfin, hRd⟩
              · have HQ : Hid (res = none) := Lib.hid (by
                  rw [HY.out]
                  show (if _ then _ else if _ then _ else none) = none; rw [if_neg (fun h => absurd h.1 (by decide)), if_neg (fun h => by omega)])
                have e5 : ((x.at_ : Int) == 5) = false := by rw [beq_eq_false_iff_ne]; omega
                clear HY hLn hL h4 h5
                go_wp2
                go_ret
                rw [HQ.out]
                exact ⟨rfl, O4.out⟩
          · have HQ : Hid (res = none) := Lib.hid (by
              rw [HY.out]
              rcases ms with _ | ⟨p, _ | ⟨q, l⟩⟩
              · simp at hL; exact absurd hL hLn
              · exact if_neg (fun h => absurd h.1 (by decide))
              · rfl)
            clear HY
            have ln : ((L : Int) == 2) = false := by rw [beq_eq_false_iff_ne]; omega
            clear hLn hL
            go_wp2
            go_ret
            rw [HQ.out]
            exact ⟨rfl, O4.out⟩
        · have HQ : Hid (res = none) := Lib.hid (by rw [HRES.out]; exact rdPart_no hq (fun q => hk (by have := q.2; omega)))
          have dk : (k != (rl.length : Int)) = true := by simp [hk]
          have dk2 : (k == (rl.length : Int)) = false := by simp [hk]
          clear hq hk HRES
          go_upto_region 2 with (fail)
          refine wp_region_grown [0, 1, 2, 3, 4, 5, 6, 7, 8, 9, 10, 11, 12, 13, 14, 15, 16, 17, 18, 19, 20, 21, 22, 23, 24, 25, 26, 27, 28] [] (by kernel_rfl) (by kernel_rfl) ?_
          simp only [pick, List.map_cons, List.map_nil, List.getD_cons_succ, List.getD_cons_zero]
          iterate 1 (refine wpQuiet_step (fun K hK => ?_); go_simp; refine hK _ ?_; clear hK K)
          repeat (go_big_quiet_step (fail))
          refine wpQuiet_nil ?_
          intro w4 hw4
          have o4 := only_of_plus hw4
          clear hw4
          have O4 := Lib.hid (O2.out.nil_trans o4)
          clear o4
          go_wp2
          go_ret
          rw [HQ.out]
          exact ⟨rfl, O4.out⟩
end Rf
end Go.Proofs.YthmeifdgkodjlaaGreatDoor
