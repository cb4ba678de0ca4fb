/- scenario.Check. Condition: the lengths. -/
import Derived.Test.YthmeifdgkodjlaaDoorSd
namespace Go.Proofs.YthmeifdgkodjlaaDoor
open Go.RowKit

def chk5 (m : Nat) (ft : List Ft) (un : Int) : Int := if ft.all (fun f => decide (f.n < m)) = true then (if inR un 1 1125899906842624 = true then 0 else 3) else 3
def chk4 (m : Nat) (ft : List Ft) (un : Int) : Int := if fcE ft = 0 then chk5 m ft un else fcE ft
def chk3 (N : List Nd) (L : List Lk) (m : Nat) (ft : List Ft) (un : Int) : Int := if fe (fun i => jnE L i (N.getD i nd0)) m 0 = 0 then chk4 m ft un else 11
def chk2 (N : List Nd) (L : List Lk) (m q : Nat) (ft : List Ft) (un : Int) : Int := if fe (leE L m) q 0 = 0 then chk3 N L m ft un else fe (leE L m) q 0
def chk1 (N : List Nd) (L : List Lk) (m q : Nat) (ft : List Ft) (un : Int) : Int := if fe (fun i => ndE (N.getD i nd0) i m) m 0 = 0 then chk2 N L m q ft un else fe (fun i => ndE (N.getD i nd0) i m) m 0
theorem chkS_eq (s : ScW) : chkS s.sc = if s.nd.length = 0 then 14 else if 24 < s.nd.length ∨ 64 < s.lk.length then 6 else chk1 (s.nd.map NdW.n) (s.lk.map LkW.l) s.nd.length s.lk.length s.ft s.un := by
  unfold chkS ScW.sc chk1 chk2 chk3 chk4 chk5
  dsimp only
  rw [List.length_map, List.length_map]
theorem nd_at {ns : List NdW} {k : Nat} (hk : k < ns.length) : (ns.map NdW.n).getD k nd0 = (ns.getD k nw0).n := by simp [List.getD_eq_getElem?_getD, hk]
theorem lk_at {ns : List LkW} {k : Nat} (hk : k < ns.length) : (ns.map LkW.l).getD k lk0 = (ns.getD k lw0).l := by simp [List.getD_eq_getElem?_getD, hk]
theorem getD_mem {α : Type} {l : List α} {k : Nat} (z : α) (h : k < l.length) : l.getD k z ∈ l := List.mem_of_getElem? (getD_some z h)
def FeI (w : World) (F : Nat → Int) (n : Nat) (vi : Value) (wr : World) : Prop := ∃ k : Nat, k ≤ n ∧ vi = .int .i64 k ∧ fe F n 0 = fe F (n - k) k ∧ Only [] w wr
def AlI {α : Type} (w : World) (P : α → Bool) (l : List α) (vi : Value) (wr : World) : Prop := ∃ k : Nat, k ≤ l.length ∧ vi = .int .i64 k ∧ (l.take k).all P = true ∧ Only [] w wr
theorem all_take {α : Type} {P : α → Bool} {l : List α} {k : Nat} (z : α) (hk : k < l.length) (h : (l.take k).all P = true) : (l.take (k + 1)).all P = P (l.getD k z) := by
  rw [List.take_add_one, getD_some z hk]; simp [List.all_append, h]
theorem all_no {α : Type} {P : α → Bool} {l : List α} {k : Nat} (z : α) (hk : k < l.length) (h : P (l.getD k z) = false) : ¬ l.all P = true := by
  intro q
  rw [List.all_eq_true] at q
  rw [q _ (getD_mem z hk)] at h
  cases h
set_option maxRecDepth 100000 in
set_option maxHeartbeats 8000000 in
theorem pCheck {w : World} (s : ScW) (hs : s.Ok w) :
    Calls Tryd.prog 9 #[scV s] w fun e w' => e = .returned (.int .i64 (chkS s.sc)) ∧ Only [] w w' := by
  have hE := chkS_eq s
  have hlnk := fun (a b : Int) (w' : World) (ho : Only [] w w') => pLnk s a b (hs.kept ho)
  generalize chkS s.sc = res at hE ⊢
  obtain ⟨ns, ls, ft, un, sd, pn, cn, pl, cl, pf, cf⟩ := s
  have hn := hs.ln; have hl := hs.ll; have hf := hs.lf
  have HN := Lib.hid hs.nd; have HL := Lib.hid hs.lk; have HFT := Lib.hid hs.ft; have HNO := Lib.hid hs.ndo; have HLO := Lib.hid hs.lko
  clear hs
  unfold scV at hlnk ⊢
  dsimp only [ScW.sc] at hlnk hE hn hl hf HN HL HFT HNO HLO ⊢
  have HE := Lib.hid hE; have HLNK := Lib.hid hlnk
  clear hE hlnk
  go_enter Tryd.func9, Tryd.ntmps9
  go_upto_region 1 with (fail)
  refine alloc_abs (G := fun w0 => Code.wp _ _ _ _ w0) ?_
  intro w1 hb1 ho1 hs1
  have B1 := Lib.hid hb1; have O1 := Lib.hid ho1
  clear hb1 ho1 hs1
  have g0 := cell_got B1.out 0; have g1 := cell_got B1.out 1; have g2 := cell_got B1.out 2; have g3 := cell_got B1.out 3; have g4 := cell_got B1.out 4; have l0 := got_lt B1.out
  by_cases h0 : ns.length = 0
  · have z0 : ((ns.length : Int) == 0) = true := by rw [h0]; rfl
    have HQ : Hid (res = 14) := Lib.hid (by rw [HE.out, if_pos h0])
    go_wp2
    go_ret
    exact ⟨by rw [HQ.out]; rfl, O1.out⟩
  · have z0 : ((ns.length : Int) == 0) = false := by rw [beq_eq_false_iff_ne]; omega
    by_cases h24 : 24 < ns.length
    · have z1 : decide ((ns.length : Int) > 24) = true := decide_eq_true (by omega)
      have z2 : decide (24 < (ns.length : Int)) = true := decide_eq_true (by omega)
      have HQ : Hid (res = 6) := Lib.hid (by rw [HE.out, if_neg h0, if_pos (.inl h24)])
      go_wp2
      go_ret
      exact ⟨by rw [HQ.out]; rfl, O1.out⟩
    · have z1 : decide ((ns.length : Int) > 24) = false := decide_eq_false (by omega)
      have z2 : decide (24 < (ns.length : Int)) = false := decide_eq_false (by omega)
      by_cases h64 : 64 < ls.length
      · have z3 : decide ((ls.length : Int) > 64) = true := decide_eq_true (by omega)
        have z4 : decide (64 < (ls.length : Int)) = true := decide_eq_true (by omega)
        have HQ : Hid (res = 6) := Lib.hid (by rw [HE.out, if_neg h0, if_pos (.inr h64)])
        go_wp2
        go_ret
        exact ⟨by rw [HQ.out]; rfl, O1.out⟩
      · have z3 : decide ((ls.length : Int) > 64) = false := decide_eq_false (by omega)
        have z4 : decide (64 < (ls.length : Int)) = false := decide_eq_false (by omega)
        have z5 : True := trivial
        have H1 : Hid (res = chk1 (ns.map NdW.n) (ls.map LkW.l) ns.length ls.length ft un) := Lib.hid (by rw [HE.out, if_neg h0, if_neg (fun q => q.elim h24 h64)])
        clear h0 h24 h64
        go_wp2
        clear z0 z1 z2 z3 z4 z5
        go_loopw [35] (fun vi wr => FeI w1 (fun i => ndE ((ns.map NdW.n).getD i nd0) i ns.length) ns.length vi wr) (fun vi _ => ns.length - (intOf vi).toNat)
        case atStart => exact ⟨0, Nat.zero_le _, rfl, rfl, Only.refl _ _⟩
        case round =>
          clear g0 g1 g2 g3 g4 l0
          obtain ⟨k, hk, rfl, hfe, ho⟩ := hrel
          have HF := Lib.hid hfe; have OO := Lib.hid ho; have OA := Lib.hid (O1.out.nil_trans ho); have BB := Lib.hid (ho.got B1.out (by simp))
          clear hfe ho
          by_cases hlt : k < ns.length
          · obtain ⟨bk, off, hp, lb, c0, c1, c2, c3, c4, c5, c6⟩ := HN.out.nd OA.out hlt
            subst hp
            have HXO := Lib.hid (HNO.out _ (getD_mem nw0 hlt))
            have HNV := Lib.hid (fun (w' : World) (ho : Only [] w w') => pNode (ns.getD k nw0).n k ns.length (HXO.out.seg.kept ho) (HXO.out.srv.kept ho) HXO.out.len HXO.out.ren)
            have HNN : Hid (ndE (ns.getD k nw0).n k ns.length ≠ 0 → res = ndE (ns.getD k nw0).n k ns.length) := Lib.hid (fun h => by
              have h2 := HF.out.trans (fe_no hlt (by rw [nd_at hlt]; exact h))
              try dsimp only at h2
              rw [nd_at hlt] at h2
              rw [H1.out]; unfold chk1; rw [h2, if_neg h])
            have HNY : Hid (ndE (ns.getD k nw0).n k ns.length = 0 → fe (fun i => ndE ((ns.map NdW.n).getD i nd0) i ns.length) ns.length 0 = fe (fun i => ndE ((ns.map NdW.n).getD i nd0) i ns.length) (ns.length - (k + 1)) (k + 1)) := Lib.hid (fun h => HF.out.trans (fe_yes hlt (by rw [nd_at hlt]; exact h)))
            generalize ns.getD k nw0 = x at c0 c1 c2 c3 c4 c5 c6 HXO HNV HNN HNY
            unfold ndV at HNV
            generalize ndE x.n k ns.length = er at HNV HNN HNY
            go_upto_region 9 with (fail)
            refine alloc_abs (G := fun w0 => Code.wp _ _ _ _ w0) ?_
            intro w6 hb6 ho6 hs6
            have E6 := Lib.hid hb6; have O6 := Lib.hid (OO.out.nil_trans ho6); have OB := Lib.hid (OA.out.nil_trans ho6); have B6 := Lib.hid (ho6.got BB.out (by simp))
            clear hb6 ho6 hs6 c0 c1 c2 c3 c4 c5 c6 lb
            have c0 := cell_got E6.out 0; have c1 := cell_got E6.out 1; have c2 := cell_got E6.out 2; have c3 := cell_got E6.out 3; have c4 := cell_got E6.out 4; have c5 := cell_got E6.out 5; have c6 := cell_got E6.out 6; have le := got_lt E6.out
            have g0 := cell_got B6.out 0; have g1 := cell_got B6.out 1; have g2 := cell_got B6.out 2; have g3 := cell_got B6.out 3; have g4 := cell_got B6.out 4; have l0 := got_lt B6.out
            go_wp2_with fail
            refine (HNV.out w6 OB.out).mono ?_
            rintro e w7 ⟨rfl, ho7⟩
            have O7 := Lib.hid (O6.out.nil_trans ho7); have OC := Lib.hid (OB.out.nil_trans ho7)
            clear ho7 c0 c1 c2 c3 c4 c5 c6 le
            clear g0 g1 g2 g3 g4 l0
            by_cases h0 : er = 0
            · have HQ := Lib.hid (HNY.out h0)
              have ex : (er != 0) = false := by simp [h0]
              have ey : (er == 0) = true := by simp [h0]
              clear h0
              go_wp2
              go_roundw
              case rel => exact ⟨k + 1, by omega, by go_num, HQ.out, O7.out⟩
              case measure => first | (simp [intOf]; done) | (simp [intOf]; omega)
            · have HQ := Lib.hid (HNN.out h0)
              have ex : (er != 0) = true := by simp [h0]
              have ey : (er == 0) = false := by simp [h0]
              clear h0
              go_wp2
              go_ret
              exact ⟨by rw [HQ.out]; rfl, OC.out⟩
          · have HX0 : fe (fun i => ndE ((ns.map NdW.n).getD i nd0) i ns.length) ns.length 0 = 0 := by rw [HF.out, fe_end (by omega)]
            obtain rfl : k = ns.length := by omega
            have H2 : Hid (res = chk2 (ns.map NdW.n) (ls.map LkW.l) ns.length ls.length ft un) := Lib.hid (by rw [H1.out]; unfold chk1; rw [if_pos HX0])
            clear HX0
            obtain ⟨w2, hwo⟩ : ∃ wo : World, wo = wr := ⟨_, rfl⟩
            subst hwo
            have B2 := BB; have O2 := OA
            clear BB OA OO HF
            have g0 := cell_got B2.out 0; have g1 := cell_got B2.out 1; have g2 := cell_got B2.out 2; have g3 := cell_got B2.out 3; have g4 := cell_got B2.out 4; have l0 := got_lt B2.out
            go_wp2
            go_loopw [53] (fun vi wr => FeI w2 (leE (ls.map LkW.l) ns.length) ls.length vi wr) (fun vi _ => ls.length - (intOf vi).toNat)
            case atStart => exact ⟨0, Nat.zero_le _, rfl, rfl, Only.refl _ _⟩
            case round =>
              clear g0 g1 g2 g3 g4 l0
              obtain ⟨k, hk, rfl, hfe, ho⟩ := hrel
              have HF := Lib.hid hfe; have OO := Lib.hid ho; have OA := Lib.hid (O2.out.nil_trans ho); have BB := Lib.hid (ho.got B2.out (by simp))
              clear hfe ho
              by_cases hlt : k < ls.length
              · obtain ⟨bk, off, hp, lb, c0, c1, c2, c3, c4, c5, c6, c7, c8⟩ := HL.out.lk OA.out hlt
                have hlc := HL.out.le
                have HXO := Lib.hid (HLO.out _ (getD_mem lw0 hlt))
                have hle : leE (ls.map LkW.l) ns.length k = clE (ls.getD k lw0).l ((ls.take k).map LkW.l) ns.length := by rw [leE_cl, lk_at hlt, List.map_take]
                have HLV := Lib.hid (fun (w' : World) (ho : Only [] w w') => pCLink (ls.getD k lw0) ns.length (HXO.out.kept ho) ((HL.out.take k (Nat.le_of_lt hlt)).kept ho) (by omega))
                rw [← hle] at HLV
                have HLN : Hid (leE (ls.map LkW.l) ns.length k ≠ 0 → res = leE (ls.map LkW.l) ns.length k) := Lib.hid (fun h => by
                  have h2 := HF.out.trans (fe_no hlt h)
                  rw [H2.out]; unfold chk2; rw [h2, if_neg h])
                have HLY : Hid (leE (ls.map LkW.l) ns.length k = 0 → fe (leE (ls.map LkW.l) ns.length) ls.length 0 = fe (leE (ls.map LkW.l) ns.length) (ls.length - (k + 1)) (k + 1)) := Lib.hid (fun h => HF.out.trans (fe_yes hlt h))
                subst hp
                clear hle
                generalize ls.getD k lw0 = x at c0 c1 c2 c3 c4 c5 c6 c7 c8 HXO HLV
                unfold slV at HLV
                generalize leE (ls.map LkW.l) ns.length k = er at HLV HLN HLY
                go_upto_region 16 with (fail)
                refine alloc_abs (G := fun w0 => Code.wp _ _ _ _ w0) ?_
                intro w6 hb6 ho6 hs6
                have E6 := Lib.hid hb6; have O6 := Lib.hid (OO.out.nil_trans ho6); have OB := Lib.hid (OA.out.nil_trans ho6); have B6 := Lib.hid (ho6.got BB.out (by simp))
                clear hb6 ho6 hs6 c0 c1 c2 c3 c4 c5 c6 c7 c8
                have c0 := cell_got E6.out 0; have c1 := cell_got E6.out 1; have c2 := cell_got E6.out 2; have c3 := cell_got E6.out 3; have c4 := cell_got E6.out 4; have c5 := cell_got E6.out 5; have c6 := cell_got E6.out 6; have c7 := cell_got E6.out 7; have c8 := cell_got E6.out 8; have le := got_lt E6.out
                have g0 := cell_got B6.out 0; have g1 := cell_got B6.out 1; have g2 := cell_got B6.out 2; have g3 := cell_got B6.out 3; have g4 := cell_got B6.out 4; have l0 := got_lt B6.out
                have z1 : (k : Int) ≤ (cl : Int) := by omega
                have z2 : k ≤ cl := by omega
                refine wp_region_grown [0, 1, 2, 3, 4, 5, 6, 7] [8, 9] (by kernel_rfl) (by kernel_rfl) ?_
                simp only [pick, List.map_cons, List.map_nil, List.getD_cons_succ, List.getD_cons_zero]
                iterate 8 (refine wpQuiet_step (fun K hK => ?_); go_simp; refine hK _ ?_; clear hK K)
                refine wpQuiet_nil ?_
                intro w7 hw7
                have O7 := Lib.hid (O6.out.nil_trans (only_of_plus hw7)); have OC := Lib.hid (OB.out.nil_trans (only_of_plus hw7))
                clear hw7 c0 c1 c2 c3 c4 c5 c6 c7 c8 le g0 g1 g2 g3 g4 l0 z1 z2
                go_wp2_with fail
                refine (HLV.out w7 OC.out).mono ?_
                rintro e w8 ⟨rfl, ho8⟩
                have O8 := Lib.hid (O7.out.nil_trans ho8); have OD := Lib.hid (OC.out.nil_trans ho8)
                clear ho8
                by_cases h0 : er = 0
                · have HQ := Lib.hid (HLY.out h0)
                  have ex : (er != 0) = false := by simp [h0]
                  have ey : (er == 0) = true := by simp [h0]
                  clear h0
                  go_wp2
                  go_roundw
                  case rel => exact ⟨k + 1, by omega, by go_num, HQ.out, O8.out⟩
                  case measure => first | (simp [intOf]; done) | (simp [intOf]; omega)
                · have HQ := Lib.hid (HLN.out h0)
                  have ex : (er != 0) = true := by simp [h0]
                  have ey : (er == 0) = false := by simp [h0]
                  clear h0
                  go_wp2
                  go_ret
                  exact ⟨by rw [HQ.out]; rfl, OD.out⟩
              · have HX0 : fe (leE (ls.map LkW.l) ns.length) ls.length 0 = 0 := by rw [HF.out, fe_end (by omega)]
                obtain rfl : k = ls.length := by omega
                have H3 : Hid (res = chk3 (ns.map NdW.n) (ls.map LkW.l) ns.length ft un) := Lib.hid (by rw [H2.out]; unfold chk2; rw [if_pos HX0])
                clear HX0
                obtain ⟨w3, hwo⟩ : ∃ wo : World, wo = wr := ⟨_, rfl⟩
                subst hwo
                have B3 := BB; have O3 := OA
                clear BB OA OO HF
                have g0 := cell_got B3.out 0; have g1 := cell_got B3.out 1; have g2 := cell_got B3.out 2; have g3 := cell_got B3.out 3; have g4 := cell_got B3.out 4; have l0 := got_lt B3.out
                go_wp2
                go_loopw [74] (fun vi wr => FeI w3 (fun i => jnE (ls.map LkW.l) i ((ns.map NdW.n).getD i nd0)) ns.length vi wr) (fun vi _ => ns.length - (intOf vi).toNat)
                case atStart => exact ⟨0, Nat.zero_le _, rfl, rfl, Only.refl _ _⟩
                case round =>
                  clear g0 g1 g2 g3 g4 l0
                  obtain ⟨k, hk, rfl, hfe, ho⟩ := hrel
                  have HF := Lib.hid hfe; have OO := Lib.hid ho; have OA := Lib.hid (O3.out.nil_trans ho); have BB := Lib.hid (ho.got B3.out (by simp))
                  clear hfe ho
                  by_cases hlt : k < ns.length
                  · obtain ⟨bk, off, hp, lb, c0, c1, c2, c3, c4, c5, c6⟩ := HN.out.nd OA.out hlt
                    subst hp
                    have HXO := Lib.hid (HNO.out _ (getD_mem nw0 hlt))
                    have HJN : Hid (jnE (ls.map LkW.l) k (ns.getD k nw0).n = 11 → res = 11) := Lib.hid (fun h => by
                      have h2 := HF.out.trans (fe_no hlt (by rw [nd_at hlt, h]; decide))
                      try dsimp only at h2
                      rw [nd_at hlt, h] at h2
                      rw [H3.out]; unfold chk3; rw [h2]; rfl)
                    have HJY : Hid (jnE (ls.map LkW.l) k (ns.getD k nw0).n = 0 → fe (fun i => jnE (ls.map LkW.l) i ((ns.map NdW.n).getD i nd0)) ns.length 0 = fe (fun i => jnE (ls.map LkW.l) i ((ns.map NdW.n).getD i nd0)) (ns.length - (k + 1)) (k + 1)) := Lib.hid (fun h => HF.out.trans (fe_yes hlt (by rw [nd_at hlt, h])))
                    generalize ns.getD k nw0 = x at c0 c1 c2 c3 c4 c5 c6 HXO HJN HJY
                    have hxr := HXO.out.ren
                    go_upto_region 23 with (fail)
                    refine alloc_abs (G := fun w0 => Code.wp _ _ _ _ w0) ?_
                    intro w6 hb6 ho6 hs6
                    have E6 := Lib.hid hb6; have O6 := Lib.hid (OO.out.nil_trans ho6); have OB := Lib.hid (OA.out.nil_trans ho6); have B6 := Lib.hid (ho6.got BB.out (by simp))
                    clear hb6 ho6 hs6 c0 c1 c2 c3 c4 c5 c6 lb
                    have s6 := cell_got E6.out 6; have ls6 := got_lt E6.out
                    have g0 := cell_got B6.out 0; have g1 := cell_got B6.out 1; have g2 := cell_got B6.out 2; have g3 := cell_got B6.out 3; have g4 := cell_got B6.out 4; have l0 := got_lt B6.out
                    go_wp2
                    go_loopw [82] (fun vi wr => AlI w6 (fun v => (lnk (ls.map LkW.l) k v).isSome) x.n.sv vi wr) (fun vi _ => x.n.sv.length - (intOf vi).toNat)
                    case atStart => exact ⟨0, Nat.zero_le _, rfl, rfl, Only.refl _ _⟩
                    case round =>
                      clear s6 ls6 g0 g1 g2 g3 g4 l0
                      obtain ⟨j, hj, rfl, hall, ho⟩ := hrel
                      have HA := Lib.hid hall; have OO' := Lib.hid (O6.out.nil_trans ho); have OA' := Lib.hid (OB.out.nil_trans ho); have BB' := Lib.hid (ho.got B6.out (by simp)); have OI := Lib.hid ho
                      clear hall ho
                      by_cases hlj : j < x.n.sv.length
                      · obtain ⟨bk, off, hp, c0, lb⟩ := (HXO.out.srv).it OA'.out hlj
                        have hp6 := hp
                        have HTK := Lib.hid (all_take (P := fun v => (lnk (ls.map LkW.l) k v).isSome) 0 hlj HA.out)
                        have HBD : Hid ((lnk (ls.map LkW.l) k (x.n.sv.getD j 0)).isSome = false → jnE (ls.map LkW.l) k x.n = 11) := Lib.hid (fun h => by unfold jnE; rw [if_neg (all_no (P := fun v => (lnk (ls.map LkW.l) k v).isSome) 0 hlj h)])
                        generalize x.n.sv.getD j 0 = v at c0 HTK HBD
                        have g0 := cell_got BB'.out 0; have g1 := cell_got BB'.out 1; have g2 := cell_got BB'.out 2; have g3 := cell_got BB'.out 3; have g4 := cell_got BB'.out 4; have l0 := got_lt BB'.out
                        rw [hp]
                        clear hp6
                        go_wp2_with fail
                        refine (HLNK.out k v wr OA'.out).mono ?_
                        rintro e w7 ⟨rfl, ho7⟩
                        have O7 := Lib.hid (OI.out.nil_trans ho7); have OC := Lib.hid (OA'.out.nil_trans ho7)
                        clear ho7
                        clear g0 g1 g2 g3 g4 l0 c0 lb
                        generalize lnk (ls.map LkW.l) k v = o at HTK HBD ⊢
                        rcases o with _ | ⟨i, d⟩
                        · have HQ : Hid (res = 11) := Lib.hid (HJN.out (HBD.out rfl))
                          unfold lnkV
                          dsimp only
                          go_wp2
                          go_ret
                          exact ⟨by rw [HQ.out]; rfl, OC.out⟩
                        · have ix : decide ((i : Int) < 0) = false := decide_eq_false (by omega)
                          have HQ := Lib.hid (HTK.out.trans rfl)
                          cases d with
                          | false =>
                            unfold lnkV
                            dsimp only
                            go_wp2
                            go_roundw
                            case rel => exact ⟨j + 1, by omega, by go_num, HQ.out, O7.out⟩
                            case measure => first | (simp [intOf]; done) | (simp [intOf]; omega)
                          | true =>
                            unfold lnkV
                            dsimp only
                            go_wp2
                            go_roundw
                            case rel => exact ⟨j + 1, by omega, by go_num, HQ.out, O7.out⟩
                            case measure => first | (simp [intOf]; done) | (simp [intOf]; omega)
                      · obtain rfl : j = x.n.sv.length := by omega
                        have hal := HA.out
                        rw [List.take_of_length_le (Nat.le_refl _)] at hal
                        have HQ := Lib.hid (HJY.out (by unfold jnE; rw [if_pos hal]))
                        clear hal
                        go_wp2
                        go_roundw
                        case rel => exact ⟨k + 1, by omega, by go_num, HQ.out, OO'.out⟩
                        case measure => first | (simp [intOf]; done) | (simp [intOf]; omega)
                  · have HX0 : fe (fun i => jnE (ls.map LkW.l) i ((ns.map NdW.n).getD i nd0)) ns.length 0 = 0 := by rw [HF.out, fe_end (by omega)]
                    obtain rfl : k = ns.length := by omega
                    have H4 : Hid (res = chk4 ns.length ft un) := Lib.hid (by rw [H3.out]; unfold chk3; rw [if_pos HX0])
                    clear HX0
                    obtain ⟨w4, hwo⟩ : ∃ wo : World, wo = wr := ⟨_, rfl⟩
                    subst hwo
                    have B4 := BB; have O4 := OA
                    clear BB OA OO HF
                    have g0 := cell_got B4.out 0; have g1 := cell_got B4.out 1; have g2 := cell_got B4.out 2; have g3 := cell_got B4.out 3; have g4 := cell_got B4.out 4; have l0 := got_lt B4.out
                    go_wp2_with fail
                    refine (pFault (HFT.out.kept O4.out) hf).mono ?_
                    rintro e w5 ⟨rfl, ho5⟩
                    have B5 := Lib.hid (ho5.got B4.out (by simp)); have O5 := Lib.hid (O4.out.nil_trans ho5)
                    clear ho5
                    clear g0 g1 g2 g3 g4 l0
                    have g0 := cell_got B5.out 0; have g1 := cell_got B5.out 1; have g2 := cell_got B5.out 2; have g3 := cell_got B5.out 3; have g4 := cell_got B5.out 4; have l0 := got_lt B5.out
                    by_cases hc : fcE ft = 0
                    · have H5 : Hid (res = chk5 ns.length ft un) := Lib.hid (by rw [H4.out]; unfold chk4; rw [if_pos hc])
                      rw [hc]
                      clear hc
                      go_wp2
                      go_loopw [106] (fun vi wr => AlI w5 (fun f : Ft => decide (f.n < (ns.length : Int))) ft vi wr) (fun vi _ => ft.length - (intOf vi).toNat)
                      case atStart => exact ⟨0, Nat.zero_le _, rfl, rfl, Only.refl _ _⟩
                      case round =>
                        clear g0 g1 g2 g3 g4 l0
                        obtain ⟨k, hk, rfl, hfe, ho⟩ := hrel
                        have HF := Lib.hid hfe; have OO := Lib.hid ho; have OA := Lib.hid (O5.out.nil_trans ho); have BB := Lib.hid (ho.got B5.out (by simp))
                        clear hfe ho
                        by_cases hlt : k < ft.length
                        · obtain ⟨bk, off, hp, c0, c1, c2, c3, c4, lb⟩ := HFT.out.ft OA.out hlt
                          subst hp
                          have HTK := Lib.hid (all_take ft0 hlt HF.out)
                          have HBD : Hid (decide ((ft.getD k ft0).n < (ns.length : Int)) = false → res = 3) := Lib.hid (fun h => by rw [H5.out]; unfold chk5; rw [if_neg (all_no (P := fun f : Ft => decide (f.n < (ns.length : Int))) ft0 hlt h)])
                          generalize ft.getD k ft0 = f at c0 c1 c2 c3 c4 HTK HBD
                          go_upto_region 37 with (fail)
                          refine alloc_abs (G := fun w0 => Code.wp _ _ _ _ w0) ?_
                          intro w6 hb6 ho6 hs6
                          have E6 := Lib.hid hb6; have O6 := Lib.hid (OO.out.nil_trans ho6); have OB := Lib.hid (OA.out.nil_trans ho6); have B6 := Lib.hid (ho6.got BB.out (by simp))
                          clear hb6 ho6 hs6 c0 c1 c2 c3 c4 lb
                          have c0 := cell_got E6.out 0; have le := got_lt E6.out; have g0 := cell_got B6.out 0; have l0 := got_lt B6.out
                          by_cases hc : f.n < (ns.length : Int)
                          · have cx : decide (f.n ≥ (ns.length : Int)) = false := decide_eq_false (by omega)
                            have cy : decide ((ns.length : Int) ≤ f.n) = false := decide_eq_false (by omega)
                            have HQ := Lib.hid (HTK.out.trans (decide_eq_true hc))
                            clear hc
                            go_wp2
                            go_roundw
                            case rel => exact ⟨k + 1, by omega, by go_num, HQ.out, O6.out⟩
                            case measure => first | (simp [intOf]; done) | (simp [intOf]; omega)
                          · have cx : decide (f.n ≥ (ns.length : Int)) = true := decide_eq_true (by omega)
                            have cy : decide ((ns.length : Int) ≤ f.n) = true := decide_eq_true (by omega)
                            have HQ := Lib.hid (HBD.out (decide_eq_false hc))
                            clear hc
                            go_wp2
                            go_ret
                            exact ⟨by rw [HQ.out]; rfl, OB.out⟩
                        · obtain rfl : k = ft.length := by omega
                          have hal := HF.out
                          rw [List.take_of_length_le (Nat.le_refl _)] at hal
                          have HU : Hid (res = if inR un 1 1125899906842624 = true then 0 else 3) := Lib.hid (by rw [H5.out]; unfold chk5; rw [if_pos hal])
                          clear hal
                          have g0 := cell_got BB.out 0; have g1 := cell_got BB.out 1; have g2 := cell_got BB.out 2; have g3 := cell_got BB.out 3; have g4 := cell_got BB.out 4; have l0 := got_lt BB.out
                          by_cases hu : inR un 1 1125899906842624 = true
                          · obtain ⟨u0, u1⟩ := inR_t.1 hu
                            have ux : decide (un < 1) = false := decide_eq_false (by omega)
                            have uy : decide (un > 1125899906842624) = false := decide_eq_false (by omega)
                            have uz : decide (1125899906842624 < un) = false := decide_eq_false (by omega)
                            have HQ : Hid (res = 0) := Lib.hid (by rw [HU.out, if_pos hu])
                            clear hu
                            go_wp2
                            go_ret
                            exact ⟨by rw [HQ.out]; rfl, OA.out⟩
                          · have HQ : Hid (res = 3) := Lib.hid (by rw [HU.out, if_neg hu])
                            rcases inR_no hu with hq | ⟨hq, hr⟩
                            · have ux : decide (un < 1) = true := decide_eq_true (by omega)
                              clear hu
                              go_wp2
                              go_ret
                              exact ⟨by rw [HQ.out]; rfl, OA.out⟩
                            · have ux : decide (un < 1) = false := decide_eq_false (by omega)
                              have uy : decide (un > 1125899906842624) = true := decide_eq_true (by omega)
                              have uz : decide (1125899906842624 < un) = true := decide_eq_true (by omega)
                              clear hu
                              go_wp2
                              go_ret
                              exact ⟨by rw [HQ.out]; rfl, OA.out⟩
                    · have HQ : Hid (res = fcE ft) := Lib.hid (by rw [H4.out]; unfold chk4; rw [if_neg hc])
                      have cx : (fcE ft != 0) = true := by simp [hc]
                      have cy : (fcE ft == 0) = false := by simp [hc]
                      clear hc
                      go_wp2
                      go_ret
                      exact ⟨by rw [HQ.out]; rfl, O5.out⟩
end Go.Proofs.YthmeifdgkodjlaaDoor
