/- link.Check. Condition: the length. -/
import Derived.Test.YthmeifdgkodjlaaDoorS7
import Derived.Test.YthmeifdgkodjlaaDoorCalm
namespace Go.Proofs.YthmeifdgkodjlaaDoor
open Go.RowKit

theorem grown_only2 {P : Program} {f : FuncId} {args : Array Value} {w : World} {v : Value} (h : ∀ w', Only [] w w' → Calls P f args w' fun e w'' => e = .returned v ∧ Only [] w' w'') :
    ∀ w', (∃ x, w' = plus w x) → Calls P f args w' fun e w'' => e = .returned v ∧ ∃ x, w'' = plus w x :=
  grown_calls fun w' hw' => (h w' (only_of_plus hw')).mono fun _ _ ⟨he, ho⟩ => ⟨he, ho.nil_below⟩
theorem wpQuiet_enter_w {P : Program} {ops : Array Oper} {C : World → Prop} {Q : Act → Prop} {a : Act} {o : Oper} {rest : List Oper} (hg : Region.wanted o (yielded ops a.tmps) = true) (f : FuncId) (args : Array Value)
    (hrun : ∀ w, (execOp a.eval o).run P w = .ok (.enter f args) w) (v : Value) (hcall : ∀ w', C w' → Calls P f args w' fun e w'' => e = .returned v ∧ C w'')
    (h : wpQuiet P ops C Q rest (a.put o.dst v)) : wpQuiet P ops C Q (o :: rest) a := by
  refine wpQuiet_step fun K hK => ?_
  rw [hg]
  simp only [if_true]
  refine ⟨v, fun w' hw' => ?_, hK _ h⟩
  unfold Oper.quietAt
  rw [hrun w']
  exact ⟨rfl, hcall w' hw'⟩
def eq2 (a b c d : Int) : Bool := a == c && b == d
/-- two arrays of two ints are compared -/
@[go_sem] theorem a2_equal (a1 a2 b1 b2 : Int) (w : World) : (Op.equalIn 10000 50 (.agg #[.int .i64 a1, .int .i64 a2]) (.agg #[.int .i64 b1, .int .i64 b2])).run Tryd.prog w = .ok (eq2 a1 a2 b1 b2) w := by
  cases hi : Tryd.prog.info? 3 with
  | none => exact absurd (hi.symm.trans rfl) (by have h : (Tryd.prog.info? 3).isSome = true := by kernel_rfl
                                                 rw [hi] at h; cases h)
  | some i =>
    rw [show (10000 : Nat) = 9999 + 1 from rfl, run_equalIn_array w 9999 _ _ Tryd.underlying50 hi]
    have hc : Tryd.prog.cellsOf 3 = 1 := by kernel_rfl
    rw [hc]
    unfold eq2
    simp [Op.eqItems, go_sem, List.range_succ]
    by_cases h1 : a1 = b1 <;> by_cases h2 : a2 = b2 <;> simp [h1, h2]
def chC (s : Ch) : List Value := [.int .i64 s.a, .int .i64 s.d, .int .i64 s.y]
theorem chC_len (s : Ch) : (chC s).length = 3 := rfl
theorem chC_one (s : Ch) : ∀ u ∈ chC s, u.oneCell' = true := by simp [chC, Value.oneCell']
theorem VRow.ch {w wr : World} {cap k : Nat} {p : Option Addr} {l : List Ch} (hv : VRow chC 3 w p l.length cap l) (ho : Only [] w wr) (hk : k < l.length) :
    ∃ bk off, p = some ⟨bk, off, none⟩ ∧ wr.cell? ⟨bk, off + k * 3, none⟩ = some (.int .i64 (l.getD k ch0).a) ∧ wr.cell? ⟨bk, off + k * 3 + 1, none⟩ = some (.int .i64 (l.getD k ch0).d) ∧ wr.cell? ⟨bk, off + k * 3 + 2, none⟩ = some (.int .i64 (l.getD k ch0).y) ∧ bk < wr.heap.size := by
  obtain ⟨bk, off, hp, hb, hc⟩ := hv.at_ ho (getD_some ch0 hk)
  exact ⟨bk, off, hp, hc 0 _ rfl, hc 1 _ rfl, hc 2 _ rfl, hb⟩
theorem clp_b {n : Int} : (clp n == n) = inR n 0 10000000000 := by rw [Bool.eq_iff_iff, beq_iff_eq]; exact clp_eq
theorem eq2_clp (a b : Int) : eq2 (clp a) (clp b) a b = (inR a 0 10000000000 && inR b 0 10000000000) := by unfold eq2; rw [clp_b, clp_b]
def LcI (w1 : World) (l : List Ch) (vi : Value) (wr : World) : Prop :=
  ∃ k : Nat, k ≤ l.length ∧ vi = .int .i64 k ∧ (l.take k).all chR = true ∧ Only [] w1 wr
def LcJ (w1 : World) (l : List Ch) (vi : Value) (wr : World) : Prop :=
  ∃ k : Nat, 1 ≤ k ∧ vi = .int .i64 k ∧ fe (chO l) (l.length - 1) 1 = fe (chO l) (l.length - k) k ∧ Only [] w1 wr
/-- the value of a link in package link -/
def lkV (l : Lk) (p : Option Addr) (n cap : Nat) : Value := .agg #[.int .i64 l.d0, .int .i64 l.d1, .int .i64 l.v0, .int .i64 l.v1, .int .i64 l.lo, .int .u64 l.sd, .slice p n cap]
set_option maxRecDepth 100000 in
set_option maxHeartbeats 4000000 in
theorem pLink {w : World} {p : Option Addr} {n cap : Nat} (l : Lk) (hv : VRow chC 3 w p n cap l.ch) (hn : n ≤ 100000) :
    Calls Tryd.prog 16 #[lkV l p n cap] w fun e w' => e = .returned (.int .i64 (linkE l)) ∧ Only [] w w' := by
  have hl := hv.len
  subst hl
  have HV := Lib.hid hv; clear hv
  unfold lkV
  go_enter Tryd.func16, Tryd.ntmps16
  go_upto_region 1 with (fail)
  refine alloc_abs (G := fun w0 => Code.wp _ _ _ _ w0) ?_
  intro w1 hb1 ho1 hs1
  have B1 := Lib.hid hb1; have O1 := Lib.hid ho1
  clear hb1 ho1 hs1
  have g0 := cell_got B1.out 0; have g1 := cell_got B1.out 1; have g2 := cell_got B1.out 2; have g3 := cell_got B1.out 3; have g4 := cell_got B1.out 4; have g6 := cell_got B1.out 6
  have l0 := got_lt B1.out
  have hd := eq2_clp l.d0 l.d1; have hvv := eq2_clp l.v0 l.v1
  by_cases h1 : (inR l.d0 0 10000000000 && inR l.d1 0 10000000000) = true
  · have q1 : eq2 (clp l.d0) (clp l.d1) l.d0 l.d1 = true := hd.trans h1
    clear hd
    by_cases h2 : (inR l.v0 0 10000000000 && inR l.v1 0 10000000000) = true
    · have q2 : eq2 (clp l.v0) (clp l.v1) l.v0 l.v1 = true := hvv.trans h2
      clear hvv
      by_cases h3 : inR l.lo 0 1000 = true
      · obtain ⟨p0, p1⟩ := inR_t.1 h3
        have e1 : decide (l.lo < 0) = false := by simp; omega
        have e2 : decide (l.lo > 1000) = false := by simp; omega
        have e3 : decide (1000 < l.lo) = false := by simp; omega
        have HR : Hid (linkE l = if l.ch.all chR = true then (if 16 < l.ch.length then 6 else fe (chO l.ch) (l.ch.length - 1) 1) else 3) := Lib.hid (by unfold linkE; rw [if_pos (by unfold lkR; rw [h1, h2, h3]; rfl)])
        clear h1 h2 h3
        refine wp_region_grown [0, 1, 2, 3, 4, 5, 6, 7, 8, 9, 10, 11, 12, 13, 14, 15, 16, 17, 18, 19, 20, 21, 22, 23] [] (by kernel_rfl) (by kernel_rfl) ?_
        simp only [pick, List.map_cons, List.map_nil, List.getD_cons_succ, List.getD_cons_zero]
        iterate 2 (refine wpQuiet_step (fun K hK => ?_); go_simp; refine hK _ ?_; clear hK K)
        refine wpQuiet_enter_w (by kernel_rfl) 36 #[.agg #[.int .i64 l.d0, .int .i64 l.d1]] (fun _ => by kernel_rfl) (.agg #[.int .i64 (clp l.d0), .int .i64 (clp l.d1)]) (grown_only2 fun w' ho' => pLimited _ _ w') ?_
        iterate 3 (refine wpQuiet_step (fun K hK => ?_); go_simp; refine hK _ ?_; clear hK K)
        repeat (go_big_quiet_step (fail))
        refine wpQuiet_enter_w (by kernel_rfl) 36 #[.agg #[.int .i64 l.v0, .int .i64 l.v1]] (fun _ => by kernel_rfl) (.agg #[.int .i64 (clp l.v0), .int .i64 (clp l.v1)]) (grown_only2 fun w' ho' => pLimited _ _ w') ?_
        iterate 3 (refine wpQuiet_step (fun K hK => ?_); go_simp; refine hK _ ?_; clear hK K)
        repeat (go_big_quiet_step (fail))
        refine wpQuiet_nil ?_
        intro w2 hw2
        have O2 := Lib.hid (O1.out.nil_trans (only_of_plus hw2)); have B2 := Lib.hid ((only_of_plus hw2).got B1.out (by simp))
        clear hw2 g0 g1 g2 g3 g4 g6 l0
        clear e1 e2 e3 p0 p1 q1 q2
        have g6 := cell_got B2.out 6; have l0 := got_lt B2.out
        go_wp2
        go_loopw [33] (fun vi wr => LcI w2 l.ch vi wr) (fun vi _ => l.ch.length - (intOf vi).toNat)
        case atStart => exact ⟨0, Nat.zero_le _, rfl, rfl, Only.refl _ _⟩
        case round =>
          clear g6 l0
          obtain ⟨k, hk, rfl, hall, ho⟩ := hrel
          have HA := Lib.hid hall; have OO := Lib.hid ho; have OA := Lib.hid (O2.out.nil_trans ho); have B3 := Lib.hid (ho.got B2.out (by simp))
          clear hall ho
          by_cases hlt : k < l.ch.length
          · obtain ⟨bk, off, hp, c0, c1, c2, lb⟩ := HV.out.ch OA.out hlt
            subst hp
            have hgk := getD_some ch0 hlt
            have hmem := List.mem_of_getElem? hgk
            have htk : (l.ch.take (k + 1)).all chR = chR (l.ch.getD k ch0) := by rw [List.take_add_one, hgk]; simp [List.all_append, HA.out]
            have HNO : Hid (chR (l.ch.getD k ch0) = false → linkE l = 3) := Lib.hid (fun h => by rw [HR.out, if_neg (fun hq => by rw [List.all_eq_true] at hq; rw [hq _ hmem] at h; cases h)])
            generalize l.ch.getD k ch0 = c at c0 c1 c2 htk HNO hgk hmem
            have HTK := Lib.hid htk
            clear hgk hmem htk
            go_upto_region 6 with (fail)
            refine alloc_abs (G := fun w0 => Code.wp _ _ _ _ w0) ?_
            intro w4 hb4 ho4 hs4
            have E4 := Lib.hid hb4; have O4 := Lib.hid (OO.out.nil_trans ho4); have OB := Lib.hid (OA.out.nil_trans ho4)
            clear hb4 ho4 hs4 c0 c1 c2 lb
            have c0 := cell_got E4.out 0; have c1 := cell_got E4.out 1; have c2 := cell_got E4.out 2; have le := got_lt E4.out
            go_wp2_with fail
            refine (pTime c.a w4).mono ?_
            rintro e w5 ⟨rfl, rfl⟩
            by_cases ha : inR c.a 0 1125899906842624 = true
            · rw [ha]
              go_wp2_with fail
              refine (pDir c.d w4).mono ?_
              rintro e w5 ⟨rfl, rfl⟩
              by_cases hd : inR c.d 0 1 = true
              · rw [hd]
                by_cases hy : inR c.y 0 10000000000 = true
                · obtain ⟨p0, p1⟩ := inR_t.1 hy
                  have e1 : decide (c.y < 0) = false := by simp; omega
                  have e2 : decide (c.y > 10000000000) = false := by simp; omega
                  have e3 : decide (10000000000 < c.y) = false := by simp; omega
                  have HX := Lib.hid (HTK.out.trans (show chR c = true by unfold chR; rw [ha, hd, hy]; rfl))
                  clear ha hd hy
                  go_wp2
                  go_roundw
                  case rel => exact ⟨k + 1, by omega, by go_num, HX.out, O4.out⟩
                  case measure => first | (simp [intOf]; done) | (simp [intOf]; omega)
                · have HX := Lib.hid (HNO.out (show chR c = false by unfold chR; rw [Bool.not_eq_true] at hy; rw [ha, hd, hy]; rfl))
                  rcases inR_no hy with hq | ⟨hq, hr⟩
                  · have e1 : decide (c.y < 0) = true := by simp; omega
                    clear ha hd hy
                    go_wp2
                    go_ret
                    exact ⟨by rw [HX.out]; rfl, OB.out⟩
                  · have e1 : decide (c.y < 0) = false := by simp; omega
                    have e2 : decide (c.y > 10000000000) = true := by simp; omega
                    have e3 : decide (10000000000 < c.y) = true := by simp; omega
                    clear ha hd hy
                    go_wp2
                    go_ret
                    exact ⟨by rw [HX.out]; rfl, OB.out⟩
              · rw [Bool.not_eq_true] at hd
                rw [hd]
                have HX := Lib.hid (HNO.out (show chR c = false by unfold chR; rw [ha, hd]; rfl))
                clear ha hd
                go_wp2
                go_ret
                exact ⟨by rw [HX.out]; rfl, OB.out⟩
            · rw [Bool.not_eq_true] at ha
              rw [ha]
              have HX := Lib.hid (HNO.out (show chR c = false by unfold chR; rw [ha]; rfl))
              clear ha
              go_wp2
              go_ret
              exact ⟨by rw [HX.out]; rfl, OB.out⟩
          · obtain rfl : k = l.ch.length := by omega
            have hal := HA.out
            rw [List.take_of_length_le (Nat.le_refl _)] at hal
            have hr2 := HR.out
            rw [if_pos hal] at hr2
            have g6 := cell_got B3.out 6; have l0 := got_lt B3.out
            by_cases h16 : 16 < l.ch.length
            · have d2 : decide ((l.ch.length : Int) > 16) = true := by simp; omega
              have d3 : decide (16 < (l.ch.length : Int)) = true := by simp; omega
              have HX : Hid (linkE l = 6) := Lib.hid (by rw [hr2, if_pos h16])
              clear hr2 hal
              go_wp2
              go_ret
              exact ⟨by rw [HX.out]; rfl, OA.out⟩
            · have d2 : decide ((l.ch.length : Int) > 16) = false := by simp; omega
              have d3 : decide (16 < (l.ch.length : Int)) = false := by simp; omega
              have HX : Hid (linkE l = fe (chO l.ch) (l.ch.length - 1) 1) := Lib.hid (by rw [hr2, if_neg h16])
              clear hr2 hal
              obtain ⟨wo, hwo⟩ : ∃ wo : World, wo = wr := ⟨_, rfl⟩
              subst hwo
              go_wp2
              go_loopw [5] (fun vi wr => LcJ wo l.ch vi wr) (fun vi _ => l.ch.length - (intOf vi).toNat)
              case atStart => exact ⟨1, Nat.le_refl _, rfl, rfl, Only.refl _ _⟩
              case round =>
                clear g6 l0 d2 d3
                obtain ⟨k, hk, rfl, hfe, ho⟩ := hrel
                have HF := Lib.hid hfe; have OO' := Lib.hid ho; have OA' := Lib.hid (OA.out.nil_trans ho); have B4 := Lib.hid (ho.got B3.out (by simp))
                clear hfe ho
                have g6 := cell_got B4.out 6; have l0 := got_lt B4.out
                by_cases hlt : k < l.ch.length
                · obtain ⟨bk, off, hp, c0, c1, c2, lb⟩ := HV.out.ch OA'.out hlt
                  obtain ⟨bk', off', hp', p0, p1, p2, lb'⟩ := HV.out.ch OA'.out (show k - 1 < l.ch.length by omega)
                  subst hp
                  cases hp'
                  clear p1 p2 lb' c1 c2
                  have hE : chO l.ch k = if (l.ch.getD k ch0).a < (l.ch.getD (k - 1) ch0).a then 12 else 0 := rfl
                  generalize l.ch.getD k ch0 = s at c0 hE
                  generalize l.ch.getD (k - 1) ch0 = t at p0 hE
                  have hi1 : (1 : Int) ≤ (k : Int) := by omega
                  have hi2 : (k : Int) - 1 < (l.ch.length : Int) := by omega
                  have hi3 : IntKind.i64.wrap ((k : Int) - 1) = (k : Int) - 1 := IntWalk.i64_in _ (by omega)
                  have hi4 : ((k : Int) - 1).toNat = k - 1 := by omega
                  by_cases hc : s.a < t.a
                  · have z1 : decide (s.a < t.a) = true := by simp [hc]
                    rw [if_pos hc] at hE
                    have HY : Hid (linkE l = 12) := Lib.hid (by rw [HX.out, HF.out, fe_no hlt (by rw [hE]; decide), hE])
                    clear hE hc
                    go_wp2_with fail
                    go_quiet (fail)
                    go_wp2
                    go_ret
                    exact ⟨by rw [HY.out]; rfl, OA'.out.nil_trans (only_dr2 _ _)⟩
                  · have z1 : decide (s.a < t.a) = false := by simpa using hc
                    rw [if_neg hc] at hE
                    have HY := Lib.hid (HF.out.trans (fe_yes hlt hE))
                    clear hE hc
                    go_wp2_with fail
                    go_quiet (fail)
                    clear hi3 hi4
                    go_wp2
                    go_roundw
                    case rel => exact ⟨k + 1, by omega, by go_num, HY.out, OO'.out.nil_trans (only_dr2 _ _)⟩
                    case measure => first | (simp [intOf]; done) | (simp [intOf]; omega)
                · have HY : Hid (linkE l = 0) := Lib.hid (by rw [HX.out, HF.out, fe_end (by omega)])
                  have n1 : decide ((k : Int) < (l.ch.length : Int)) = false := by simp; omega
                  have n2 : decide (k < l.ch.length) = false := by simp; omega
                  go_wp2
                  go_ret
                  exact ⟨by rw [HY.out]; rfl, OA'.out⟩
      · have e0 := h3
        rw [Bool.not_eq_true] at e0
        rcases inR_no h3 with hq | ⟨hq, hr⟩
        · have e1 : decide (l.lo < 0) = true := by simp; omega
          have HR : Hid (linkE l = 3) := Lib.hid (by unfold linkE; rw [if_neg (by unfold lkR; rw [e0]; simp)])
          refine wp_region_grown [0, 1, 2, 3, 4, 5, 6, 7, 8, 9, 10, 11, 12, 13, 14, 15, 16, 17, 18, 19, 20, 21, 22, 23] [] (by kernel_rfl) (by kernel_rfl) ?_
          simp only [pick, List.map_cons, List.map_nil, List.getD_cons_succ, List.getD_cons_zero]
          iterate 2 (refine wpQuiet_step (fun K hK => ?_); go_simp; refine hK _ ?_; clear hK K)
          refine wpQuiet_enter_w (by kernel_rfl) 36 #[.agg #[.int .i64 l.d0, .int .i64 l.d1]] (fun _ => by kernel_rfl) (.agg #[.int .i64 (clp l.d0), .int .i64 (clp l.d1)]) (grown_only2 fun w' ho' => pLimited _ _ w') ?_
          iterate 3 (refine wpQuiet_step (fun K hK => ?_); go_simp; refine hK _ ?_; clear hK K)
          repeat (go_big_quiet_step (fail))
          refine wpQuiet_enter_w (by kernel_rfl) 36 #[.agg #[.int .i64 l.v0, .int .i64 l.v1]] (fun _ => by kernel_rfl) (.agg #[.int .i64 (clp l.v0), .int .i64 (clp l.v1)]) (grown_only2 fun w' ho' => pLimited _ _ w') ?_
          iterate 3 (refine wpQuiet_step (fun K hK => ?_); go_simp; refine hK _ ?_; clear hK K)
          repeat (go_big_quiet_step (fail))
          refine wpQuiet_nil ?_
          intro w2 hw2
          have O2 := Lib.hid (O1.out.nil_trans (only_of_plus hw2)); have B2 := Lib.hid ((only_of_plus hw2).got B1.out (by simp))
          clear hw2 g0 g1 g2 g3 g4 g6 l0
          go_wp2
          go_ret
          exact ⟨by rw [HR.out]; rfl, O2.out⟩
        · have e1 : decide (l.lo < 0) = false := by simp; omega
          have e2 : decide (l.lo > 1000) = true := by simp; omega
          have e3 : decide (1000 < l.lo) = true := by simp; omega
          have HR : Hid (linkE l = 3) := Lib.hid (by unfold linkE; rw [if_neg (by unfold lkR; rw [e0]; simp)])
          refine wp_region_grown [0, 1, 2, 3, 4, 5, 6, 7, 8, 9, 10, 11, 12, 13, 14, 15, 16, 17, 18, 19, 20, 21, 22, 23] [] (by kernel_rfl) (by kernel_rfl) ?_
          simp only [pick, List.map_cons, List.map_nil, List.getD_cons_succ, List.getD_cons_zero]
          iterate 2 (refine wpQuiet_step (fun K hK => ?_); go_simp; refine hK _ ?_; clear hK K)
          refine wpQuiet_enter_w (by kernel_rfl) 36 #[.agg #[.int .i64 l.d0, .int .i64 l.d1]] (fun _ => by kernel_rfl) (.agg #[.int .i64 (clp l.d0), .int .i64 (clp l.d1)]) (grown_only2 fun w' ho' => pLimited _ _ w') ?_
          iterate 3 (refine wpQuiet_step (fun K hK => ?_); go_simp; refine hK _ ?_; clear hK K)
          repeat (go_big_quiet_step (fail))
          refine wpQuiet_enter_w (by kernel_rfl) 36 #[.agg #[.int .i64 l.v0, .int .i64 l.v1]] (fun _ => by kernel_rfl) (.agg #[.int .i64 (clp l.v0), .int .i64 (clp l.v1)]) (grown_only2 fun w' ho' => pLimited _ _ w') ?_
          iterate 3 (refine wpQuiet_step (fun K hK => ?_); go_simp; refine hK _ ?_; clear hK K)
          repeat (go_big_quiet_step (fail))
          refine wpQuiet_nil ?_
          intro w2 hw2
          have O2 := Lib.hid (O1.out.nil_trans (only_of_plus hw2)); have B2 := Lib.hid ((only_of_plus hw2).got B1.out (by simp))
          clear hw2 g0 g1 g2 g3 g4 g6 l0
          go_wp2
          go_ret
          exact ⟨by rw [HR.out]; rfl, O2.out⟩
    · rw [Bool.not_eq_true] at h2
      have q2 : eq2 (clp l.v0) (clp l.v1) l.v0 l.v1 = false := hvv.trans h2
      clear hvv
      have HR : Hid (linkE l = 3) := Lib.hid (by unfold linkE; rw [if_neg (by unfold lkR; rw [h2]; simp)])
      refine wp_region_grown [0, 1, 2, 3, 4, 5, 6, 7, 8, 9, 10, 11, 12, 13, 14, 15, 16, 17, 18, 19, 20, 21, 22, 23] [] (by kernel_rfl) (by kernel_rfl) ?_
      simp only [pick, List.map_cons, List.map_nil, List.getD_cons_succ, List.getD_cons_zero]
      iterate 2 (refine wpQuiet_step (fun K hK => ?_); go_simp; refine hK _ ?_; clear hK K)
      refine wpQuiet_enter_w (by kernel_rfl) 36 #[.agg #[.int .i64 l.d0, .int .i64 l.d1]] (fun _ => by kernel_rfl) (.agg #[.int .i64 (clp l.d0), .int .i64 (clp l.d1)]) (grown_only2 fun w' ho' => pLimited _ _ w') ?_
      iterate 3 (refine wpQuiet_step (fun K hK => ?_); go_simp; refine hK _ ?_; clear hK K)
      repeat (go_big_quiet_step (fail))
      refine wpQuiet_enter_w (by kernel_rfl) 36 #[.agg #[.int .i64 l.v0, .int .i64 l.v1]] (fun _ => by kernel_rfl) (.agg #[.int .i64 (clp l.v0), .int .i64 (clp l.v1)]) (grown_only2 fun w' ho' => pLimited _ _ w') ?_
      iterate 3 (refine wpQuiet_step (fun K hK => ?_); go_simp; refine hK _ ?_; clear hK K)
      repeat (go_big_quiet_step (fail))
      refine wpQuiet_nil ?_
      intro w2 hw2
      have O2 := Lib.hid (O1.out.nil_trans (only_of_plus hw2)); have B2 := Lib.hid ((only_of_plus hw2).got B1.out (by simp))
      clear hw2 g0 g1 g2 g3 g4 g6 l0
      go_wp2
      go_ret
      exact ⟨by rw [HR.out]; rfl, O2.out⟩
  · rw [Bool.not_eq_true] at h1
    have q1 : eq2 (clp l.d0) (clp l.d1) l.d0 l.d1 = false := hd.trans h1
    clear hd hvv
    have HR : Hid (linkE l = 3) := Lib.hid (by unfold linkE; rw [if_neg (by unfold lkR; rw [h1]; simp)])
    refine wp_region_grown [0, 1, 2, 3, 4, 5, 6, 7, 8, 9, 10, 11, 12, 13, 14, 15, 16, 17, 18, 19, 20, 21, 22, 23] [] (by kernel_rfl) (by kernel_rfl) ?_
    simp only [pick, List.map_cons, List.map_nil, List.getD_cons_succ, List.getD_cons_zero]
    iterate 2 (refine wpQuiet_step (fun K hK => ?_); go_simp; refine hK _ ?_; clear hK K)
    refine wpQuiet_enter_w (by kernel_rfl) 36 #[.agg #[.int .i64 l.d0, .int .i64 l.d1]] (fun _ => by kernel_rfl) (.agg #[.int .i64 (clp l.d0), .int .i64 (clp l.d1)]) (grown_only2 fun w' ho' => pLimited _ _ w') ?_
    iterate 3 (refine wpQuiet_step (fun K hK => ?_); go_simp; refine hK _ ?_; clear hK K)
    repeat (go_big_quiet_step (fail))
    refine wpQuiet_nil ?_
    intro w2 hw2
    have O2 := Lib.hid (O1.out.nil_trans (only_of_plus hw2)); have B2 := Lib.hid ((only_of_plus hw2).got B1.out (by simp))
    clear hw2 g0 g1 g2 g3 g4 g6 l0
    go_wp2
    go_ret
    exact ⟨by rw [HR.out]; rfl, O2.out⟩
end Go.Proofs.YthmeifdgkodjlaaDoor
