/- LogbookMatches: each pair of a valid log is a message's sending and reception. Conditions: those of the given row. -/
import Derived.Test.YtdpfbedcejahjaaDoorLf
import Derived.Test.YtdpfbedcejahjaaDoorLu
import Derived.Test.YtdpfbedcejahjaaDoorCalm
import Derived.Deep.Cut
import Derived.Deep.Light
namespace Go.Proofs.YtdpfbedcejahjaaDoor
open Go.ChangeShapes Go.WideShapes Go.ChangeAt Go.RowKit

def boC (b : Bool) : List Value := [.bool b]
theorem boC_len (b : Bool) : (boC b).length = 1 := rfl
def lastI (ps : List (Nat × Nat)) : Int := match ps.getLast? with
  | none => -1
  | some p => p.2
theorem lastI_snoc (ps : List (Nat × Nat)) (p : Nat × Nat) : lastI (ps ++ [p]) = p.2 := by simp [lastI]
theorem lastI_lt {ps : List (Nat × Nat)} {k : Nat} (hk : k < ps.length) (h : ∀ j (hj : j < k), ps[j].2 < ps[k].2) : lastI (ps.take k) < ps[k].2 := by
  unfold lastI
  cases hq : (ps.take k).getLast? with
  | none => simp only; omega
  | some p =>
    simp only
    rw [List.getLast?_eq_getElem?] at hq
    have hl : (ps.take k).length = k := by rw [List.length_take]; omega
    obtain ⟨h1, h2⟩ := List.getElem?_eq_some_iff.1 hq
    rw [hl] at h1
    rw [List.getElem_take] at h2
    have h3 : (ps.take k).length - 1 = k - 1 := by rw [hl]
    have := h (k - 1) (by omega)
    simp only [h3] at h2
    rw [h2] at this
    omega
theorem store6 {w : World} {b : Nat} {T : TypeId} {z0 z1 z2 z3 z4 z5 : Value} (v0 v1 v2 v3 v4 v5 : Value) (h : w.heap[b]? = some (.cells #[z0, z1, z2, z3, z4, z5] T (0, 0))) :
    ((((((w.setCell ⟨b, 0, none⟩ v0).setCell ⟨b, 1, none⟩ v1).setCell ⟨b, 2, none⟩ v2).setCell ⟨b, 3, none⟩ v3).setCell ⟨b, 4, none⟩ v4).setCell ⟨b, 5, none⟩ v5).heap[b]? = some (.cells #[v0, v1, v2, v3, v4, v5] T (0, 0)) := by
  have := setCell_got (o := 5) v5 (setCell_got (o := 4) v4 (setCell_got (o := 3) v3 (setCell_got (o := 2) v2 (setCell_got (o := 1) v1 (setCell_got (o := 0) v0 h)))))
  rw [this]; rfl
theorem only6 (w : World) (b : Nat) (v0 v1 v2 v3 v4 v5 : Value) : Only [b] w ((((((w.setCell ⟨b, 0, none⟩ v0).setCell ⟨b, 1, none⟩ v1).setCell ⟨b, 2, none⟩ v2).setCell ⟨b, 3, none⟩ v3).setCell ⟨b, 4, none⟩ v4).setCell ⟨b, 5, none⟩ v5) :=
  ((((((Only.refl [b] w).setCell (.inl (by simp)) _).setCell (.inl (by simp)) _).setCell (.inl (by simp)) _).setCell (.inl (by simp)) _).setCell (.inl (by simp)) _).setCell (.inl (by simp)) _
def MatR (w1 : World) (n : Nat) (pl : List (Nat × Nat)) (v5 v30 : Value) (wr : World) : Prop :=
  ∃ k : Nat, k ≤ pl.length ∧ v30 = .int .i64 k ∧ v5 = .int .i64 (lastI (pl.take k)) ∧ RowAt boC 4 1 wr w1.heap.size n (usedL n (pl.take k)) ∧ Only [] w1 wr
def LonR (w1 : World) (n : Nat) (pl : List (Nat × Nat)) (v : Value) (wr : World) : Prop :=
  ∃ i : Nat, i ≤ n ∧ v = .int .i64 i ∧ RowAt boC 4 1 wr w1.heap.size n (usedL n pl) ∧ Only [] w1 wr
def InnR (w3 : World) (n : Nat) (v : Value) (wr : World) : Prop :=
  ∃ j : Nat, j ≤ n ∧ v = .int .i64 j ∧ Only [] w3 wr

set_option maxRecDepth 100000 in
set_option maxHeartbeats 4000000 in
theorem matches_walk {w : World} {p : Option Addr} {n cap : Nat} {l : List En} (hv : VRow enC 6 w p n cap l) (he : Env w) :
    Calls Tryd.prog 6 #[.slice p n cap] w fun e w' => e = .returned (.bool true) ∧ Only [] w w' := by
  have hl := hv.len
  subst hl
  have HE := Lib.hid he; have HV := Lib.hid hv
  clear he hv
  by_cases h512 : 512 < l.length
  · have d : decide (512 < (l.length : Int)) = true := by simp; omega
    have d' : decide (512 < l.length) = true := by simp; omega
    go_enter Tryd.func6, Tryd.ntmps6
    go_wp2_with fail
    refine (awake_any w HE.out).mono ?_
    rintro e w3 ⟨rfl, ho3⟩
    go_wp2
    go_ret
    exact ⟨rfl, ho3⟩
  · have d : decide (512 < (l.length : Int)) = false := by simp; omega
    have d' : decide (512 < l.length) = false := by simp; omega
    have hn : l.length ≤ 100000 := by omega
    go_enter Tryd.func6, Tryd.ntmps6
    go_wp2_with fail
    refine (Pcheck HV.out hn).mono ?_
    rintro e w0 ⟨rfl, ho0⟩
    have O0 := Lib.hid ho0; clear ho0
    by_cases h0 : logE l = 0
    · rw [h0]
      have HU := Lib.hid (uniq_of_log h0)
      have hpr := fun w' (ho : Only [] w w') => Ppairs (HV.out.kept ho) hn
      rw [show prsR l = prs l by unfold prsR; rw [if_pos h0]] at hpr
      have HPR := Lib.hid hpr
      clear h0 hpr
      go_wp2_with fail
      refine (HPR.out w0 O0.out).mono ?_
      rintro e w1 ⟨p1, cap1, rfl, hv1, ho1⟩
      have O1 := Lib.hid (O0.out.nil_trans ho1); have V1 := Lib.hid hv1
      clear ho1 hv1 O0 HPR
      obtain ⟨pl, hpl⟩ : ∃ pl, pl = prs l := ⟨_, rfl⟩
      rw [← hpl] at V1 ⊢
      have HPL := Lib.hid hpl
      have hpll : pl.length ≤ 100000 := by rw [hpl]; exact Nat.le_trans (prsI_len HU.out l 0) hn
      clear hpl
      go_wp2_with (at_make; refine wpList_make_own boC rfl _ _ 35 rfl 4 (.bool false) 1 1 Tryd.underlying35 (by kernel_rfl) boC_len false rfl .i64 .i64 _ _ l.length rfl rfl rfl rfl (by omega) (by simp [maxLen]; omega) ?_; intro w2 hrow2 ho2 hs2)
      have R2 := Lib.hid hrow2; have O2 := Lib.hid ho2
      clear hrow2 ho2 hs2
      go_wp2
      go_loopw [5, 30] (fun v5 v30 wr => MatR w1 l.length pl v5 v30 wr) (fun _ v30 _ => pl.length - (intOf v30).toNat)
      case atStart => exact ⟨0, Nat.zero_le _, rfl, rfl, by rw [List.take_zero, usedL_nil]; exact R2.out, O2.out⟩
      case round =>
        obtain ⟨k, hk, rfl, rfl, hrow, ho⟩ := hrel
        have RR := Lib.hid hrow; have OO := Lib.hid ho
        clear hrow ho
        by_cases hlt : k < pl.length
        · have hplk : ∃ ia ib, pl[k] = (ia, ib) := ⟨_, _, rfl⟩
          obtain ⟨ia, ib, hab⟩ := hplk
          obtain ⟨ea, eb, f1, f2, f3, f4, f5, f6, f7, f8, f9, f10, f11⟩ := pair_facts HU.out (k := k) (by rw [← HPL.out]; exact hlt)
          simp only [← HPL.out, hab] at f1 f2 f8 f9 f11
          have hla : lastI (pl.take k) < (ib : Int) := by
            have := lastI_lt hlt (fun j hj => by have := f10 j hj; simp only [← HPL.out] at this; exact this)
            rw [hab] at this; exact this
          have htk : pl.take (k + 1) = pl.take k ++ [(ia, ib)] := by rw [List.take_succ_eq_append_getElem hlt, hab]
          have HNL : Hid (lastI (pl.take (k + 1)) = ib) := Lib.hid (by rw [htk, lastI_snoc])
          have HNU : Hid (usedL l.length (pl.take (k + 1)) = ((usedL l.length (pl.take k)).set ia true).set ib true) := Lib.hid (by rw [htk, usedL_snoc])
          obtain ⟨bb, off, hp1, hb1, hc1⟩ := V1.out.cell k (ia, ib) (by rw [List.getElem?_eq_getElem hlt, hab])
          subst hp1
          have c0 : wr.cell? ⟨bb, off + k * 2, none⟩ = some (.int .i64 ia) := by rw [OO.out.cell hb1 (by simp)]; exact hc1 0 _ rfl
          have c1 : wr.cell? ⟨bb, off + k * 2 + 1, none⟩ = some (.int .i64 ib) := by rw [OO.out.cell hb1 (by simp)]; exact hc1 1 _ rfl
          have hbw : bb < wr.heap.size := Nat.lt_of_lt_of_le hb1 OO.out.size
          have hia : ia < l.length := (List.getElem?_eq_some_iff.1 f1).1
          have hib : ib < l.length := (List.getElem?_eq_some_iff.1 f2).1
          have F1 := Lib.hid f1; have F2 := Lib.hid f2; have F8 := Lib.hid f8; have F9 := Lib.hid f9; have F11 := Lib.hid f11; have FQ := Lib.hid (And.intro f3 (And.intro f4 (And.intro f5 (And.intro f6 f7))))
          clear f1 f2 f3 f4 f5 f6 f7 f8 f9 f10 f11 hc1 hb1 hab htk
          obtain ⟨la, hlav⟩ : ∃ la, la = lastI (pl.take k) := ⟨_, rfl⟩
          rw [← hlav] at hla ⊢
          clear hlav
          go_upto_region 9 with (fail)
          refine alloc_abs (G := fun w0 => Code.wp _ _ _ _ w0) ?_
          intro w3 hb3 ho3 hs3
          have B3 := Lib.hid hb3; have O3 := Lib.hid (OO.out.nil_trans ho3); have R3 := Lib.hid (RR.out.kept ho3 (by simp))
          have hne9 : w1.heap.size < wr.heap.size := RR.out.lt
          clear hb3 ho3 hs3 OO RR c0 c1 hbw
          have p0 := cell_got B3.out 0; have p1 := cell_got B3.out 1
          have lp := got_lt B3.out
          have u0 : w3.cell? ⟨w1.heap.size, ia, none⟩ = some (.bool false) := by
            have := R3.out.cell (i := ia) (j := 0) boC_len F8.out (by decide)
            simpa [boC] using this
          have u1 : w3.cell? ⟨w1.heap.size, ib, none⟩ = some (.bool false) := by
            have := R3.out.cell (i := ib) (j := 0) boC_len F9.out (by decide)
            simpa [boC] using this
          have lu := R3.out.lt
          have OA := Lib.hid (O1.out.nil_trans O3.out)
          obtain ⟨lb, loff, hlp, hlb, hca⟩ := HV.out.cell ia ea F1.out
          subst hlp
          obtain ⟨lb', loff', hlp', hlb', hcb⟩ := HV.out.cell ib eb F2.out
          cases hlp'
          have hlw : lb < w3.heap.size := Nat.lt_of_lt_of_le hlb OA.out.size
          have a0 : w3.cell? ⟨lb, loff + ia * 6, none⟩ = some (.int .i64 ea.k) := by rw [OA.out.cell hlb (by simp)]; exact hca 0 _ rfl
          have b0 : w3.cell? ⟨lb, loff + ib * 6, none⟩ = some (.int .i64 eb.k) := by rw [OA.out.cell hlb (by simp)]; exact hcb 0 _ rfl
          have a1 : w3.cell? ⟨lb, loff + ia * 6 + 1, none⟩ = some (.int .i64 ea.n) := by rw [OA.out.cell hlb (by simp)]; exact hca 1 _ rfl
          have b1 : w3.cell? ⟨lb, loff + ib * 6 + 1, none⟩ = some (.int .i64 eb.n) := by rw [OA.out.cell hlb (by simp)]; exact hcb 1 _ rfl
          have a2 : w3.cell? ⟨lb, loff + ia * 6 + 2, none⟩ = some (.int .i64 ea.p) := by rw [OA.out.cell hlb (by simp)]; exact hca 2 _ rfl
          have b2 : w3.cell? ⟨lb, loff + ib * 6 + 2, none⟩ = some (.int .i64 eb.p) := by rw [OA.out.cell hlb (by simp)]; exact hcb 2 _ rfl
          have a3 : w3.cell? ⟨lb, loff + ia * 6 + 3, none⟩ = some (.int .i64 ea.m) := by rw [OA.out.cell hlb (by simp)]; exact hca 3 _ rfl
          have b3 : w3.cell? ⟨lb, loff + ib * 6 + 3, none⟩ = some (.int .i64 eb.m) := by rw [OA.out.cell hlb (by simp)]; exact hcb 3 _ rfl
          have a4 : w3.cell? ⟨lb, loff + ia * 6 + 4, none⟩ = some (.int .i64 ea.c) := by rw [OA.out.cell hlb (by simp)]; exact hca 4 _ rfl
          have b4 : w3.cell? ⟨lb, loff + ib * 6 + 4, none⟩ = some (.int .i64 eb.c) := by rw [OA.out.cell hlb (by simp)]; exact hcb 4 _ rfl
          have a5 : w3.cell? ⟨lb, loff + ia * 6 + 5, none⟩ = some (.int .i64 ea.v) := by rw [OA.out.cell hlb (by simp)]; exact hca 5 _ rfl
          have b5 : w3.cell? ⟨lb, loff + ib * 6 + 5, none⟩ = some (.int .i64 eb.v) := by rw [OA.out.cell hlb (by simp)]; exact hcb 5 _ rfl
          clear hca hcb hlb hlb'
          go_wp2_with fail
          refine wp_region_calm2 [0, 1, 2, 3, 4, 5, 6, 7, 8, 9] [13] (OnlyC ([] : List Nat) w3) (by kernel_rfl) (by kernel_rfl) ?_
          simp only [pick, List.map_cons, List.map_nil, List.getD_cons_succ, List.getD_cons_zero]
          iterate 10 (refine wpCalm_step (fun K hK => ?_); go_simp; refine hK _ ?_; clear hK K)
          refine wpCalm_nil ?_
          refine Rest.by (X := Nat × Nat) (fun y a => (a.put (some 8) (.pointer (some ⟨y.1, 0, none⟩))).put (some 9) (.pointer (some ⟨y.2, 0, none⟩))) (fun y w' => w'.heap[y.1]? = some (.cells #[.int .i64 ea.k, .int .i64 ea.n, .int .i64 ea.p, .int .i64 ea.m, .int .i64 ea.c, .int .i64 ea.v] 37 (0, 0)) ∧ w'.heap[y.2]? = some (.cells #[.int .i64 eb.k, .int .i64 eb.n, .int .i64 eb.p, .int .i64 eb.m, .int .i64 eb.c, .int .i64 eb.v] 37 (0, 0)) ∧ Only [] w3 w') ?_ ?_
          · rintro ⟨ba, be⟩ w9 ⟨hA9, hB9, o39⟩
            simp only at hA9 hB9
            simp only [Act.put, List.setIfInBounds_toArray, List.set_cons_succ, List.set_cons_zero]
            have A9 := Lib.hid hA9; have B9 := Lib.hid hB9; have O9 := Lib.hid (O3.out.nil_trans o39); have R9 := Lib.hid (R3.out.kept o39 (by simp)); have P9 := Lib.hid (o39.got B3.out (by simp))
            clear hA9 hB9 o39 p0 p1 u0 u1 lu lp a0 a1 a2 a3 a4 a5 b0 b1 b2 b3 b4 b5 hlw O3 R3 OA
            have p0 := cell_got P9.out 0; have p1 := cell_got P9.out 1
            have lp := got_lt P9.out
            have a0 := cell_got A9.out 0; have a1 := cell_got A9.out 1; have a2 := cell_got A9.out 2; have a3 := cell_got A9.out 3
            have b0 := cell_got B9.out 0; have b1 := cell_got B9.out 1; have b2 := cell_got B9.out 2; have b3 := cell_got B9.out 3
            have la9 := got_lt A9.out; have lb9 := got_lt B9.out
            have q1 : (ea.k != 1) = false := by simp [FQ.out.1]
            have q2 : (eb.k != 2) = false := by simp [FQ.out.2.1]
            have q3 : (ea.n != eb.p) = false := by simp [FQ.out.2.2.1]
            have q4 : (ea.p != eb.n) = false := by simp [FQ.out.2.2.2.1]
            have q5 : (ea.m != eb.m) = false := by simp [FQ.out.2.2.2.2]
            have hul := usedL_len l.length (pl.take k)
            have R12 := Lib.hid (fun w' (h : RowAt boC 4 1 w' w1.heap.size l.length (usedL l.length (pl.take k))) => RowAt.set1 (f := fun b => Value.bool b) h (i := ia) (by rw [hul]; exact hia) true)
            have R13 := Lib.hid (fun w' (h : RowAt boC 4 1 w' w1.heap.size l.length ((usedL l.length (pl.take k)).set ia true)) => RowAt.set1 (f := fun b => Value.bool b) h (i := ib) (by rw [List.length_set, hul]; exact hib) true)
            clear hul
            have lu := R9.out.lt
            have lia : (ia : Int) < (l.length : Int) := by omega
            have lib' : (ib : Int) < (l.length : Int) := by omega
            have nb1 : wr.heap.size ∉ [w1.heap.size] := by simp; omega
            go_wp2_with fail
            refine wp_region_calm2 [0, 1, 2, 3, 4, 5] [8, 9] (OnlyC [w1.heap.size] w9) (by kernel_rfl) (by kernel_rfl) ?_
            simp only [pick, List.map_cons, List.map_nil, List.getD_cons_succ, List.getD_cons_zero]
            iterate 6 (refine wpCalm_step (fun K hK => ?_); go_simp; refine hK _ ?_; clear hK K)
            refine wpCalm_nil ?_
            refine Rest.by (X := Unit) (fun _ a => (a.put (some 116) (.pointer (some ⟨w1.heap.size, ia, none⟩))).put (some 117) (.pointer (some ⟨w1.heap.size, ib, none⟩))) (fun _ w' => RowAt boC 4 1 w' w1.heap.size l.length (usedL l.length (pl.take (k + 1))) ∧ Only [] w1 w' ∧ w'.heap[wr.heap.size]? = some (.cells #[.int .i64 ia, .int .i64 ib] 33 (0, 0))) ?_ ?_
            · rintro _ w10 ⟨hr10, ho10, hp10⟩
              simp only [Act.put, List.setIfInBounds_toArray, List.set_cons_succ, List.set_cons_zero]
              have R14 := Lib.hid hr10; have O14 := Lib.hid ho10; have P14 := Lib.hid hp10
              clear hr10 ho10 hp10 p0 p1 lp a0 a1 a2 a3 b0 b1 b2 b3 la9 lb9
              have p0 := cell_got P14.out 0; have p1 := cell_got P14.out 1
              have lp := got_lt P14.out
              go_wp2
              go_roundw
              case rel => exact ⟨k + 1, by omega, by go_num, by rw [HNL.out], R14.out, O14.out⟩
              case measure => simp [intOf]; omega
            · clear p0 p1 lp a0 a1 a2 a3 b0 b1 b2 b3 la9 lb9
              refine wpAnyC_next [6] (by kernel_rfl) (by simp) (.inr (onlyC (Only.refl _ w9).drew)) ?_
              simp only [List.mem_cons, List.not_mem_nil, or_false, forall_eq]
              refine wpOp_one rfl ?_
              go_wp2
              simp only [nrm]
              refine wpAnyC_next [7] (by kernel_rfl) (by simp) (.inr (onlyC (Only.refl _ w9).drew)) ?_
              simp only [List.mem_cons, List.not_mem_nil, or_false, forall_eq]
              refine wpOp_one rfl ?_
              have c0 : w9.cell? ⟨w1.heap.size, ia, none⟩ = some (.bool false) := by
                have := R9.out.cell (i := ia) (j := 0) boC_len F8.out (by decide)
                simpa [boC] using this
              have z0 := R9.out.frozen ia
              go_wp2
              simp only [nrm]
              clear c0 z0
              refine wabs (G := wpAnyC _ _ _ _ _ _ _ _ _) (fun w' => RowAt boC 4 1 w' w1.heap.size l.length ((usedL l.length (pl.take k)).set ia true) ∧ Only [w1.heap.size] w9 w') ⟨R12.out _ R9.out, ((Only.refl [w1.heap.size] w9).setCell (.inl (by simp)) _).drew⟩ ?_
              rintro w11 ⟨hr11, ho11⟩
              have R11 := Lib.hid hr11; have O11 := Lib.hid ho11
              have lu11 := R11.out.lt
              clear hr11 ho11
              refine wpAnyC_next [8] (by kernel_rfl) (by simp) (.inr (onlyC O11.out)) ?_
              simp only [List.mem_cons, List.not_mem_nil, or_false, forall_eq]
              refine wpOp_one rfl ?_
              go_wp2
              simp only [nrm]
              refine wpAnyC_next [9] (by kernel_rfl) (by simp) (.inr (onlyC O11.out)) ?_
              simp only [List.mem_cons, List.not_mem_nil, or_false, forall_eq]
              refine wpOp_one rfl ?_
              have c1 : w11.cell? ⟨w1.heap.size, ib, none⟩ = some (.bool false) := by
                have := R11.out.cell (i := ib) (j := 0) (x := false) boC_len (by rw [List.getElem?_set_ne F11.out]; exact F9.out) (by decide)
                simpa [boC] using this
              have z1 := R11.out.frozen ib
              go_wp2
              simp only [nrm]
              clear c1 z1
              have o12 := O11.out.setCell (p := ⟨w1.heap.size, ib, none⟩) (.inl (by simp)) (.bool true)
              refine wpAnyC_done (by kernel_rfl) (.inr (onlyC o12)) ⟨(), rfl, by rw [HNU.out]; exact R13.out _ R11.out, O9.out.trans o12 (by simp), o12.got P9.out nb1⟩
          · clear p0 p1 u0 u1 a0 a1 a2 a3 a4 a5 b0 b1 b2 b3 b4 b5
            refine wpAnyC_next [10, 11] (by kernel_rfl) (by simp) (.inr (onlyC (Only.refl [] w3).drew)) ?_
            intro i hi
            simp only [List.mem_cons, List.not_mem_nil, or_false] at hi
            rcases hi with rfl | rfl
            · refine wpOp_one rfl ?_
              go_wp2
              simp only [nrm]
              refine allocd_abs (G := wpAnyC _ _ _ _ _ _ _ _ _) ?_
              intro w5 hn5 ho5 hs5
              refine wpAnyC_next [11] (by kernel_rfl) (by simp) (.inr (onlyC ho5)) ?_
              simp only [List.mem_cons, List.not_mem_nil, or_false, forall_eq]
              refine wpOp_one rfl ?_
              go_wp2
              simp only [nrm]
              refine alloc_abs (G := wpAnyC _ _ _ _ _ _ _ _ _) ?_
              intro w6 hn6 ho6 hs6
              have hm5 := ho6.got hn5 (by simp)
              have o36 := Lib.hid (ho5.nil_trans ho6)
              rw [hs5] at hn6
              have M5 := Lib.hid hm5; have M6 := Lib.hid hn6
              have hs5' := Lib.hid hs5; have hs6' := Lib.hid hs6
              clear hn5 hn6 hm5 hs5 hs6 ho5 ho6
              refine wpAnyC_next [12] (by kernel_rfl) (by simp) (.inr (onlyC o36.out)) ?_
              simp only [List.mem_cons, List.not_mem_nil, or_false, forall_eq]
              refine wpOp_one rfl ?_
              have la := got_lt M5.out
              have fa0 := frozen_got M5.out 0; have ca0 := cell_got M5.out 0
              have fa1 := frozen_got M5.out 1; have ca1 := cell_got M5.out 1
              have fa2 := frozen_got M5.out 2; have ca2 := cell_got M5.out 2
              have fa3 := frozen_got M5.out 3; have ca3 := cell_got M5.out 3
              have fa4 := frozen_got M5.out 4; have ca4 := cell_got M5.out 4
              have fa5 := frozen_got M5.out 5; have ca5 := cell_got M5.out 5
              go_wp2
              simp only [nrm]
              clear la fa0 ca0 fa1 ca1 fa2 ca2 fa3 ca3 fa4 ca4 fa5 ca5
              refine wabs (G := wpAnyC _ _ _ _ _ _ _ _ _) (fun w' => w'.heap[w3.heap.size]? = some (.cells #[.int .i64 ea.k, .int .i64 ea.n, .int .i64 ea.p, .int .i64 ea.m, .int .i64 ea.c, .int .i64 ea.v] 37 (0, 0)) ∧ Only [w3.heap.size] w6 w') ⟨store6 _ _ _ _ _ _ M5.out, only6 _ _ _ _ _ _ _ _⟩ ?_
              rintro w7 ⟨hA7, ho7⟩
              have A7 := Lib.hid hA7; have B7 := Lib.hid (ho7.got M6.out (by simp)); have o37 := Lib.hid (o36.out.trans ho7 (by simp))
              clear hA7 ho7 M5 M6 o36
              refine wpAnyC_next [13] (by kernel_rfl) (by simp) (.inr (onlyC o37.out)) ?_
              simp only [List.mem_cons, List.not_mem_nil, or_false, forall_eq]
              refine wpOp_one rfl ?_
              have la := got_lt B7.out
              have fa0 := frozen_got B7.out 0; have ca0 := cell_got B7.out 0
              have fa1 := frozen_got B7.out 1; have ca1 := cell_got B7.out 1
              have fa2 := frozen_got B7.out 2; have ca2 := cell_got B7.out 2
              have fa3 := frozen_got B7.out 3; have ca3 := cell_got B7.out 3
              have fa4 := frozen_got B7.out 4; have ca4 := cell_got B7.out 4
              have fa5 := frozen_got B7.out 5; have ca5 := cell_got B7.out 5
              go_wp2
              simp only [nrm]
              clear la fa0 ca0 fa1 ca1 fa2 ca2 fa3 ca3 fa4 ca4 fa5 ca5
              refine wabs (G := wpAnyC _ _ _ _ _ _ _ _ _) (fun w' => w'.heap[w3.heap.size + 1]? = some (.cells #[.int .i64 eb.k, .int .i64 eb.n, .int .i64 eb.p, .int .i64 eb.m, .int .i64 eb.c, .int .i64 eb.v] 37 (0, 0)) ∧ Only [w3.heap.size + 1] w7 w') ⟨store6 _ _ _ _ _ _ B7.out, only6 _ _ _ _ _ _ _ _⟩ ?_
              rintro w8 ⟨hB8, ho8⟩
              have hA8 := ho8.got A7.out (by simp)
              have o38 := o37.out.trans ho8 (by simp)
              refine wpAnyC_done (by kernel_rfl) (.inr (onlyC o38)) ⟨(w3.heap.size, w3.heap.size + 1), rfl, hA8, hB8, o38⟩
            · refine wpOp_one rfl ?_
              go_wp2
              simp only [nrm]
              refine allocd_abs (G := wpAnyC _ _ _ _ _ _ _ _ _) ?_
              intro w5 hn5 ho5 hs5
              refine wpAnyC_next [10] (by kernel_rfl) (by simp) (.inr (onlyC ho5)) ?_
              simp only [List.mem_cons, List.not_mem_nil, or_false, forall_eq]
              refine wpOp_one rfl ?_
              go_wp2
              simp only [nrm]
              refine alloc_abs (G := wpAnyC _ _ _ _ _ _ _ _ _) ?_
              intro w6 hn6 ho6 hs6
              have hm5 := ho6.got hn5 (by simp)
              have o36 := Lib.hid (ho5.nil_trans ho6)
              rw [hs5] at hn6
              have M5 := Lib.hid hm5; have M6 := Lib.hid hn6
              have hs5' := Lib.hid hs5; have hs6' := Lib.hid hs6
              clear hn5 hn6 hm5 hs5 hs6 ho5 ho6
              refine wpAnyC_next [12] (by kernel_rfl) (by simp) (.inr (onlyC o36.out)) ?_
              simp only [List.mem_cons, List.not_mem_nil, or_false, forall_eq]
              refine wpOp_one rfl ?_
              have la := got_lt M6.out
              have fa0 := frozen_got M6.out 0; have ca0 := cell_got M6.out 0
              have fa1 := frozen_got M6.out 1; have ca1 := cell_got M6.out 1
              have fa2 := frozen_got M6.out 2; have ca2 := cell_got M6.out 2
              have fa3 := frozen_got M6.out 3; have ca3 := cell_got M6.out 3
              have fa4 := frozen_got M6.out 4; have ca4 := cell_got M6.out 4
              have fa5 := frozen_got M6.out 5; have ca5 := cell_got M6.out 5
              go_wp2
              simp only [nrm]
              clear la fa0 ca0 fa1 ca1 fa2 ca2 fa3 ca3 fa4 ca4 fa5 ca5
              refine wabs (G := wpAnyC _ _ _ _ _ _ _ _ _) (fun w' => w'.heap[w3.heap.size + 1]? = some (.cells #[.int .i64 ea.k, .int .i64 ea.n, .int .i64 ea.p, .int .i64 ea.m, .int .i64 ea.c, .int .i64 ea.v] 37 (0, 0)) ∧ Only [w3.heap.size + 1] w6 w') ⟨store6 _ _ _ _ _ _ M6.out, only6 _ _ _ _ _ _ _ _⟩ ?_
              rintro w7 ⟨hA7, ho7⟩
              have A7 := Lib.hid hA7; have B7 := Lib.hid (ho7.got M5.out (by simp)); have o37 := Lib.hid (o36.out.trans ho7 (by simp))
              clear hA7 ho7 M6 M5 o36
              refine wpAnyC_next [13] (by kernel_rfl) (by simp) (.inr (onlyC o37.out)) ?_
              simp only [List.mem_cons, List.not_mem_nil, or_false, forall_eq]
              refine wpOp_one rfl ?_
              have la := got_lt B7.out
              have fa0 := frozen_got B7.out 0; have ca0 := cell_got B7.out 0
              have fa1 := frozen_got B7.out 1; have ca1 := cell_got B7.out 1
              have fa2 := frozen_got B7.out 2; have ca2 := cell_got B7.out 2
              have fa3 := frozen_got B7.out 3; have ca3 := cell_got B7.out 3
              have fa4 := frozen_got B7.out 4; have ca4 := cell_got B7.out 4
              have fa5 := frozen_got B7.out 5; have ca5 := cell_got B7.out 5
              go_wp2
              simp only [nrm]
              clear la fa0 ca0 fa1 ca1 fa2 ca2 fa3 ca3 fa4 ca4 fa5 ca5
              refine wabs (G := wpAnyC _ _ _ _ _ _ _ _ _) (fun w' => w'.heap[w3.heap.size]? = some (.cells #[.int .i64 eb.k, .int .i64 eb.n, .int .i64 eb.p, .int .i64 eb.m, .int .i64 eb.c, .int .i64 eb.v] 37 (0, 0)) ∧ Only [w3.heap.size] w7 w') ⟨store6 _ _ _ _ _ _ B7.out, only6 _ _ _ _ _ _ _ _⟩ ?_
              rintro w8 ⟨hB8, ho8⟩
              have hA8 := ho8.got A7.out (by simp)
              have o38 := o37.out.trans ho8 (by simp)
              refine wpAnyC_done (by kernel_rfl) (.inr (onlyC o38)) ⟨(w3.heap.size + 1, w3.heap.size), rfl, hA8, hB8, o38⟩
        · obtain rfl : k = pl.length := by omega
          have hr := RR.out
          rw [List.take_of_length_le (Nat.le_refl _)] at hr
          have RU := Lib.hid hr
          clear hr RR hlt
          obtain ⟨wo, hwo⟩ : ∃ wo : World, wo = wr := ⟨_, rfl⟩
          subst hwo
          go_wp2
          go_loopw [123] (fun v wr => LonR w1 l.length pl v wr) (fun v _ => l.length - (intOf v).toNat)
          case atStart => exact ⟨0, Nat.zero_le _, rfl, RU.out, OO.out⟩
          case round =>
            obtain ⟨i, hi, rfl, hrow, ho⟩ := hrel
            have RR := Lib.hid hrow; have O3 := Lib.hid ho
            clear hrow ho
            by_cases hlt : i < l.length
            · have OA := Lib.hid (O1.out.nil_trans O3.out)
              obtain ⟨lb, loff, hlp, hlb, hca⟩ := HV.out.cell i l[i] (List.getElem?_eq_getElem hlt)
              subst hlp
              have hlw : lb < wr.heap.size := Nat.lt_of_lt_of_le hlb OA.out.size
              have hli : l[i]? = some l[i] := List.getElem?_eq_getElem hlt
              generalize l[i] = eb at hca hli
              have HLI := Lib.hid hli
              have b0 : wr.cell? ⟨lb, loff + i * 6, none⟩ = some (.int .i64 eb.k) := by rw [OA.out.cell hlb (by simp)]; exact hca 0 _ rfl
              have b1 : wr.cell? ⟨lb, loff + i * 6 + 1, none⟩ = some (.int .i64 eb.n) := by rw [OA.out.cell hlb (by simp)]; exact hca 1 _ rfl
              have b2 : wr.cell? ⟨lb, loff + i * 6 + 2, none⟩ = some (.int .i64 eb.p) := by rw [OA.out.cell hlb (by simp)]; exact hca 2 _ rfl
              have b3 : wr.cell? ⟨lb, loff + i * 6 + 3, none⟩ = some (.int .i64 eb.m) := by rw [OA.out.cell hlb (by simp)]; exact hca 3 _ rfl
              have b4 : wr.cell? ⟨lb, loff + i * 6 + 4, none⟩ = some (.int .i64 eb.c) := by rw [OA.out.cell hlb (by simp)]; exact hca 4 _ rfl
              have b5 : wr.cell? ⟨lb, loff + i * 6 + 5, none⟩ = some (.int .i64 eb.v) := by rw [OA.out.cell hlb (by simp)]; exact hca 5 _ rfl
              clear hca hli
              have huc : ∃ ub, (usedL l.length pl)[i]? = some ub := ⟨_, usedL_get pl hlt⟩
              obtain ⟨ub, hub⟩ := huc
              have HUB := Lib.hid hub
              clear hub
              go_upto_region 20 with (fail)
              refine alloc_abs (G := fun w0 => Code.wp _ _ _ _ w0) ?_
              intro w3 hb3 ho3 hs3
              have B3 := Lib.hid hb3; have O4 := Lib.hid (O3.out.nil_trans ho3); have R3 := Lib.hid (RR.out.kept ho3 (by simp)); have OA3 := Lib.hid (OA.out.nil_trans ho3)
              clear hb3 ho3 hs3 O3 RR b0 b1 b2 b3 b4 b5 OA hlw
              have p0 := cell_got B3.out 0; have p1 := cell_got B3.out 1; have p2 := cell_got B3.out 2; have p3 := cell_got B3.out 3
              have lp := got_lt B3.out
              have u0 : w3.cell? ⟨w1.heap.size, i, none⟩ = some (.bool ub) := by
                have := R3.out.cell (i := i) (j := 0) boC_len HUB.out (by decide)
                simpa [boC] using this
              have lu := R3.out.lt
              by_cases hk2 : eb.k = 2
              · have e1 : (eb.k != 2) = false := by simp [hk2]
                have e2 : (eb.k == 2) = true := by simp [hk2]
                cases ub
                · have HF := Lib.hid (lone_facts HLI.out hk2 (by rw [← HPL.out]; exact HUB.out))
                  clear hk2
                  go_wp2
                  go_loopw [139] (fun v wr => InnR w3 l.length v wr) (fun v _ => l.length - (intOf v).toNat)
                  case atStart => exact ⟨0, Nat.zero_le _, rfl, Only.refl _ _⟩
                  case round =>
                    obtain ⟨j, hj, rfl, ho⟩ := hrel
                    have O5 := Lib.hid ho
                    clear ho p0 p1 p2 p3 u0
                    have p0 := cell_kept (cell_got B3.out 0) O5.out; have p1 := cell_kept (cell_got B3.out 1) O5.out; have p2 := cell_kept (cell_got B3.out 2) O5.out; have p3 := cell_kept (cell_got B3.out 3) O5.out
                    have lp5 := Nat.lt_of_lt_of_le lp O5.out.size
                    by_cases hltj : j < l.length
                    · have OB := Lib.hid (OA3.out.nil_trans O5.out)
                      obtain ⟨lb', loff', hlp', hlb', hcb⟩ := HV.out.cell j l[j] (List.getElem?_eq_getElem hltj)
                      cases hlp'
                      have hlw : lb < wr.heap.size := Nat.lt_of_lt_of_le hlb' OB.out.size
                      have hno := HF.out j l[j] (List.getElem?_eq_getElem hltj)
                      generalize l[j] = ea at hcb hno
                      have a0 : wr.cell? ⟨lb, loff + j * 6, none⟩ = some (.int .i64 ea.k) := by rw [OB.out.cell hlb' (by simp)]; exact hcb 0 _ rfl
                      have a1 : wr.cell? ⟨lb, loff + j * 6 + 1, none⟩ = some (.int .i64 ea.n) := by rw [OB.out.cell hlb' (by simp)]; exact hcb 1 _ rfl
                      have a2 : wr.cell? ⟨lb, loff + j * 6 + 2, none⟩ = some (.int .i64 ea.p) := by rw [OB.out.cell hlb' (by simp)]; exact hcb 2 _ rfl
                      have a3 : wr.cell? ⟨lb, loff + j * 6 + 3, none⟩ = some (.int .i64 ea.m) := by rw [OB.out.cell hlb' (by simp)]; exact hcb 3 _ rfl
                      have a4 : wr.cell? ⟨lb, loff + j * 6 + 4, none⟩ = some (.int .i64 ea.c) := by rw [OB.out.cell hlb' (by simp)]; exact hcb 4 _ rfl
                      have a5 : wr.cell? ⟨lb, loff + j * 6 + 5, none⟩ = some (.int .i64 ea.v) := by rw [OB.out.cell hlb' (by simp)]; exact hcb 5 _ rfl
                      clear hcb
                      have OX := Lib.hid (fun o => O5.out.alloc o)
                      by_cases q0 : ea.k = 1
                      · have e0 : (ea.k == 1) = true := by simp [q0]
                        by_cases q1 : ea.n = eb.p
                        · have e3 : (ea.n == eb.p) = true := by simp [q1]
                          by_cases q2 : ea.p = eb.n
                          · have e4 : (ea.p == eb.n) = true := by simp [q2]
                            have e5 : (ea.m == eb.m) = false := beq_eq_false_iff_ne.2 fun h => hno ⟨q0, q1, q2, h⟩
                            clear q0 q1 q2 hno
                            go_wp2
                            go_roundw
                            case rel => exact ⟨j + 1, by omega, by go_num, OX.out _⟩
                            case measure => simp [intOf]; omega
                          · have e4 : (ea.p == eb.n) = false := by simp [q2]
                            clear q0 q1 q2 hno
                            go_wp2
                            go_roundw
                            case rel => exact ⟨j + 1, by omega, by go_num, OX.out _⟩
                            case measure => simp [intOf]; omega
                        · have e3 : (ea.n == eb.p) = false := by simp [q1]
                          clear q0 q1 hno
                          go_wp2
                          go_roundw
                          case rel => exact ⟨j + 1, by omega, by go_num, OX.out _⟩
                          case measure => simp [intOf]; omega
                      · have e0 : (ea.k == 1) = false := by simp [q0]
                        clear q0 hno
                        go_wp2
                        go_roundw
                        case rel => exact ⟨j + 1, by omega, by go_num, OX.out _⟩
                        case measure => simp [intOf]; omega
                    · obtain rfl : j = l.length := by omega
                      have R5 := Lib.hid (R3.out.kept O5.out (by simp)); have O6 := Lib.hid (O4.out.nil_trans O5.out)
                      go_wp2
                      go_roundw
                      case rel => exact ⟨i + 1, by omega, by go_num, R5.out, O6.out⟩
                      case measure => simp [intOf]; omega
                · clear hk2
                  go_wp2
                  go_roundw
                  case rel => exact ⟨i + 1, by omega, by go_num, R3.out, O4.out⟩
                  case measure => simp [intOf]; omega
              · have e1 : (eb.k != 2) = true := by simp [hk2]
                have e2 : (eb.k == 2) = false := by simp [hk2]
                clear hk2
                go_wp2
                go_roundw
                case rel => exact ⟨i + 1, by omega, by go_num, R3.out, O4.out⟩
                case measure => simp [intOf]; omega
            · obtain rfl : i = l.length := by omega
              have OA := Lib.hid (O1.out.nil_trans O3.out)
              go_wp2_with fail
              refine (awake_any wr (HE.out.kept OA.out)).mono ?_
              rintro e w4 ⟨rfl, ho4⟩
              go_wp2
              go_ret
              exact ⟨rfl, OA.out.nil_trans ho4⟩
    · have b1 : (logE l == 0) = false := by simp [h0]
      have b2 : (logE l != 0) = true := by simp [h0]
      clear h0
      go_wp2_with fail
      refine (awake_any w0 (HE.out.kept O0.out)).mono ?_
      rintro e w4 ⟨rfl, ho4⟩
      go_wp2
      go_ret
      exact ⟨rfl, O0.out.nil_trans ho4⟩

set_option maxRecDepth 100000 in
theorem logbookMatches_lifted (os : Os) (started : os.Started) (H : Type) (enc : TypeId × Value → H) :
    ReturnsInHanded {} Tryd.checked os 6 .any (fun w args => (Rows.logbookMatchesSpec.pre enc Tryd.prog Tryd.f6 Rows.logbookMatchesRow.domain false w args ∧ laidMetH Tryd.prog Rows.logbookMatchesRow.laid w) ∧ sizedMet enc Tryd.prog Tryd.f6 (OpenSpec.ofChange Rows.logbookMatchesSpec) false w args)
      (Rows.logbookMatchesSpec.post enc Tryd.prog Tryd.f6 false true false false) := by
  refine returnsInHanded_of_change_and_shaped (C := Tryd.checked) (X := fun w _ => laidMetH Tryd.prog Rows.logbookMatchesRow.laid w) (fun _ _ _ hh h => h.of_heap hh) law_own started (by kernel_rfl) Tryd.func6
    (ChangeSpec.witness_shaped (enc := enc) (C := Tryd.checked) (os := os) (X := fun w _ => laidMetH Tryd.prog Rows.logbookMatchesRow.laid w) false (World.laidAll Tryd.prog os Rows.logbookMatchesRow.laid) #[.slice none 0 0] 8 (World.laidAll_os _ _ _)
      (World.shaped_of_ZipB (by kernel_rfl) (by kernel_rfl)) (by kernel_rfl) (by kernel_rfl) (by kernel_rfl)
      (by rw [MakeChecks.laidMetH_plain _ _ _ (by kernel_rfl)]; exact laidMet_laidAll _ (by kernel_rfl) (by kernel_rfl))) ?_
  intro W base args ds gs before hval0 hW hcnd _ hL hsh _
  have hval : ∀ (j : Nat) t v, Tryd.f6.params[j]? = some t → args[j]? = some v → Value.okWide Tryd.prog W .any base t v := hval0
  have hW' := hW
  obtain ⟨p, q, hA0, hV, rfl, hfz, hnd⟩ := hW
  have hA : DataW.TrodAll enc Tryd.prog W 0 (fun _ => true) true Tryd.f6.params.toList args.toList ds p := hA0
  rw [Tryd.params6] at hA hval
  obtain ⟨v0, vs0, d0, ds0, p0, q0, hargs, rfl, rfl, h0, r0⟩ := trodAll_cons hA
  obtain ⟨rfl, rfl, rfl⟩ := trodAll_nil r0
  obtain rfl : args = #[v0] := by cases args; simp_all
  obtain ⟨rfl, rfl⟩ := trodVars_none hV
  have k0 := h0
  have lt0 : ∀ x ∈ p0, x.block < W.heap.size := by obtain ⟨m, hm⟩ := k0; exact DataW.trod_lt m _ _ _ hm
  obtain ⟨a0, len0, cap0, rfl⟩ := okWide_slice Tryd.underlying22 (hval 0 22 v0 rfl rfl)
  obtain ⟨z0, w0⟩ := vrow_entries h0
  clear hA0 hval0
  refine (matches_walk w0 (env_of_laid (by kernel_rfl) (by simp [Rows.logbookMatchesRow]) (by simp [Rows.logbookMatchesRow]) (by simp [Rows.logbookMatchesRow]) hL hsh)).mono fun e W' ⟨he, ho⟩ => ?_
  subst he
  have bel : Below W.heap.size W W' := ho.nil_below
  exact ⟨_, rfl, _, _, _, [], _, [], hW', trodAll_mk1 (shut_bool Tryd.underlying4 _), (trodAll_cons_mk (Below.trod law_laidOut (by kernel_rfl) (of_decide_eq_true (by kernel_rfl)) k0 bel lt0) trodAll_mk0), rfl, bel.frame _, fun h => by cases h⟩

theorem logbookMatches_over : Rows.logbookMatchesRow.holds Tryd.pinned (OpenSpec.ofChange Rows.logbookMatchesSpec) :=
  OpenClaim.holds_of_wide 6 Tryd.f6 rfl rfl rfl rfl rfl rfl rfl ⟨rfl, rfl, rfl, rfl, rfl⟩ rfl rfl rfl rfl rfl (by kernel_rfl) Tryd.func6 (by kernel_rfl)
    (of_decide_eq_true (by kernel_rfl)) (by unfold Func.isWrapper; first | (rw [if_pos (by decide +kernel)]; kernel_rfl) | (rw [if_neg (by decide +kernel)]; exact ⟨rfl, rfl⟩))
    (fun os started H enc _ => logbookMatches_lifted os started H enc)

theorem logbookMatches_holds : Rows.LogbookMatchesCardSaid :=
  Claim7.holds_tied_plain_at .later [] [.data, .data, .data, .data, .sentinel, .sentinel, .pinned] true (true, "564874f31a2064b56c5f0939af7266e812ae2367ef2df6b2e37e04df0403260a") true logbookMatches_over (fun _ h => by cases h) (by kernel_rfl) (fun _ h => by cases h) logbookMatches_row_tie rfl ⟨rfl, rfl⟩ (by kernel_rfl) rfl
    (fun f fn hf hfn => by
      obtain rfl : f = 6 := Option.some.inj ((show Tryd.prog.funcNamed "timesync/timesynclaw50.LogbookMatches" = some 6 by kernel_rfl).symm.trans hf) |>.symm
      obtain rfl : fn = Tryd.f6 := (Option.some.inj (Tryd.func6.symm.trans hfn)).symm
      exact ⟨by kernel_rfl, fun j t ht => by
        rw [Tryd.params6] at ht
        have hm : t ∈ [22] := by simpa using Array.mem_of_getElem? ht
        have hall : ([22].all fun u => !Tryd.prog.wantsStandIn u) = true := by kernel_rfl
        exact (show Tryd.prog.wantsStandIn t = false by simpa using List.all_eq_true.1 hall t hm)⟩)
    (by kernel_rfl)
end Go.Proofs.YtdpfbedcejahjaaDoor
