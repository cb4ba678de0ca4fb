/- ClientOnce: the plain part and the walk. Conditions: those named in each theorem. -/
import Derived.Test.YtikjdmbfjkbndaaGreatH6
namespace Go.Proofs.YtikjdmbfjkbndaaGreat
open Go.RowKit

/-- two servers, what their associations are, and the clock as it was made -/
def St2 (c : Cl) (r : Int) (a0 a1 : As) : Prop := c.ck = ⟨0, 0, 0, 0⟩ ∧ c.last = r ∧ ∃ s0 s1, c.srcs = [s0, s1] ∧ s0.sa = a0 ∧ s1.sa = a1
theorem St2.enter {c : Cl} {r raw : Int} {a0 a1 : As} (h : St2 c r a0 a1) (h0 : r ≤ raw) (h1 : 0 ≤ raw) (h2 : raw ≤ 4398046511104) : clEnter c raw = (raw, 0, { c with last := raw }) := by
  obtain ⟨h3, h4, -⟩ := h
  have hn : cNow c.ck raw = (raw, 0) := by
    rw [h3]
    unfold cNow cShow
    simp only [Int.sub_zero, Int.mul_zero, Int.zero_ediv, Int.zero_add, Int.add_zero]
    rw [if_neg (by omega), if_neg (by omega), if_pos (by unfold isT; rw [wth_iff]; omega)]
  have hw : clNow c raw = (raw, 0) := by
    unfold clNow
    rw [hn]
    simp only [if_true]
    rw [if_neg (by omega)]
  unfold clEnter
  rw [hw]
  simp
theorem St2.recv0 {c : Cl} {r raw : Int} {a0 a1 : As} (h : St2 c r a0 a1) (h0 : r ≤ raw) (h1 : 0 ≤ raw) (h2 : raw ≤ 4398046511104) (p : Np) (iv : Iv) (has : Bool) :
    (clRecv c 0 p iv has raw).1 = ((aRecv a0 p raw).1, 0) ∧ St2 (clRecv c 0 p iv has raw).2 raw (aRecv a0 p raw).2 a1 := by
  have he := h.enter h0 h1 h2
  obtain ⟨h3, h4, s0, s1, h5, rfl, rfl⟩ := h
  unfold clRecv
  rw [he, h5]
  simp only [List.length_cons, List.length_nil]
  rw [if_pos (by decide), if_pos trivial]
  refine ⟨?_, h3, rfl, _, s1, rfl, ?_, rfl⟩
  · rw [sRecv_out]; rfl
  · exact sRecv_as _ _ _ _ _ _ _ _ _
theorem St2.recv1 {c : Cl} {r raw : Int} {a0 a1 : As} (h : St2 c r a0 a1) (h0 : r ≤ raw) (h1 : 0 ≤ raw) (h2 : raw ≤ 4398046511104) (p : Np) (iv : Iv) (has : Bool) :
    (clRecv c 1 p iv has raw).1 = ((aRecv a1 p raw).1, 0) ∧ St2 (clRecv c 1 p iv has raw).2 raw a0 (aRecv a1 p raw).2 := by
  have he := h.enter h0 h1 h2
  obtain ⟨h3, h4, s0, s1, h5, rfl, rfl⟩ := h
  unfold clRecv
  rw [he, h5]
  simp only [List.length_cons, List.length_nil]
  rw [if_pos (by decide), if_pos trivial]
  refine ⟨?_, h3, rfl, s0, _, rfl, rfl, ?_⟩
  · rw [sRecv_out]; rfl
  · exact sRecv_as _ _ _ _ _ _ _ _ _
theorem aRecv_no {a : As} {p : Np} {now : Int} (h : a.pend = false) : (aRecv a p now).1.kind ≠ 7 := by
  unfold aRecv aRef
  rw [h]
  split
  · rename_i k hk
    split at hk
    · obtain rfl : k = 1 := by simpa using hk.symm
      show (1 : Int) ≠ 7
      decide
    · obtain rfl : k = 0 := by simpa using hk.symm
      show (0 : Int) ≠ 7
      decide
  · rename_i hk
    split at hk <;> simp at hk
theorem inst_near {n now : Int} (h0 : 0 ≤ n) (h1 : n < 1000000000) (h2 : 0 ≤ now) (h3 : now ≤ 4398046511104) : (instS (16750372454400000000 + n * 4) now).2 = true := by
  have hp : ∃ q f g : Int, (3900000000000000000 + now) / 1000000000 = 3900000000 + q ∧ 0 ≤ q ∧ q ≤ 4399 ∧ fS (3900000000000000000 + now) = f ∧ 0 ≤ f ∧ f ≤ 4294967295 := by
    refine ⟨now / 1000000000, fS (3900000000000000000 + now), 0, by omega, by omega, by omega, rfl, (fS_bd _).1, (fS_bd _).2⟩
  obtain ⟨q, f, -, hq, q0, q1, hf, f0, f1⟩ := hp
  have ho : ofS (3900000000000000000 + now) = (3900000000 + q) * 4294967296 + f := by
    unfold ofS
    rw [hq, hf]
    omega
  have hd : dfS (16750372454400000000 + n * 4) (ofS (3900000000000000000 + now)) = n * 4 - q * 4294967296 - f := by
    unfold dfS
    rw [ho]
    omega
  have hr : tmR (16750372454400000000 + n * 4) (3900000000000000000 + now) = 3900000000 * 1000000000 + nnS (n * 4) := by
    unfold tmR
    rw [hd, hq, hf]
    obtain ⟨e, he⟩ : ∃ e, (n * 4 - q * 4294967296 - f) % 4294967296 = e := ⟨_, rfl⟩
    obtain ⟨k, hk⟩ : ∃ k, (n * 4 - q * 4294967296 - f) / 4294967296 = k := ⟨_, rfl⟩
    rw [he, hk]
    obtain ⟨m, hm⟩ : ∃ m, (f + e) / 4294967296 = m := ⟨_, rfl⟩
    have e1 : (f + e) % 4294967296 = n * 4 := by omega
    have e2 : 3900000000 + q + (k + m) = 3900000000 := by omega
    rw [e1, hm, e2]
  have hb := nnS_bd (f := n * 4) (by omega) (by omega)
  have ht : tmS (16750372454400000000 + n * 4) (3900000000000000000 + now) = (3900000000 * 1000000000 + nnS (n * 4), 0) := by
    unfold tmS
    rw [if_neg (by omega), hr, if_neg (by omega)]
  unfold instS
  rw [ht]
  rw [if_pos ⟨rfl, by unfold isT; rw [wth_iff]; dsimp only; omega⟩]
theorem aRecv_yes {nonce n now : Int} (h0 : 0 ≤ n) (h1 : n < 1000000000) (h2 : 0 ≤ now) (h3 : now ≤ 4398046511104) :
    (aRecv ⟨4, 0, nonce, true, 0⟩ (hdrN nonce (16750372454400000000 + n * 4)) now).1.kind = 7 ∧ (aRecv ⟨4, 0, nonce, true, 0⟩ (hdrN nonce (16750372454400000000 + n * 4)) now).2.pend = false := by
  have hc : nchk (hdrN nonce (16750372454400000000 + n * 4)) = 0 := rfl
  have hy : nsync (hdrN nonce (16750372454400000000 + n * 4)) = true := rfl
  have hk : kissP (hdrN nonce (16750372454400000000 + n * 4)) = (⟨#[]⟩, false) := rfl
  have hi := inst_near h0 h1 h2 h3
  have hr : aRef ⟨4, 0, nonce, true, 0⟩ (hdrN nonce (16750372454400000000 + n * 4)) now = none := by
    unfold aRef
    rw [if_pos ⟨hc, rfl, by unfold isT; rw [wth_iff]; omega, by dsimp only; omega⟩, if_pos (by rfl), if_pos (show (hdrN nonce (16750372454400000000 + n * 4)).org = nonce from rfl), if_neg (by simp only [hdrN]; omega)]
  unfold aRecv
  rw [hr]
  refine ⟨?_, rfl⟩
  unfold aAcc
  rw [hk, hy]
  simp only [Bool.false_eq_true, if_false, if_true]
  rw [if_pos ⟨hi, hi, Int.lt_irrefl _⟩]
theorem once_send {nonce : Int} (hn0 : nonce ≠ 0) : (clSend (cl0 (confC 2) 0 0) 0 0 nonce).1.2 = 0 ∧ St2 (clSend (cl0 (confC 2) 0 0) 0 0 nonce).2 0 ⟨4, 0, nonce, true, 0⟩ as4 := by
  have h0 : St2 (cl0 (confC 2) 0 0) 0 as4 as4 := ⟨rfl, rfl, sr0 (confC 2), sr0 (confC 2), rfl, rfl, rfl⟩
  have he := h0.enter (Int.le_refl 0) (Int.le_refl 0) (by decide)
  have ha : aSend as4 0 nonce = ({ np0 with ver := 4, mode := 3, xmt := nonce }, 0, ⟨4, 0, nonce, true, 0⟩) := by
    unfold aSend
    rw [if_pos (by decide), if_neg hn0, if_neg (by simpa [as4] using hn0)]
    rfl
  have hs : sSend (sr0 (confC 2)) 0 0 nonce = ({ (aSend as4 0 nonce).1 with poll := (rshift (sr0 (confC 2)).rc).poll }, 0, { sr0 (confC 2) with sa := (aSend as4 0 nonce).2.2, sent := 0, rc := rshift (sr0 (confC 2)).rc }) := by
    unfold sSend
    rw [show (sr0 (confC 2)).sa = as4 from rfl, if_pos (by rw [ha])]
  unfold clSend
  rw [he]
  rw [show (cl0 (confC 2) 0 0).srcs = [sr0 (confC 2), sr0 (confC 2)] from rfl]
  simp only [List.length_cons, List.length_nil]
  rw [if_pos (by decide), if_pos trivial]
  rw [show [sr0 (confC 2), sr0 (confC 2)].getD (Int.toNat 0) (sr0 (cl0 (confC 2) 0 0).cf) = sr0 (confC 2) from rfl, hs]
  refine ⟨rfl, rfl, rfl, _, _, rfl, ?_, rfl⟩
  rw [ha]
/-- the plain law -/
theorem once_plain {nonce back more : Int} (hn0 : nonce ≠ 0) (b0 : 0 ≤ back) (b1 : back ≤ 1099511627776) (m0 : 0 ≤ more) (m1 : more ≤ 1099511627776) (n : Int) (hn : 0 ≤ n) (hn1 : n < 1000000000) :
    (clRecv (clSend (cl0 (confC 2) 0 0) 0 0 nonce).2 1 (hdrN nonce (16750372454400000000 + n * 4)) ⟨0, 0⟩ false back).1.1.kind ≠ 7 ∧
    ∃ c2, (clRecv (clSend (cl0 (confC 2) 0 0) 0 0 nonce).2 1 (hdrN nonce (16750372454400000000 + n * 4)) ⟨0, 0⟩ false back).2 = c2 ∧
    ((clRecv c2 0 (hdrN nonce (16750372454400000000 + n * 4)) ⟨0, back⟩ true back).1.1.kind = 7 ∧ (clRecv c2 0 (hdrN nonce (16750372454400000000 + n * 4)) ⟨0, back⟩ true back).1.2 = 0) ∧
    ∃ c3, (clRecv c2 0 (hdrN nonce (16750372454400000000 + n * 4)) ⟨0, back⟩ true back).2 = c3 ∧
    (clRecv c3 0 (hdrN nonce (16750372454400000000 + n * 4)) ⟨0, back⟩ true (back + more)).1.1.kind ≠ 7 ∧ (clRecv c3 0 (hdrN nonce (16750372454400000000 + n * 4)) ⟨0, back⟩ true (back + more)).1.2 = 0 := by
  have h1 := (once_send hn0).2
  have h2 := h1.recv1 b0 b0 (by omega) (hdrN nonce (16750372454400000000 + n * 4)) ⟨0, 0⟩ false
  have h3 := h2.2.recv0 (Int.le_refl back) b0 (by omega) (hdrN nonce (16750372454400000000 + n * 4)) ⟨0, back⟩ true
  have h4 := h3.2.recv0 (raw := back + more) (by omega) (by omega) (by omega) (hdrN nonce (16750372454400000000 + n * 4)) ⟨0, back⟩ true
  have hy := aRecv_yes (nonce := nonce) hn hn1 b0 (show back ≤ 4398046511104 by omega)
  refine ⟨by rw [h2.1]; exact aRecv_no rfl, _, rfl, ⟨by rw [h3.1]; exact hy.1, by rw [h3.1]⟩, _, rfl, ?_, by rw [h4.1]⟩
  rw [h4.1]
  exact aRecv_no hy.2
set_option maxRecDepth 100000 in
set_option maxHeartbeats 8000000 in
theorem once_walk (nonce back more : Int) (hu0 : 0 ≤ nonce) (hu1 : nonce ≤ 18446744073709551615) (w : World) :
    Calls Tryz.prog 3 #[.int .u64 nonce, .int .i64 back, .int .i64 more] w fun e w' => e = .returned (.bool true) ∧ Only [] w w' := by
  have HAW := Lib.hid (fun w' => pAwake w')
  by_cases c1 : nonce = 0
  · have dc1 : (nonce == 0) = true := by simpa using c1
    go_enter Tryz.func3, Tryz.ntmps3
    go_wp2_with fail
    refine (HAW.out _).mono ?_
    rintro e w1 ⟨rfl, ho⟩
    go_wp2
    go_ret
    exact ⟨rfl, ho⟩
  have dc1 : (nonce == 0) = false := by simpa using c1
  by_cases c2 : back < 0
  · have dc2 : decide (back < 0) = true := decide_eq_true c2
    go_enter Tryz.func3, Tryz.ntmps3
    go_wp2_with fail
    refine (HAW.out _).mono ?_
    rintro e w1 ⟨rfl, ho⟩
    go_wp2
    go_ret
    exact ⟨rfl, ho⟩
  have dc2 : decide (back < 0) = false := decide_eq_false c2
  by_cases c3 : 1099511627776 < back
  · have dc3 : decide (1099511627776 < back) = true := decide_eq_true c3
    go_enter Tryz.func3, Tryz.ntmps3
    go_wp2_with fail
    refine (HAW.out _).mono ?_
    rintro e w1 ⟨rfl, ho⟩
    go_wp2
    go_ret
    exact ⟨rfl, ho⟩
  have dc3 : decide (1099511627776 < back) = false := decide_eq_false c3
  by_cases c4 : more < 0
  · have dc4 : decide (more < 0) = true := decide_eq_true c4
    go_enter Tryz.func3, Tryz.ntmps3
    go_wp2_with fail
    refine (HAW.out _).mono ?_
    rintro e w1 ⟨rfl, ho⟩
    go_wp2
    go_ret
    exact ⟨rfl, ho⟩
  have dc4 : decide (more < 0) = false := decide_eq_false c4
  by_cases c5 : 1099511627776 < more
  · have dc5 : decide (1099511627776 < more) = true := decide_eq_true c5
    go_enter Tryz.func3, Tryz.ntmps3
    go_wp2_with fail
    refine (HAW.out _).mono ?_
    rintro e w1 ⟨rfl, ho⟩
    go_wp2
    go_ret
    exact ⟨rfl, ho⟩
  have dc5 : decide (1099511627776 < more) = false := decide_eq_false c5
  have hn0 : 0 ≤ back % 1000000000 := by omega
  have hn1 : back % 1000000000 < 1000000000 := by omega
  have r1 : back.tmod 1000000000 = back % 1000000000 := Int.tmod_eq_emod_of_nonneg (by omega)
  have r2' : IntKind.i64.wrap (back + more) = back + more := by rw [IntKind.wrap_i64]; omega
  have r3 : IntKind.i64.wrap (back % 1000000000) = back % 1000000000 := by rw [IntKind.wrap_i64]; omega
  have hb1 : -9223372036854775808 ≤ back := by omega
  have hb2 : back ≤ 9223372036854775807 := by omega
  have hb3 : -9223372036854775808 ≤ back + more := by omega
  have hb4 : back + more ≤ 9223372036854775807 := by omega
  have hpl := once_plain c1 (by omega : 0 ≤ back) (by omega) (by omega : 0 ≤ more) (by omega) (back % 1000000000) hn0 hn1
  have hpo : npOk (hdrN nonce (16750372454400000000 + back % 1000000000 * 4)) := by
    unfold npOk hdrN
    dsimp only
    omega
  have HH := Lib.hid (fun w' => pHeader nonce (back % 1000000000) hn0 (by omega) w')
  generalize back % 1000000000 = n at r1 r3 hn0 hn1 hpl hpo HH
  have eA := (once_send c1).1
  have ok0 : ClOk (cl0 (confC 2) 0 0) := ClOk.new (by decide) (by decide) ⟨by decide, by decide⟩
  have okA := ok0.send 0 0 nonce
  have HSN := Lib.hid (fun (w' : World) (P : Pl) (h : ClAt w' P (cl0 (confC 2) 0 0)) => cSend h ok0.ck 0 (by decide) (by decide) 0 nonce)
  generalize clSend (cl0 (confC 2) 0 0) 0 0 nonce = A at hpl eA okA HSN
  obtain ⟨k1, cX, hc2, ⟨k2, e2⟩, cY, hc3, k3, e3⟩ := hpl
  have HR1 := Lib.hid (fun (w' : World) (P : Pl) (h : ClAt w' P A.2) => dRecv h okA back hb1 hb2 1 (hdrN nonce (16750372454400000000 + n * 4)) ⟨0, 0⟩ false hpo)
  have ok2 := okA.recv 1 (hdrN nonce (16750372454400000000 + n * 4)) ⟨0, 0⟩ false back
  rw [hc2] at ok2 HR1
  have HR2 := Lib.hid (fun (w' : World) (P : Pl) (h : ClAt w' P cX) => dRecv h ok2 back hb1 hb2 0 (hdrN nonce (16750372454400000000 + n * 4)) ⟨0, back⟩ true hpo)
  have ok3 := ok2.recv 0 (hdrN nonce (16750372454400000000 + n * 4)) ⟨0, back⟩ true back
  rw [hc3] at ok3 HR2
  have HR3 := Lib.hid (fun (w' : World) (P : Pl) (h : ClAt w' P cY) => dRecv h ok3 (back + more) hb3 hb4 0 (hdrN nonce (16750372454400000000 + n * 4)) ⟨0, back⟩ true hpo)
  clear hc2 hc3
  generalize clRecv A.2 1 (hdrN nonce (16750372454400000000 + n * 4)) ⟨0, 0⟩ false back = R1 at k1 HR1
  generalize clRecv cX 0 (hdrN nonce (16750372454400000000 + n * 4)) ⟨0, back⟩ true back = R2 at k2 e2 HR2
  generalize clRecv cY 0 (hdrN nonce (16750372454400000000 + n * 4)) ⟨0, back⟩ true (back + more) = R3 at k3 e3 HR3
  obtain ⟨⟨⟨n0, n1, n2, n3, n4, n5, n6, n7, n8, n9, n10, n11, n12⟩, _⟩, cA⟩ := A
  obtain ⟨⟨⟨ka, cda, ⟨qa1, qa2, qa3, qa4⟩⟩, ea⟩, cR1⟩ := R1
  obtain ⟨⟨⟨_, cdb, ⟨qb1, qb2, qb3, qb4⟩⟩, _⟩, cR2⟩ := R2
  obtain ⟨⟨⟨kc, cdc, ⟨qc1, qc2, qc3, qc4⟩⟩, _⟩, cR3⟩ := R3
  dsimp only at eA k1 k2 e2 k3 e3 HSN HR1 HR2 HR3
  subst eA k2 e2 e3
  have g1 : (ka != 7) = true := by simpa using k1
  have g3 : (kc != 7) = true := by simpa using k3
  unfold npV hdrN hdV ivV at *
  dsimp only at HSN HR1 HR2 HR3 HH
  obtain ⟨s, hs⟩ : ∃ s, 16750372454400000000 + n * 4 = s := ⟨_, rfl⟩
  obtain ⟨bm, hbm⟩ : ∃ bm, back + more = bm := ⟨_, rfl⟩
  simp only [hs, hbm] at HR1 HR2 HR3 HH
  have r2 := r2'.trans hbm
  clear r2'
  clear okA ok2 ok3 ok0 hpo k1 k3 c1 c2 c3 c4 c5 hn0 hn1 hb1 hb2 hb3 hb4 hs hbm
  go_enter Tryz.func3, Tryz.ntmps3
  go_wp2_with fail
  refine (pConf 2 w).mono ?_
  rintro e w1 ⟨rfl, ho⟩
  have OO := Lib.hid ho
  clear ho
  go_wp2_with fail
  refine (pClNew (confC 2) 0 0 (by decide) (by decide) ⟨by decide, by decide⟩ ⟨by decide, by decide⟩ w1).mono ?_
  rintro e w2 ⟨hn, ho⟩
  rcases hn with ⟨hz, -⟩ | ⟨-, P, rfl, hc, hp⟩
  · exact absurd hz (by decide)
  have HCL := Lib.hid hc; have HP : Hid (∀ b ∈ P.all, w.heap.size ≤ b) := Lib.hid (fun b hb => Nat.le_trans OO.out.size (hp b hb))
  replace OO := Lib.hid (OO.out.nil_trans ho)
  clear hc hp ho
  go_wp2_with fail
  refine (HSN.out _ _ HCL.out).mono ?_
  rintro e w3 ⟨rfl, hc, ho⟩
  replace OO := Lib.hid (OO.out.trans ho (fun x hx => .inr (HP.out x hx))); replace HCL := Lib.hid hc
  clear hc ho HSN
  go_upto_region 7 with (fail)
  refine alloc_abs (G := fun w0 => Code.wp _ _ _ _ w0) ?_
  intro w4 hb ho hs
  generalize hbe : w3.heap.size = b8 at hb ⊢
  replace OO := Lib.hid (OO.out.nil_trans ho); replace HCL := Lib.hid (HCL.out.kept ho)
  clear hb ho hs hbe
  go_wp2_with fail
  refine (HH.out _).mono ?_
  rintro e w5 ⟨rfl, ho⟩
  replace OO := Lib.hid (OO.out.nil_trans ho); replace HCL := Lib.hid (HCL.out.kept ho)
  clear ho HH
  go_upto_region 8 with (fail)
  refine alloc_abs (G := fun w0 => Code.wp _ _ _ _ w0) ?_
  intro w6 hb ho hs
  generalize hbe : w5.heap.size = b10 at hb ⊢
  have HAb10 : Hid (b10 ∉ P.all) := Lib.hid (fun hm => by have := HCL.out.lt _ hm; omega)
  have Bb10 := Lib.hid hb
  replace OO := Lib.hid (OO.out.nil_trans ho); replace HCL := Lib.hid (HCL.out.kept ho)
  clear hb ho hs hbe
  have k10 := c_13 Bb10.out
  go_wp2_with fail
  refine (HR1.out _ _ HCL.out).mono ?_
  rintro e w7 ⟨rfl, hc, ho⟩
  replace OO := Lib.hid (OO.out.trans ho (fun x hx => .inr (HP.out x hx))); replace HCL := Lib.hid hc
  replace Bb10 := Lib.hid (ho.got Bb10.out HAb10.out)
  clear hc ho HR1 k10
  go_upto_region 9 with (fail)
  refine alloc_abs (G := fun w0 => Code.wp _ _ _ _ w0) ?_
  intro w8 hb ho hs
  generalize hbe : w7.heap.size = b11 at hb ⊢
  have HAb11 : Hid (b11 ∉ P.all) := Lib.hid (fun hm => by have := HCL.out.lt _ hm; omega)
  have Bb11 := Lib.hid hb
  replace OO := Lib.hid (OO.out.nil_trans ho); replace HCL := Lib.hid (HCL.out.kept ho)
  replace Bb10 := Lib.hid (ho.got Bb10.out (by simp))
  clear hb ho hs hbe
  have k10 := c_13 Bb10.out
  go_wp2_with fail
  refine (HR2.out _ _ HCL.out).mono ?_
  rintro e w9 ⟨rfl, hc, ho⟩
  replace OO := Lib.hid (OO.out.trans ho (fun x hx => .inr (HP.out x hx))); replace HCL := Lib.hid hc
  replace Bb10 := Lib.hid (ho.got Bb10.out HAb10.out)
  replace Bb11 := Lib.hid (ho.got Bb11.out HAb11.out)
  clear hc ho HR2 k10
  go_upto_region 10 with (fail)
  refine alloc_abs (G := fun w0 => Code.wp _ _ _ _ w0) ?_
  intro w10 hb ho hs
  generalize hbe : w9.heap.size = b13 at hb ⊢
  have HAb13 : Hid (b13 ∉ P.all) := Lib.hid (fun hm => by have := HCL.out.lt _ hm; omega)
  have Bb13 := Lib.hid hb
  replace OO := Lib.hid (OO.out.nil_trans ho); replace HCL := Lib.hid (HCL.out.kept ho)
  replace Bb10 := Lib.hid (ho.got Bb10.out (by simp))
  replace Bb11 := Lib.hid (ho.got Bb11.out (by simp))
  clear hb ho hs hbe
  have k10 := c_13 Bb10.out
  go_wp2_with fail
  refine (HR3.out _ _ HCL.out).mono ?_
  rintro e w11 ⟨rfl, hc, ho⟩
  replace OO := Lib.hid (OO.out.trans ho (fun x hx => .inr (HP.out x hx))); replace HCL := Lib.hid hc
  replace Bb11 := Lib.hid (ho.got Bb11.out HAb11.out)
  replace Bb13 := Lib.hid (ho.got Bb13.out HAb13.out)
  clear hc ho HR3 k10 Bb10
  go_upto_region 11 with (fail)
  refine alloc_abs (G := fun w0 => Code.wp _ _ _ _ w0) ?_
  intro w12 hb ho hs
  generalize hbe : w11.heap.size = b15 at hb ⊢
  have HAb15 : Hid (b15 ∉ P.all) := Lib.hid (fun hm => by have := HCL.out.lt _ hm; omega)
  have Bb15 := Lib.hid hb
  replace OO := Lib.hid (OO.out.nil_trans ho); replace HCL := Lib.hid (HCL.out.kept ho)
  replace Bb11 := Lib.hid (ho.got Bb11.out (by simp))
  replace Bb13 := Lib.hid (ho.got Bb13.out (by simp))
  clear hb ho hs hbe
  have k11 := c_6 Bb11.out; have k13 := c_6 Bb13.out; have k15 := c_6 Bb15.out
  go_wp2_with fail
  refine (HAW.out _).mono ?_
  rintro e w13 ⟨rfl, ho⟩
  go_wp2
  go_ret
  exact ⟨rfl, OO.out.nil_trans ho⟩
end Go.Proofs.YtikjdmbfjkbndaaGreat
