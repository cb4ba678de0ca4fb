/- Texts of one chain: Da, Db, Dc, Dd. Conditions: those named in each theorem. -/
import Derived.Test.YtikjdmbfjkbndaaGreatVe
/- client.measure. Conditions: those named in each theorem. -/
namespace Go.Proofs.YtikjdmbfjkbndaaGreat
open Go.RowKit

theorem set_chain {b : Nat} {t : TypeId} {r : Nat × Nat} : ∀ (l : List (Nat × Value)) {w : World} {cs : List Value} (_ : w.heap[b]? = some (.cells cs.toArray t r)), (l.foldl (fun w p => w.setCell ⟨b, p.1, none⟩ p.2) w).heap[b]? = some (.cells (l.foldl (fun c p => c.set p.1 p.2) cs).toArray t r)
 | [], _, _, h => h
 | (j, v) :: l, w, cs, h => set_chain l (cs := cs.set j v) (by rw [setCell_got (o := j) v h]; simp)
theorem set_only {b : Nat} {S : List Nat} (hb : b ∈ S) : ∀ (l : List (Nat × Value)) {w0 w : World} (_ : Only S w0 w), Only S w0 (l.foldl (fun w p => w.setCell ⟨b, p.1, none⟩ p.2) w)
 | [], _, _, h => h
 | (_, v) :: l, _, _, h => set_only hb l (h.setCell (.inl hb) v)
def sMeas (s : Sr) (i : Int) (p : Np) (q : Qd) (prec tol : Int) : Sr :=
 if (sof q prec tol).2 = 0 then (if (ojoin p (sof q prec tol).1 i).2 = 0 then { s with fl := (fAdd s.fl (sof q prec tol).1).1, rt := (ojoin p (sof q prec tol).1 i).1, hdr := p, hr := true } else { s with fl := (fAdd s.fl (sof q prec tol).1).1 }) else s
set_option maxRecDepth 100000 in
set_option maxHeartbeats 8000000 in
theorem pMeasure {w : World} {bc pb pa pf : Nat} {s : Sr} {tol prec : Int} (ht : w.cell? ⟨bc, 1, none⟩ = some (.int .i64 tol)) (ht2 : w.cell? ⟨bc, 2, none⟩ = some (.int .i64 prec)) (hlt : bc < w.heap.size) (hB : SrB w pb pa pf s) (hF : FlAt w pf s.fl) (hpf : pb ≠ pf ∧ pf < w.heap.size) (i : Int) (hi0 : 0 ≤ i) (hi1 : i ≤ 100) (p : Np) (hp : npOk p) (q : Qd) :
  Calls Tryz.prog 44 #[.pointer (some ⟨bc, 0, none⟩), .pointer (some ⟨pb, 0, none⟩), .int .i64 i, npV p, qdV q] w fun e w' => e = .returned (.tuple #[]) ∧ (SrB w' pb pa pf (sMeas s (i + 1) p q prec tol) ∧ FlAt w' pf (sMeas s (i + 1) p q prec tol).fl) ∧ Only [pb, pf] w w' := by
 have HSO := Lib.hid (fun w' => pSOf q prec tol w')
 have HSM : Hid (sMeas s (i + 1) p q prec tol = if (sof q prec tol).2 = 0 then (if (ojoin p (sof q prec tol).1 (i + 1)).2 = 0 then { s with fl := (fAdd s.fl (sof q prec tol).1).1, rt := (ojoin p (sof q prec tol).1 (i + 1)).1, hdr := p, hr := true } else { s with fl := (fAdd s.fl (sof q prec tol).1).1 }) else s) := Lib.hid rfl
 generalize sMeas s (i + 1) p q prec tol = res at HSM ⊢
 generalize sof q prec tol = so at HSO HSM
 obtain ⟨m, me⟩ := so
 dsimp only at HSO HSM
 have HAD := Lib.hid (fun (w' : World) (h : FlAt w' pf s.fl) => pFAdd h m)
 have HJ := Lib.hid (fun w' => pJoin p m (i + 1) hp w')
 generalize (fAdd s.fl m) = fa at HAD HSM
 obtain ⟨fl', fe⟩ := fa
 dsimp only at HAD HSM
 have HT := Lib.hid (And.intro (And.intro ht ht2) hlt)
 have HF := Lib.hid hF
 unfold SrB at hB
 generalize ojoin p m (i + 1) = oj at HJ HSM
 obtain ⟨⟨r1, r2, r3, r4⟩, je⟩ := oj
 obtain ⟨m1, m2, m3, m4⟩ := m
 obtain ⟨p0, p1, p2, p3, p4, p5, p6, p7, p8, p9, p10, p11, p12⟩ := p
 obtain ⟨t1, t2, t3, t4⟩ := q
 unfold smV at HSO HAD HJ
 unfold qdV at HSO ⊢
 unfold npV at HJ ⊢
 unfold roV at HJ
 dsimp only at HSO HAD HJ HSM ⊢
 have a1 : IntKind.i64.wrap (i + 1) = i + 1 := by rw [IntKind.wrap_i64]; omega
 have a2 : IntKind.u32.wrap (i + 1) = i + 1 := by rw [IntKind.wrap_u32]; omega
 clear ht ht2 hlt hF hp
 have HPF := Lib.hid hpf
 clear hpf
 have ob : bits .or .i64 (knI s.hr s.hp) 1 = knI true s.hp := by cases s.hr <;> cases s.hp <;> decide
 by_cases hz : me = 0
 ·subst hz
  by_cases hj : je = 0
  ·subst hj
   obtain rfl : res = { s with fl := fl', rt := ⟨r1, r2, r3, r4⟩, hdr := ⟨p0, p1, p2, p3, p4, p5, p6, p7, p8, p9, p10, p11, p12⟩, hr := true } := by have := HSM.out; simpa using this
   clear HSM
   go_enter Tryz.func44, Tryz.ntmps44
   go_upto_region 1 with (fail)
   refine wabs (G := fun w0 => Code.wp _ _ _ _ w0) (R := fun w1 => w1.heap[w.heap.size]? = some (.cells #[.int .i64 p0, .int .i64 p1, .int .i64 p2, .int .i64 p3, .int .i64 p4, .int .i64 p5, .int .u32 p6, .int .u32 p7, .int .u32 p8, .int .u64 p9, .int .u64 p10, .int .u64 p11, .int .u64 p12] 33 (0, 0)) ∧ w1.heap[w.heap.size + 1]? = some (.cells #[.int .i64 t1, .int .i64 t2, .int .i64 t3, .int .i64 t4] 39 (0, 0)) ∧ Only [] w w1) ?_ ?_
   ·skip
    have k0 := alloc_new w (.cells #[.int .i64 p0, .int .i64 p1, .int .i64 p2, .int .i64 p3, .int .i64 p4, .int .i64 p5, .int .u32 p6, .int .u32 p7, .int .u32 p8, .int .u64 p9, .int .u64 p10, .int .u64 p11, .int .u64 p12] 33)
    have k1 := alloc_new (w.alloc (.cells #[.int .i64 p0, .int .i64 p1, .int .i64 p2, .int .i64 p3, .int .i64 p4, .int .i64 p5, .int .u32 p6, .int .u32 p7, .int .u32 p8, .int .u64 p9, .int .u64 p10, .int .u64 p11, .int .u64 p12] 33)) (.cells #[.int .i64 t1, .int .i64 t2, .int .i64 t3, .int .i64 t4] 39)
    simp only [World.size_alloc] at k0 k1
    exact ⟨(alloc_old k0), k1, (((Only.refl [] w).alloc _).alloc _)⟩
   rintro w1 ⟨h1, h2, ho1⟩
   obtain ⟨b1, hb1⟩ : ∃ b, w.heap.size = b := ⟨_, rfl⟩
   obtain ⟨b2, hb2⟩ : ∃ b, w.heap.size + 1 = b := ⟨_, rfl⟩
   have HN : Hid (w.heap.size ≤ b1 ∧ w.heap.size ≤ b2 ∧ b1 ≠ b2 ∧ b2 ≠ b1) := Lib.hid (by omega)
   rw [hb1] at h1
   rw [hb2] at h2
   rw [show w.heap.size + 1 = b2 from hb2, hb1]
   have B1 := Lib.hid h1; have B2 := Lib.hid h2; have OO := Lib.hid ho1
   clear h1 h2 hb1 hb2
   have B3 := Lib.hid (ho1.got hB (by simp)); have HX3 := Lib.hid (got_lt hB)
   replace OO := Lib.hid (ho1.weak (S' := [pb, pf]) (by simp))
   replace HT := Lib.hid (And.intro (And.intro ((ho1.cell HT.out.2 (by simp)).trans HT.out.1.1) ((ho1.cell HT.out.2 (by simp)).trans HT.out.1.2)) (Nat.lt_of_lt_of_le HT.out.2 ho1.size))
   replace HF := Lib.hid (HF.out.kept ho1 (by simp))
   clear ho1
   have k1 := c_13 B1.out; have k2 := c_4 B2.out; have k3 := c_29 B3.out
   have ct := HT.out.1.1; have ct2 := HT.out.1.2; have lt := HT.out.2
   go_wp2_with fail
   refine wp_region_calm3 [0, 1, 2, 3, 4, 5, 6, 7, 8, 9, 10, 11, 12, 13] [14] [16] (by kernel_rfl) (by kernel_rfl) ?_
   simp only [pick, List.map_cons, List.map_nil, List.getD_cons_succ, List.getD_cons_zero]
   iterate 11 (refine wpCalmG_step (fun K hK => ?_); go_simp; refine hK _ ?_; clear hK K)
   refine wpCalmG_call (by kernel_rfl) 81 #[.agg #[.int .i64 t1, .int .i64 t2, .int .i64 t3, .int .i64 t4], .int .i64 prec, .int .i64 tol] (fun _ => by kernel_rfl) (.tuple #[.agg #[.int .i64 m1, .int .i64 m2, .int .i64 m3, .int .i64 m4], .int .i64 0]) (fun w' hw' => HSO.out w') ?_
   iterate 2 (refine wpCalmG_step (fun K hK => ?_); go_simp; refine hK _ ?_; clear hK K)
   refine wpCalmG_nil ?_
   iterate 1 (refine wpCalm_step (fun K hK => ?_); go_simp; refine hK _ ?_; clear hK K)
   refine wpCalm_nil ?_
   refine RestG.by (X := Nat) (fun y a => (a.put (some 11) (.int .i64 0)).put (some 10) (.pointer (some ⟨y, 0, none⟩))) (Fresh w1 (.cells #[.int .i64 m1, .int .i64 m2, .int .i64 m3, .int .i64 m4] 157 (0, 0))) Fresh.on ?_ ?_
   rotate_left
   ·refine wpAnyG_next 15 (by kernel_rfl) (.inr (onlyC (Only.refl [] w1).drew)) ?_
    intro x0 ho0
    refine wpOp_one rfl ?_
    go_wp2
    simp only [nrm]
    refine alloc_abs (G := fun w0 => wpAnyG _ _ _ _ _ _ _ _ _ w0) ?_
    intro x1 hb0 ho1 _
    have O0 := Lib.hid (((Only.refl [] w1).drew.nil_trans ho0).nil_trans ho1)
    have HY : Hid (w1.heap.size ≤ x0.heap.size) := Lib.hid ho0.size
    generalize x0.heap.size = y at hb0 HY ⊢
    refine wpAnyG_next 16 (by kernel_rfl) (.inr (onlyC O0.out)) ?_
    intro x2 ho2
    have B0 := Lib.hid (ho2.got hb0 (by simp)); have O2 := Lib.hid (O0.out.nil_trans ho2)
    clear hb0 ho1 ho2 ho0 O0
    refine wpOp_one rfl ?_
    have kb := c_4 B0.out
    go_wp2
    simp only [nrm]
    refine wpAnyG_next 17 (by kernel_rfl) (.inl (late_of (by kernel_rfl))) ?_
    intro x3 ho3
    refine wpOp_one rfl ?_
    clear kb
    go_wp2
    simp only [nrm]
    exact wpAnyG_done (by kernel_rfl) (.inl (late_of (by kernel_rfl))) ⟨y, by simp [Act.put], HY.out, (ho3.got (setCell_got (o := 3) (.int .i64 m4) (setCell_got (o := 2) (.int .i64 m3) (setCell_got (o := 1) (.int .i64 m2) (setCell_got (o := 0) (.int .i64 m1) (B0.out))))) (by simp)), (((((O2.out).setCell (.inr HY.out) _).setCell (.inr HY.out) _).setCell (.inr HY.out) _).setCell (.inr HY.out) _).nil_trans ho3⟩
   rintro b4 w2 ⟨hbn, hb, ho⟩
   simp only [Act.put, List.setIfInBounds_toArray, List.set_cons_succ, List.set_cons_zero]
   have HN4 : Hid (w.heap.size ≤ b4) := Lib.hid (Nat.le_trans OO.out.size hbn)
   have HM4_1 : Hid (b1 ≠ b4) := Lib.hid (by omega)
   have HM4_2 : Hid (b2 ≠ b4) := Lib.hid (by omega)
   have HM4_3 : Hid (pb ≠ b4) := Lib.hid (by omega)
   clear k1 k2 k3 ct ct2 lt
   replace OO := Lib.hid (OO.out.nil_trans ho); replace B1 := Lib.hid (ho.got B1.out (by simp)); replace B2 := Lib.hid (ho.got B2.out (by simp)); replace B3 := Lib.hid (ho.got B3.out (by simp)); have B4 := Lib.hid hb
   replace HT := Lib.hid (And.intro (And.intro ((ho.cell HT.out.2 (by simp)).trans HT.out.1.1) ((ho.cell HT.out.2 (by simp)).trans HT.out.1.2)) (Nat.lt_of_lt_of_le HT.out.2 ho.size))
   replace HF := Lib.hid (HF.out.kept ho (by simp))
   clear hb ho hbn
   have k1 := c_13 B1.out; have k2 := c_4 B2.out; have k3 := c_29 B3.out; have k4 := c_4 B4.out
   have ct := HT.out.1.1; have ct2 := HT.out.1.2; have lt := HT.out.2
   obtain ⟨wa, hwa⟩ : ∃ wa : World, wa = w2 := ⟨_, rfl⟩
   subst hwa
   go_upto_region 3 with (fail)
   refine wp_region_calm2 [0, 1, 2, 3, 4] [5] (OnlyC ([] : List Nat) wa) (by kernel_rfl) (by kernel_rfl) ?_
   simp only [pick, List.map_cons, List.map_nil, List.getD_cons_succ, List.getD_cons_zero]
   iterate 5 (refine wpCalm_step (fun K hK => ?_); go_simp; refine hK _ ?_; clear hK K)
   refine wpCalm_nil ?_
   refine Rest.by (X := Unit) (fun _ a => a.put (some 35) (.int .i64 fe)) (fun _ w' => FlAt w' pf fl' ∧ Only [pf] wa w') ?_ ?_
   rotate_left
   ·refine wpAnyC_next [5] (by kernel_rfl) (by simp) (.inr (onlyC (Only.refl [] wa).drew)) ?_
    simp only [List.mem_cons, List.not_mem_nil, or_false, forall_eq]
    refine wpOp_one rfl ?_
    go_wp2_with fail
    refine (HAD.out _ (HF.out.kept (Only.refl [] wa).drew (by simp))).mono ?_
    rintro e x1 ⟨rfl, hf, ho⟩
    go_wp2
    simp only [nrm]
    exact wpAnyC_done (by kernel_rfl) (.inl (late_of (by kernel_rfl))) ⟨(), by simp [Act.put], hf, ((Only.refl [pf] wa).drew).trans ho (by simp)⟩
   rintro - w3 ⟨hf, ho⟩
   simp only [Act.put, List.setIfInBounds_toArray, List.set_cons_succ, List.set_cons_zero]
   clear k1 k2 k3 k4 ct ct2 lt
   replace OO := Lib.hid (OO.out.trans ho (by simp))
   replace B1 := Lib.hid (ho.got B1.out (by simp; have e1 := HN.out.1; have e2 := HPF.out.2; omega)); replace B2 := Lib.hid (ho.got B2.out (by simp; have e1 := HN.out.2.1; have e2 := HPF.out.2; omega)); replace B3 := Lib.hid (ho.got B3.out (by simp; exact HPF.out.1)); replace B4 := Lib.hid (ho.got B4.out (by simp; have e1 := HN4.out; have e2 := HPF.out.2; omega))
   replace HF := Lib.hid hf
   clear ho hf HAD HT
   have k1 := c_13 B1.out; have k2 := c_4 B2.out; have k3 := c_29 B3.out; have k4 := c_4 B4.out
   go_wp2_with fail
   refine (HJ.out _).mono ?_
   rintro e w4 ⟨rfl, ho⟩
   clear k1 k2 k3 k4
   replace OO := Lib.hid (OO.out.nil_trans ho); replace B1 := Lib.hid (ho.got B1.out (by simp)); replace B2 := Lib.hid (ho.got B2.out (by simp)); replace B3 := Lib.hid (ho.got B3.out (by simp)); replace B4 := Lib.hid (ho.got B4.out (by simp))
   replace HF := Lib.hid (HF.out.kept ho (by simp))
   clear ho
   have k1 := c_13 B1.out; have k2 := c_4 B2.out; have k3 := c_29 B3.out; have k4 := c_4 B4.out
   go_upto_region 6 with (fail)
   refine alloc_abs (G := fun w0 => Code.wp _ _ _ _ w0) ?_
   intro w5 hb ho hs
   obtain ⟨b5, hbe⟩ : ∃ b, w4.heap.size = b := ⟨_, rfl⟩
   rw [hbe] at hb
   rw [hbe]
   have HN5 : Hid (w.heap.size ≤ b5) := Lib.hid (by rw [← hbe]; exact OO.out.size)
   have HM5_1 : Hid (b1 ≠ b5) := Lib.hid (by omega)
   have HM5_2 : Hid (b2 ≠ b5) := Lib.hid (by omega)
   have HM5_3 : Hid (pb ≠ b5) := Lib.hid (by omega)
   have HM5_4 : Hid (b4 ≠ b5) := Lib.hid (by omega)
   clear k1 k2 k3 k4
   replace OO := Lib.hid (OO.out.nil_trans ho); replace B1 := Lib.hid (ho.got B1.out (by simp)); replace B2 := Lib.hid (ho.got B2.out (by simp)); replace B3 := Lib.hid (ho.got B3.out (by simp)); replace B4 := Lib.hid (ho.got B4.out (by simp)); have B5 := Lib.hid hb
   replace HF := Lib.hid (HF.out.kept ho (by simp))
   clear hb ho hs hbe
   have k1 := c_13 B1.out; have k2 := c_4 B2.out; have k3 := c_29 B3.out; have k4 := c_4 B4.out; have k5 := c_4 B5.out
   refine wp_region_calm2 [0, 1, 2, 3, 4, 5] [] (OnlyC [pb] w5) (by kernel_rfl) (by kernel_rfl) ?_
   simp only [pick, List.map_cons, List.map_nil, List.getD_cons_succ, List.getD_cons_zero]
   have hx1 : b1 ∉ [pb] := by simp only [List.mem_cons, List.not_mem_nil, or_false]; exact (show b1 ≠ pb from (by have e1 := HN.out.1; have e3 := HX3.out; omega))
   have hx2 : b2 ∉ [pb] := by simp only [List.mem_cons, List.not_mem_nil, or_false]; exact (show b2 ≠ pb from (by have e2 := HN.out.2.1; have e3 := HX3.out; omega))
   have hx4 : b4 ∉ [pb] := by simp only [List.mem_cons, List.not_mem_nil, or_false]; exact HM4_3.out.symm
   have hx5 : b5 ∉ [pb] := by simp only [List.mem_cons, List.not_mem_nil, or_false]; exact HM5_3.out.symm
   iterate 6 (refine wpCalm_step (fun K hK => ?_); go_simp; refine hK _ ?_; clear hK K)
   refine wpCalm_nil ?_
   clear hx1 hx2 hx4 hx5
   refine Rest.by (X := Unit) (fun _ a => (a.put (some 53) (.pointer (some ⟨pb, 0, none⟩))).put (some 54) (.pointer (some ⟨pb, 9, none⟩))) (fun _ w' => w'.heap[pb]? = some (.cells #[.pointer (some ⟨pa, 0, none⟩), .pointer (some ⟨pf, 0, none⟩), .int .i64 (knI s.hr s.hp), .int .i64 s.rc.bits, .int .i64 s.rc.poll, .int .i64 s.rc.mn, .int .i64 s.rc.mx, .int .i64 s.rc.cnt, .int .i64 s.sent, .int .i64 p0, .int .i64 p1, .int .i64 p2, .int .i64 p3, .int .i64 p4, .int .i64 p5, .int .u32 p6, .int .u32 p7, .int .u32 p8, .int .u64 p9, .int .u64 p10, .int .u64 p11, .int .u64 p12, .int .i64 r1, .int .i64 r2, .int .i64 r3, .int .u32 r4, .int .i64 s.prf.lo, .int .i64 s.prf.hi, .int .i64 s.pat] 108 (0, 0)) ∧ Only [pb] w5 w') ?_ ?_
   rotate_left
   ·refine wabs (G := fun w0 => wpAnyC _ _ _ _ _ _ _ _ _ w0) (R := fun x0 => Only [] w5 x0) (Only.refl [] w5).drew ?_
    intro x0 ho0
    have C0 := Lib.hid (ho0.got B3.out (by simp)); have O0 := Lib.hid (ho0.weak (S' := [pb]) (by simp))
    clear ho0
    clear k1 k2 k3 k4 k5
    refine wpAnyC_next [6] (by kernel_rfl) (by simp) (.inr (onlyC O0.out)) ?_
    simp only [List.mem_cons, List.not_mem_nil, or_false, forall_eq]
    refine wpOp_one rfl ?_
    have y := c_29 C0.out
    go_wp2
    simp only [nrm]
    clear y
    refine wabs (G := fun w0 => wpAnyC _ _ _ _ _ _ _ _ _ w0) (R := fun x1 => x1.heap[pb]? = some (.cells #[.pointer (some ⟨pa, 0, none⟩), .pointer (some ⟨pf, 0, none⟩), .int .i64 (knI s.hr s.hp), .int .i64 s.rc.bits, .int .i64 s.rc.poll, .int .i64 s.rc.mn, .int .i64 s.rc.mx, .int .i64 s.rc.cnt, .int .i64 s.sent, .int .i64 s.hdr.leap, .int .i64 s.hdr.ver, .int .i64 s.hdr.mode, .int .i64 s.hdr.strat, .int .i64 s.hdr.poll, .int .i64 s.hdr.prec, .int .u32 s.hdr.rdel, .int .u32 s.hdr.rdsp, .int .u32 s.hdr.rid, .int .u64 s.hdr.ref, .int .u64 s.hdr.org, .int .u64 s.hdr.rcv, .int .u64 s.hdr.xmt, .int .i64 r1, .int .i64 r2, .int .i64 r3, .int .u32 r4, .int .i64 s.prf.lo, .int .i64 s.prf.hi, .int .i64 s.pat] 108 (0, 0)) ∧ Only [pb] x0 x1) ⟨(by have h9 := set_chain [(22, .int .i64 r1), (23, .int .i64 r2), (24, .int .i64 r3), (25, .int .u32 r4)] C0.out; simp only [List.foldl_cons, List.foldl_nil, List.set_cons_succ, List.set_cons_zero] at h9; exact h9), (by have h8 := set_only (b := pb) (S := [pb]) (by simp) [(22, .int .i64 r1), (23, .int .i64 r2), (24, .int .i64 r3), (25, .int .u32 r4)] (Only.refl [pb] x0); simp only [List.foldl_cons, List.foldl_nil] at h8; exact h8)⟩ ?_
    rintro x1 ⟨hb, ho1⟩
    have C1 := Lib.hid hb; have O1 := Lib.hid (O0.out.trans ho1 (by simp))
    clear hb ho1
    refine wpAnyC_next [7] (by kernel_rfl) (by simp) (.inr (onlyC O1.out)) ?_
    simp only [List.mem_cons, List.not_mem_nil, or_false, forall_eq]
    refine wpOp_one rfl ?_
    go_wp2
    simp only [nrm]
    refine wpAnyC_next [8] (by kernel_rfl) (by simp) (.inr (onlyC O1.out)) ?_
    simp only [List.mem_cons, List.not_mem_nil, or_false, forall_eq]
    refine wpOp_one rfl ?_
    go_wp2
    simp only [nrm]
    refine wpAnyC_next [9] (by kernel_rfl) (by simp) (.inr (onlyC O1.out)) ?_
    simp only [List.mem_cons, List.not_mem_nil, or_false, forall_eq]
    refine wpOp_one rfl ?_
    have y := c_29 C1.out
    go_wp2
    simp only [nrm]
    have o2 := (by have h8 := set_only (b := pb) (S := [pb]) (by simp) [(9, .int .i64 p0), (10, .int .i64 p1), (11, .int .i64 p2), (12, .int .i64 p3), (13, .int .i64 p4), (14, .int .i64 p5), (15, .int .u32 p6), (16, .int .u32 p7), (17, .int .u32 p8), (18, .int .u64 p9), (19, .int .u64 p10), (20, .int .u64 p11), (21, .int .u64 p12)] O1.out; simp only [List.foldl_cons, List.foldl_nil] at h8; exact h8)
    exact wpAnyC_done (by kernel_rfl) (.inr (onlyC o2)) ⟨(), by simp [Act.put], (by have h9 := set_chain [(9, .int .i64 p0), (10, .int .i64 p1), (11, .int .i64 p2), (12, .int .i64 p3), (13, .int .i64 p4), (14, .int .i64 p5), (15, .int .u32 p6), (16, .int .u32 p7), (17, .int .u32 p8), (18, .int .u64 p9), (19, .int .u64 p10), (20, .int .u64 p11), (21, .int .u64 p12)] C1.out; simp only [List.foldl_cons, List.foldl_nil, List.set_cons_succ, List.set_cons_zero] at h9; exact h9), o2⟩
   rintro - w6 ⟨hb, ho⟩
   simp only [Act.put, List.setIfInBounds_toArray, List.set_cons_succ, List.set_cons_zero]
   clear k1 k2 k3 k4 k5
   replace OO := Lib.hid (OO.out.trans ho (by simp)); replace HF := Lib.hid (HF.out.kept ho (by simpa using HPF.out.1.symm)); replace B3 := Lib.hid hb
   clear ho hb B1 B2 B4 B5
   have k3_2 := cell_got B3.out 2; have z3_2 := frozen_got B3.out 2; have l3 := got_lt B3.out
   go_wp2
   go_end0
   exact ⟨rfl, ⟨setCell_got (o := 2) (.int .i64 (knI true s.hp)) B3.out, HF.out.kept ((Only.refl [pb] w6).setCell (.inl (by simp)) _) (by simpa using HPF.out.1.symm)⟩, OO.out.setCell (.inl (by simp)) _⟩
  ·have q2 : (je != 0) = true := by simpa using hj
   obtain rfl : res = { s with fl := fl' } := by have := HSM.out; simpa [hj] using this
   clear HSM
   go_enter Tryz.func44, Tryz.ntmps44
   go_upto_region 1 with (fail)
   refine wabs (G := fun w0 => Code.wp _ _ _ _ w0) (R := fun w1 => w1.heap[w.heap.size]? = some (.cells #[.int .i64 p0, .int .i64 p1, .int .i64 p2, .int .i64 p3, .int .i64 p4, .int .i64 p5, .int .u32 p6, .int .u32 p7, .int .u32 p8, .int .u64 p9, .int .u64 p10, .int .u64 p11, .int .u64 p12] 33 (0, 0)) ∧ w1.heap[w.heap.size + 1]? = some (.cells #[.int .i64 t1, .int .i64 t2, .int .i64 t3, .int .i64 t4] 39 (0, 0)) ∧ Only [] w w1) ?_ ?_
   ·skip
    have k0 := alloc_new w (.cells #[.int .i64 p0, .int .i64 p1, .int .i64 p2, .int .i64 p3, .int .i64 p4, .int .i64 p5, .int .u32 p6, .int .u32 p7, .int .u32 p8, .int .u64 p9, .int .u64 p10, .int .u64 p11, .int .u64 p12] 33)
    have k1 := alloc_new (w.alloc (.cells #[.int .i64 p0, .int .i64 p1, .int .i64 p2, .int .i64 p3, .int .i64 p4, .int .i64 p5, .int .u32 p6, .int .u32 p7, .int .u32 p8, .int .u64 p9, .int .u64 p10, .int .u64 p11, .int .u64 p12] 33)) (.cells #[.int .i64 t1, .int .i64 t2, .int .i64 t3, .int .i64 t4] 39)
    simp only [World.size_alloc] at k0 k1
    exact ⟨(alloc_old k0), k1, (((Only.refl [] w).alloc _).alloc _)⟩
   rintro w1 ⟨h1, h2, ho1⟩
   obtain ⟨b1, hb1⟩ : ∃ b, w.heap.size = b := ⟨_, rfl⟩
   obtain ⟨b2, hb2⟩ : ∃ b, w.heap.size + 1 = b := ⟨_, rfl⟩
   have HN : Hid (w.heap.size ≤ b1 ∧ w.heap.size ≤ b2 ∧ b1 ≠ b2 ∧ b2 ≠ b1) := Lib.hid (by omega)
   rw [hb1] at h1
   rw [hb2] at h2
   rw [show w.heap.size + 1 = b2 from hb2, hb1]
   have B1 := Lib.hid h1; have B2 := Lib.hid h2; have OO := Lib.hid ho1
   clear h1 h2 hb1 hb2
   have B3 := Lib.hid (ho1.got hB (by simp)); have HX3 := Lib.hid (got_lt hB)
   replace OO := Lib.hid (ho1.weak (S' := [pb, pf]) (by simp))
   replace HT := Lib.hid (And.intro (And.intro ((ho1.cell HT.out.2 (by simp)).trans HT.out.1.1) ((ho1.cell HT.out.2 (by simp)).trans HT.out.1.2)) (Nat.lt_of_lt_of_le HT.out.2 ho1.size))
   replace HF := Lib.hid (HF.out.kept ho1 (by simp))
   clear ho1
   have k1 := c_13 B1.out; have k2 := c_4 B2.out; have k3 := c_29 B3.out
   have ct := HT.out.1.1; have ct2 := HT.out.1.2; have lt := HT.out.2
   go_wp2_with fail
   refine wp_region_calm3 [0, 1, 2, 3, 4, 5, 6, 7, 8, 9, 10, 11, 12, 13] [14] [16] (by kernel_rfl) (by kernel_rfl) ?_
   simp only [pick, List.map_cons, List.map_nil, List.getD_cons_succ, List.getD_cons_zero]
   iterate 11 (refine wpCalmG_step (fun K hK => ?_); go_simp; refine hK _ ?_; clear hK K)
   refine wpCalmG_call (by kernel_rfl) 81 #[.agg #[.int .i64 t1, .int .i64 t2, .int .i64 t3, .int .i64 t4], .int .i64 prec, .int .i64 tol] (fun _ => by kernel_rfl) (.tuple #[.agg #[.int .i64 m1, .int .i64 m2, .int .i64 m3, .int .i64 m4], .int .i64 0]) (fun w' hw' => HSO.out w') ?_
   iterate 2 (refine wpCalmG_step (fun K hK => ?_); go_simp; refine hK _ ?_; clear hK K)
   refine wpCalmG_nil ?_
   iterate 1 (refine wpCalm_step (fun K hK => ?_); go_simp; refine hK _ ?_; clear hK K)
   refine wpCalm_nil ?_
   refine RestG.by (X := Nat) (fun y a => (a.put (some 11) (.int .i64 0)).put (some 10) (.pointer (some ⟨y, 0, none⟩))) (Fresh w1 (.cells #[.int .i64 m1, .int .i64 m2, .int .i64 m3, .int .i64 m4] 157 (0, 0))) Fresh.on ?_ ?_
   rotate_left
   ·refine wpAnyG_next 15 (by kernel_rfl) (.inr (onlyC (Only.refl [] w1).drew)) ?_
    intro x0 ho0
    refine wpOp_one rfl ?_
    go_wp2
    simp only [nrm]
    refine alloc_abs (G := fun w0 => wpAnyG _ _ _ _ _ _ _ _ _ w0) ?_
    intro x1 hb0 ho1 _
    have O0 := Lib.hid (((Only.refl [] w1).drew.nil_trans ho0).nil_trans ho1)
    have HY : Hid (w1.heap.size ≤ x0.heap.size) := Lib.hid ho0.size
    generalize x0.heap.size = y at hb0 HY ⊢
    refine wpAnyG_next 16 (by kernel_rfl) (.inr (onlyC O0.out)) ?_
    intro x2 ho2
    have B0 := Lib.hid (ho2.got hb0 (by simp)); have O2 := Lib.hid (O0.out.nil_trans ho2)
    clear hb0 ho1 ho2 ho0 O0
    refine wpOp_one rfl ?_
    have kb := c_4 B0.out
    go_wp2
    simp only [nrm]
    refine wpAnyG_next 17 (by kernel_rfl) (.inl (late_of (by kernel_rfl))) ?_
    intro x3 ho3
    refine wpOp_one rfl ?_
    clear kb
    go_wp2
    simp only [nrm]
    exact wpAnyG_done (by kernel_rfl) (.inl (late_of (by kernel_rfl))) ⟨y, by simp [Act.put], HY.out, (ho3.got (setCell_got (o := 3) (.int .i64 m4) (setCell_got (o := 2) (.int .i64 m3) (setCell_got (o := 1) (.int .i64 m2) (setCell_got (o := 0) (.int .i64 m1) (B0.out))))) (by simp)), (((((O2.out).setCell (.inr HY.out) _).setCell (.inr HY.out) _).setCell (.inr HY.out) _).setCell (.inr HY.out) _).nil_trans ho3⟩
   rintro b4 w2 ⟨hbn, hb, ho⟩
   simp only [Act.put, List.setIfInBounds_toArray, List.set_cons_succ, List.set_cons_zero]
   have HN4 : Hid (w.heap.size ≤ b4) := Lib.hid (Nat.le_trans OO.out.size hbn)
   have HM4_1 : Hid (b1 ≠ b4) := Lib.hid (by omega)
   have HM4_2 : Hid (b2 ≠ b4) := Lib.hid (by omega)
   have HM4_3 : Hid (pb ≠ b4) := Lib.hid (by omega)
   clear k1 k2 k3 ct ct2 lt
   replace OO := Lib.hid (OO.out.nil_trans ho); replace B1 := Lib.hid (ho.got B1.out (by simp)); replace B2 := Lib.hid (ho.got B2.out (by simp)); replace B3 := Lib.hid (ho.got B3.out (by simp)); have B4 := Lib.hid hb
   replace HT := Lib.hid (And.intro (And.intro ((ho.cell HT.out.2 (by simp)).trans HT.out.1.1) ((ho.cell HT.out.2 (by simp)).trans HT.out.1.2)) (Nat.lt_of_lt_of_le HT.out.2 ho.size))
   replace HF := Lib.hid (HF.out.kept ho (by simp))
   clear hb ho hbn
   have k1 := c_13 B1.out; have k2 := c_4 B2.out; have k3 := c_29 B3.out; have k4 := c_4 B4.out
   have ct := HT.out.1.1; have ct2 := HT.out.1.2; have lt := HT.out.2
   obtain ⟨wa, hwa⟩ : ∃ wa : World, wa = w2 := ⟨_, rfl⟩
   subst hwa
   go_upto_region 3 with (fail)
   refine wp_region_calm2 [0, 1, 2, 3, 4] [5] (OnlyC ([] : List Nat) wa) (by kernel_rfl) (by kernel_rfl) ?_
   simp only [pick, List.map_cons, List.map_nil, List.getD_cons_succ, List.getD_cons_zero]
   iterate 5 (refine wpCalm_step (fun K hK => ?_); go_simp; refine hK _ ?_; clear hK K)
   refine wpCalm_nil ?_
   refine Rest.by (X := Unit) (fun _ a => a.put (some 35) (.int .i64 fe)) (fun _ w' => FlAt w' pf fl' ∧ Only [pf] wa w') ?_ ?_
   rotate_left
   ·refine wpAnyC_next [5] (by kernel_rfl) (by simp) (.inr (onlyC (Only.refl [] wa).drew)) ?_
    simp only [List.mem_cons, List.not_mem_nil, or_false, forall_eq]
    refine wpOp_one rfl ?_
    go_wp2_with fail
    refine (HAD.out _ (HF.out.kept (Only.refl [] wa).drew (by simp))).mono ?_
    rintro e x1 ⟨rfl, hf, ho⟩
    go_wp2
    simp only [nrm]
    exact wpAnyC_done (by kernel_rfl) (.inl (late_of (by kernel_rfl))) ⟨(), by simp [Act.put], hf, ((Only.refl [pf] wa).drew).trans ho (by simp)⟩
   rintro - w3 ⟨hf, ho⟩
   simp only [Act.put, List.setIfInBounds_toArray, List.set_cons_succ, List.set_cons_zero]
   clear k1 k2 k3 k4 ct ct2 lt
   replace OO := Lib.hid (OO.out.trans ho (by simp))
   replace B1 := Lib.hid (ho.got B1.out (by simp; have e1 := HN.out.1; have e2 := HPF.out.2; omega)); replace B2 := Lib.hid (ho.got B2.out (by simp; have e1 := HN.out.2.1; have e2 := HPF.out.2; omega)); replace B3 := Lib.hid (ho.got B3.out (by simp; exact HPF.out.1)); replace B4 := Lib.hid (ho.got B4.out (by simp; have e1 := HN4.out; have e2 := HPF.out.2; omega))
   replace HF := Lib.hid hf
   clear ho hf HAD HT
   have k1 := c_13 B1.out; have k2 := c_4 B2.out; have k3 := c_29 B3.out; have k4 := c_4 B4.out
   go_wp2_with fail
   refine (HJ.out _).mono ?_
   rintro e w4 ⟨rfl, ho⟩
   clear k1 k2 k3 k4
   replace OO := Lib.hid (OO.out.nil_trans ho); replace B1 := Lib.hid (ho.got B1.out (by simp)); replace B2 := Lib.hid (ho.got B2.out (by simp)); replace B3 := Lib.hid (ho.got B3.out (by simp)); replace B4 := Lib.hid (ho.got B4.out (by simp))
   replace HF := Lib.hid (HF.out.kept ho (by simp))
   clear ho
   have k1 := c_13 B1.out; have k2 := c_4 B2.out; have k3 := c_29 B3.out; have k4 := c_4 B4.out
   go_upto_region 5 with (fail)
   refine alloc_abs (G := fun w0 => Code.wp _ _ _ _ w0) ?_
   intro w5 hb ho hs
   obtain ⟨b5, hbe⟩ : ∃ b, w4.heap.size = b := ⟨_, rfl⟩
   rw [hbe] at hb
   rw [hbe]
   have HN5 : Hid (w.heap.size ≤ b5) := Lib.hid (by rw [← hbe]; exact OO.out.size)
   have HM5_1 : Hid (b1 ≠ b5) := Lib.hid (by omega)
   have HM5_2 : Hid (b2 ≠ b5) := Lib.hid (by omega)
   have HM5_3 : Hid (pb ≠ b5) := Lib.hid (by omega)
   have HM5_4 : Hid (b4 ≠ b5) := Lib.hid (by omega)
   clear k1 k2 k3 k4
   replace OO := Lib.hid (OO.out.nil_trans ho); replace B1 := Lib.hid (ho.got B1.out (by simp)); replace B2 := Lib.hid (ho.got B2.out (by simp)); replace B3 := Lib.hid (ho.got B3.out (by simp)); replace B4 := Lib.hid (ho.got B4.out (by simp)); have B5 := Lib.hid hb
   replace HF := Lib.hid (HF.out.kept ho (by simp))
   clear hb ho hs hbe
   have k1 := c_13 B1.out; have k2 := c_4 B2.out; have k3 := c_29 B3.out; have k4 := c_4 B4.out; have k5 := c_4 B5.out
   go_wp2
   refine bodyPost_ret (results_none rfl _ _ _) rfl ?_
   exact ⟨rfl, ⟨B3.out, HF.out⟩, OO.out⟩
 ·have q1 : (me != 0) = true := by simpa using hz
  obtain rfl : res = s := by have := HSM.out; simpa [hz] using this
  clear HSM HAD HJ
  go_enter Tryz.func44, Tryz.ntmps44
  go_upto_region 1 with (fail)
  refine wabs (G := fun w0 => Code.wp _ _ _ _ w0) (R := fun w1 => w1.heap[w.heap.size]? = some (.cells #[.int .i64 p0, .int .i64 p1, .int .i64 p2, .int .i64 p3, .int .i64 p4, .int .i64 p5, .int .u32 p6, .int .u32 p7, .int .u32 p8, .int .u64 p9, .int .u64 p10, .int .u64 p11, .int .u64 p12] 33 (0, 0)) ∧ w1.heap[w.heap.size + 1]? = some (.cells #[.int .i64 t1, .int .i64 t2, .int .i64 t3, .int .i64 t4] 39 (0, 0)) ∧ Only [] w w1) ?_ ?_
  ·skip
   have k0 := alloc_new w (.cells #[.int .i64 p0, .int .i64 p1, .int .i64 p2, .int .i64 p3, .int .i64 p4, .int .i64 p5, .int .u32 p6, .int .u32 p7, .int .u32 p8, .int .u64 p9, .int .u64 p10, .int .u64 p11, .int .u64 p12] 33)
   have k1 := alloc_new (w.alloc (.cells #[.int .i64 p0, .int .i64 p1, .int .i64 p2, .int .i64 p3, .int .i64 p4, .int .i64 p5, .int .u32 p6, .int .u32 p7, .int .u32 p8, .int .u64 p9, .int .u64 p10, .int .u64 p11, .int .u64 p12] 33)) (.cells #[.int .i64 t1, .int .i64 t2, .int .i64 t3, .int .i64 t4] 39)
   simp only [World.size_alloc] at k0 k1
   exact ⟨(alloc_old k0), k1, (((Only.refl [] w).alloc _).alloc _)⟩
  rintro w1 ⟨h1, h2, ho1⟩
  obtain ⟨b1, hb1⟩ : ∃ b, w.heap.size = b := ⟨_, rfl⟩
  obtain ⟨b2, hb2⟩ : ∃ b, w.heap.size + 1 = b := ⟨_, rfl⟩
  have HN : Hid (w.heap.size ≤ b1 ∧ w.heap.size ≤ b2 ∧ b1 ≠ b2 ∧ b2 ≠ b1) := Lib.hid (by omega)
  rw [hb1] at h1
  rw [hb2] at h2
  rw [show w.heap.size + 1 = b2 from hb2, hb1]
  have B1 := Lib.hid h1; have B2 := Lib.hid h2; have OO := Lib.hid ho1
  clear h1 h2 hb1 hb2
  have B3 := Lib.hid (ho1.got hB (by simp)); have HX3 := Lib.hid (got_lt hB)
  replace OO := Lib.hid (ho1.weak (S' := [pb, pf]) (by simp))
  replace HT := Lib.hid (And.intro (And.intro ((ho1.cell HT.out.2 (by simp)).trans HT.out.1.1) ((ho1.cell HT.out.2 (by simp)).trans HT.out.1.2)) (Nat.lt_of_lt_of_le HT.out.2 ho1.size))
  replace HF := Lib.hid (HF.out.kept ho1 (by simp))
  clear ho1
  have k1 := c_13 B1.out; have k2 := c_4 B2.out; have k3 := c_29 B3.out
  have ct := HT.out.1.1; have ct2 := HT.out.1.2; have lt := HT.out.2
  go_wp2_with fail
  refine wp_region_calm3 [0, 1, 2, 3, 4, 5, 6, 7, 8, 9, 10, 11, 12, 13] [14] [16] (by kernel_rfl) (by kernel_rfl) ?_
  simp only [pick, List.map_cons, List.map_nil, List.getD_cons_succ, List.getD_cons_zero]
  iterate 11 (refine wpCalmG_step (fun K hK => ?_); go_simp; refine hK _ ?_; clear hK K)
  refine wpCalmG_call (by kernel_rfl) 81 #[.agg #[.int .i64 t1, .int .i64 t2, .int .i64 t3, .int .i64 t4], .int .i64 prec, .int .i64 tol] (fun _ => by kernel_rfl) (.tuple #[.agg #[.int .i64 m1, .int .i64 m2, .int .i64 m3, .int .i64 m4], .int .i64 me]) (fun w' hw' => HSO.out w') ?_
  iterate 2 (refine wpCalmG_step (fun K hK => ?_); go_simp; refine hK _ ?_; clear hK K)
  refine wpCalmG_nil ?_
  iterate 1 (refine wpCalm_step (fun K hK => ?_); go_simp; refine hK _ ?_; clear hK K)
  refine wpCalm_nil ?_
  refine RestG.by (X := Nat) (fun y a => (a.put (some 11) (.int .i64 me)).put (some 10) (.pointer (some ⟨y, 0, none⟩))) (Fresh w1 (.cells #[.int .i64 m1, .int .i64 m2, .int .i64 m3, .int .i64 m4] 157 (0, 0))) Fresh.on ?_ ?_
  rotate_left
  ·refine wpAnyG_next 15 (by kernel_rfl) (.inr (onlyC (Only.refl [] w1).drew)) ?_
   intro x0 ho0
   refine wpOp_one rfl ?_
   go_wp2
   simp only [nrm]
   refine alloc_abs (G := fun w0 => wpAnyG _ _ _ _ _ _ _ _ _ w0) ?_
   intro x1 hb0 ho1 _
   have O0 := Lib.hid (((Only.refl [] w1).drew.nil_trans ho0).nil_trans ho1)
   have HY : Hid (w1.heap.size ≤ x0.heap.size) := Lib.hid ho0.size
   generalize x0.heap.size = y at hb0 HY ⊢
   refine wpAnyG_next 16 (by kernel_rfl) (.inr (onlyC O0.out)) ?_
   intro x2 ho2
   have B0 := Lib.hid (ho2.got hb0 (by simp)); have O2 := Lib.hid (O0.out.nil_trans ho2)
   clear hb0 ho1 ho2 ho0 O0
   refine wpOp_one rfl ?_
   have kb := c_4 B0.out
   go_wp2
   simp only [nrm]
   refine wpAnyG_next 17 (by kernel_rfl) (.inl (late_of (by kernel_rfl))) ?_
   intro x3 ho3
   refine wpOp_one rfl ?_
   clear kb
   go_wp2
   simp only [nrm]
   exact wpAnyG_done (by kernel_rfl) (.inl (late_of (by kernel_rfl))) ⟨y, by simp [Act.put], HY.out, (ho3.got (setCell_got (o := 3) (.int .i64 m4) (setCell_got (o := 2) (.int .i64 m3) (setCell_got (o := 1) (.int .i64 m2) (setCell_got (o := 0) (.int .i64 m1) (B0.out))))) (by simp)), (((((O2.out).setCell (.inr HY.out) _).setCell (.inr HY.out) _).setCell (.inr HY.out) _).setCell (.inr HY.out) _).nil_trans ho3⟩
  rintro b4 w2 ⟨hbn, hb, ho⟩
  simp only [Act.put, List.setIfInBounds_toArray, List.set_cons_succ, List.set_cons_zero]
  have HN4 : Hid (w.heap.size ≤ b4) := Lib.hid (Nat.le_trans OO.out.size hbn)
  have HM4_1 : Hid (b1 ≠ b4) := Lib.hid (by omega)
  have HM4_2 : Hid (b2 ≠ b4) := Lib.hid (by omega)
  have HM4_3 : Hid (pb ≠ b4) := Lib.hid (by omega)
  clear k1 k2 k3 ct ct2 lt
  replace OO := Lib.hid (OO.out.nil_trans ho); replace B1 := Lib.hid (ho.got B1.out (by simp)); replace B2 := Lib.hid (ho.got B2.out (by simp)); replace B3 := Lib.hid (ho.got B3.out (by simp)); have B4 := Lib.hid hb
  replace HT := Lib.hid (And.intro (And.intro ((ho.cell HT.out.2 (by simp)).trans HT.out.1.1) ((ho.cell HT.out.2 (by simp)).trans HT.out.1.2)) (Nat.lt_of_lt_of_le HT.out.2 ho.size))
  replace HF := Lib.hid (HF.out.kept ho (by simp))
  clear hb ho hbn
  have k1 := c_13 B1.out; have k2 := c_4 B2.out; have k3 := c_29 B3.out; have k4 := c_4 B4.out
  have ct := HT.out.1.1; have ct2 := HT.out.1.2; have lt := HT.out.2
  go_wp2
  refine bodyPost_ret (results_none rfl _ _ _) rfl ?_
  exact ⟨rfl, ⟨B3.out, HF.out⟩, OO.out⟩
end Go.Proofs.YtikjdmbfjkbndaaGreat

/- client.prove. Conditions: those named in each theorem. -/
namespace Go.Proofs.YtikjdmbfjkbndaaGreat
open Go.RowKit

def sProve (s : Sr) (iv : Iv) (raw tol : Int) : Sr :=
 if (tripI iv (raw - s.sent) tol).2 = 0 then (if s.hp = true ∧ widI (agedC s.prf s.pat raw tol) < widI (clipI (tripI iv (raw - s.sent) tol).1) then s else { s with prf := clipI (tripI iv (raw - s.sent) tol).1, pat := raw, hp := true }) else s
set_option maxRecDepth 100000 in
set_option maxHeartbeats 40000000 in
theorem pProve {w : World} {bc pb pa pf : Nat} {s : Sr} {tol : Int} (ht : w.cell? ⟨bc, 1, none⟩ = some (.int .i64 tol)) (hlt : bc < w.heap.size) (hB : SrB w pb pa pf s) (iv : Iv) (raw : Int) (h0 : -9223372036854775808 ≤ raw - s.sent) (h1 : raw - s.sent ≤ 9223372036854775807) (hp0 : -9223372036854775808 ≤ raw - s.pat) (hp1 : raw - s.pat ≤ 9223372036854775807) (hcb : bc ≠ pb) :
  Calls Tryz.prog 43 #[.pointer (some ⟨bc, 0, none⟩), .pointer (some ⟨pb, 0, none⟩), ivV iv, .int .i64 raw] w fun e w' => e = .returned (.tuple #[]) ∧ SrB w' pb pa pf (sProve s iv raw tol) ∧ Only [pb] w w' := by
 obtain ⟨d, hd⟩ : ∃ d, raw - s.sent = d := ⟨_, rfl⟩
 have HSM : Hid (sProve s iv raw tol = if (tripI iv (raw - s.sent) tol).2 = 0 then (if s.hp = true ∧ widI (agedC s.prf s.pat raw tol) < widI (clipI (tripI iv (raw - s.sent) tol).1) then s else { s with prf := clipI (tripI iv (raw - s.sent) tol).1, pat := raw, hp := true }) else s) := Lib.hid rfl
 rw [hd] at HSM
 have a1 : IntKind.i64.wrap (raw - s.sent) = d := by rw [IntKind.wrap_i64]; omega
 generalize sProve s iv raw tol = res at HSM ⊢
 have HTR := Lib.hid (fun w' => pTrip iv d tol w')
 generalize tripI iv d tol = tr at HTR HSM
 obtain ⟨x, te⟩ := tr
 dsimp only at HTR HSM
 have HCL := Lib.hid (fun w' => pClip x w')
 generalize clipI x = cx at HCL HSM
 have HAG := Lib.hid (fun (w' : World) (h1 : w'.cell? ⟨bc, 1, none⟩ = some (.int .i64 tol)) (h2 : bc < w'.heap.size) => pCAge h1 h2 s.prf s.pat raw hp0 hp1)
 generalize agedC s.prf s.pat raw tol = ag at HAG HSM
 have HWA := Lib.hid (fun w' => pWidth ag w')
 generalize widI ag = wa at HWA HSM
 have HWC := Lib.hid (fun w' => pWidth cx w')
 generalize widI cx = wc at HWC HSM
 obtain ⟨v1, v2⟩ := iv
 obtain ⟨e1, e2⟩ := x
 obtain ⟨g1, g2⟩ := cx
 obtain ⟨o1, o2⟩ := ag
 unfold ivV at HTR HCL HAG HWA HWC ⊢
 dsimp only at HTR HCL HAG HWA HWC HSM ⊢
 unfold SrB at hB
 have HT := Lib.hid (And.intro ht hlt)
 clear ht hlt hd h0 h1 hp0 hp1
 have ob : bits .or .i64 (knI s.hr s.hp) 2 = knI s.hr true := by cases s.hr <;> cases s.hp <;> decide
 by_cases hz : te = 0
 ·subst hz
  cases hhp : s.hp with
  | false =>
   skip
   have oa : bits .and .i64 (knI s.hr s.hp) 2 = 0 := by rw [hhp]; cases s.hr <;> decide
   obtain rfl : res = { s with prf := ⟨g1, g2⟩, pat := raw, hp := true } := by have := HSM.out; simpa [hhp] using this
   clear HSM hhp
   go_enter Tryz.func43, Tryz.ntmps43
   go_upto_region 1 with (fail)
   refine alloc_abs (G := fun w0 => Code.wp _ _ _ _ w0) ?_
   intro w1 hb1 ho1 hs1
   obtain ⟨b1, hbe1⟩ : ∃ b, w.heap.size = b := ⟨_, rfl⟩
   rw [hbe1] at hb1
   rw [hbe1]
   have HN : Hid (w.heap.size ≤ b1) := Lib.hid (by omega)
   have B1 := Lib.hid hb1; have OO := Lib.hid ho1
   clear hb1 hs1 hbe1
   have B2 := Lib.hid (ho1.got hB (by simp)); have HX2 := Lib.hid (got_lt hB)
   replace OO := Lib.hid (ho1.weak (S' := [pb]) (by simp))
   replace HT := Lib.hid (And.intro ((ho1.cell HT.out.2 (by simp)).trans HT.out.1) (Nat.lt_of_lt_of_le HT.out.2 ho1.size))
   clear ho1
   have k1 := c_2 B1.out; have k2 := c_29 B2.out
   have ct := HT.out.1; have lt := HT.out.2
   go_wp2_with fail
   refine wp_region_calm3 [0, 1, 2, 3, 4, 5, 6, 7, 8, 9, 10, 11, 12, 13, 14] [15] [17] (by kernel_rfl) (by kernel_rfl) ?_
   simp only [pick, List.map_cons, List.map_nil, List.getD_cons_succ, List.getD_cons_zero]
   iterate 12 (refine wpCalmG_step (fun K hK => ?_); go_simp; refine hK _ ?_; clear hK K)
   refine wpCalmG_call (by kernel_rfl) 77 #[.agg #[.int .i64 v1, .int .i64 v2], .int .i64 d, .int .i64 0, .int .i64 tol] (fun _ => by kernel_rfl) (.tuple #[.agg #[.int .i64 e1, .int .i64 e2], .int .i64 0]) (fun w' hw' => HTR.out w') ?_
   iterate 2 (refine wpCalmG_step (fun K hK => ?_); go_simp; refine hK _ ?_; clear hK K)
   refine wpCalmG_nil ?_
   iterate 1 (refine wpCalm_step (fun K hK => ?_); go_simp; refine hK _ ?_; clear hK K)
   refine wpCalm_nil ?_
   refine RestG.by (X := Nat) (fun y a => (a.put (some 9) (.int .i64 0)).put (some 8) (.pointer (some ⟨y, 0, none⟩))) (Fresh w1 (.cells #[.int .i64 e1, .int .i64 e2] 45 (0, 0))) Fresh.on ?_ ?_
   rotate_left
   ·refine wpAnyG_next 16 (by kernel_rfl) (.inr (onlyC (Only.refl [] w1).drew)) ?_
    intro x0 ho0
    refine wpOp_one rfl ?_
    go_wp2
    simp only [nrm]
    refine alloc_abs (G := fun w0 => wpAnyG _ _ _ _ _ _ _ _ _ w0) ?_
    intro x1 hb0 ho1 _
    have O0 := Lib.hid (((Only.refl [] w1).drew.nil_trans ho0).nil_trans ho1)
    have HY : Hid (w1.heap.size ≤ x0.heap.size) := Lib.hid ho0.size
    generalize x0.heap.size = y at hb0 HY ⊢
    refine wpAnyG_next 17 (by kernel_rfl) (.inr (onlyC O0.out)) ?_
    intro x2 ho2
    have B0 := Lib.hid (ho2.got hb0 (by simp)); have O2 := Lib.hid (O0.out.nil_trans ho2)
    clear hb0 ho1 ho2 ho0 O0
    refine wpOp_one rfl ?_
    have kb := c_2 B0.out
    go_wp2
    simp only [nrm]
    refine wpAnyG_next 18 (by kernel_rfl) (.inl (late_of (by kernel_rfl))) ?_
    intro x3 ho3
    refine wpOp_one rfl ?_
    clear kb
    go_wp2
    simp only [nrm]
    exact wpAnyG_done (by kernel_rfl) (.inl (late_of (by kernel_rfl))) ⟨y, by simp [Act.put], HY.out, (ho3.got (setCell_got (o := 1) (.int .i64 e2) (setCell_got (o := 0) (.int .i64 e1) (B0.out))) (by simp)), (((O2.out).setCell (.inr HY.out) _).setCell (.inr HY.out) _).nil_trans ho3⟩
   rintro b3 w2 ⟨hbn, hb, ho⟩
   simp only [Act.put, List.setIfInBounds_toArray, List.set_cons_succ, List.set_cons_zero]
   have HN3 : Hid (w.heap.size ≤ b3) := Lib.hid (Nat.le_trans OO.out.size hbn)
   have HM3_1 : Hid (b1 ≠ b3) := Lib.hid (by omega)
   have HM3_2 : Hid (pb ≠ b3) := Lib.hid (by omega)
   clear k1 k2 ct lt
   replace OO := Lib.hid (OO.out.nil_trans ho); replace B1 := Lib.hid (ho.got B1.out (by simp)); replace B2 := Lib.hid (ho.got B2.out (by simp)); have B3 := Lib.hid hb
   replace HT := Lib.hid (And.intro ((ho.cell HT.out.2 (by simp)).trans HT.out.1) (Nat.lt_of_lt_of_le HT.out.2 ho.size))
   clear hb ho hbn
   have k1 := c_2 B1.out; have k2 := c_29 B2.out; have k3 := c_2 B3.out
   have ct := HT.out.1; have lt := HT.out.2
   go_wp2_with fail
   refine (HCL.out _).mono ?_
   rintro e w3 ⟨rfl, ho⟩
   clear k1 k2 k3 ct lt
   replace OO := Lib.hid (OO.out.nil_trans ho); replace B1 := Lib.hid (ho.got B1.out (by simp)); replace B2 := Lib.hid (ho.got B2.out (by simp)); replace B3 := Lib.hid (ho.got B3.out (by simp))
   replace HT := Lib.hid (And.intro ((ho.cell HT.out.2 (by simp)).trans HT.out.1) (Nat.lt_of_lt_of_le HT.out.2 ho.size))
   clear ho
   have k1 := c_2 B1.out; have k2 := c_29 B2.out; have k3 := c_2 B3.out
   have ct := HT.out.1; have lt := HT.out.2
   clear HT HAG HWA HWC ct lt
   go_upto_region 4 with (fail)
   refine wabs (G := fun w0 => Code.wp _ _ _ _ w0) (R := fun w4 => w4.heap[b1]? = some (.cells #[.int .i64 v1, .int .i64 v2] 45 (0, 0)) ∧ w4.heap[pb]? = some (.cells #[.pointer (some ⟨pa, 0, none⟩), .pointer (some ⟨pf, 0, none⟩), .int .i64 (knI s.hr s.hp), .int .i64 s.rc.bits, .int .i64 s.rc.poll, .int .i64 s.rc.mn, .int .i64 s.rc.mx, .int .i64 s.rc.cnt, .int .i64 s.sent, .int .i64 s.hdr.leap, .int .i64 s.hdr.ver, .int .i64 s.hdr.mode, .int .i64 s.hdr.strat, .int .i64 s.hdr.poll, .int .i64 s.hdr.prec, .int .u32 s.hdr.rdel, .int .u32 s.hdr.rdsp, .int .u32 s.hdr.rid, .int .u64 s.hdr.ref, .int .u64 s.hdr.org, .int .u64 s.hdr.rcv, .int .u64 s.hdr.xmt, .int .i64 s.rt.str, .int .i64 s.rt.dly, .int .i64 s.rt.dsp, .int .u32 s.rt.ref, .int .i64 s.prf.lo, .int .i64 s.prf.hi, .int .i64 s.pat] 108 (0, 0)) ∧ w4.heap[b3]? = some (.cells #[.int .i64 g1, .int .i64 g2] 45 (0, 0)) ∧ Only [pb] w w4) ⟨(setCell_oth (.int .i64 g2) (setCell_oth (.int .i64 g1) B1.out HM3_1.out) HM3_1.out), (setCell_oth (.int .i64 g2) (setCell_oth (.int .i64 g1) B2.out HM3_2.out) HM3_2.out), (setCell_got (o := 1) (.int .i64 g2) (setCell_got (o := 0) (.int .i64 g1) B3.out)), ((OO.out.setCell (.inr HN3.out) _).setCell (.inr HN3.out) _)⟩ ?_
   rintro w4 ⟨g1, g2, g3, ho⟩
   clear k1 k2 k3
   replace B1 := Lib.hid g1; replace B2 := Lib.hid g2; replace B3 := Lib.hid g3; replace OO := Lib.hid ho
   clear ho g1 g2 g3
   have k1 := c_2 B1.out; have k2 := c_29 B2.out; have k3 := c_2 B3.out
   go_upto_region 8 with (fail)
   refine wabs (G := fun w0 => Code.wp _ _ _ _ w0) (R := fun w5 => w5.heap[b1]? = some (.cells #[.int .i64 v1, .int .i64 v2] 45 (0, 0)) ∧ w5.heap[pb]? = some (.cells #[.pointer (some ⟨pa, 0, none⟩), .pointer (some ⟨pf, 0, none⟩), .int .i64 (knI s.hr s.hp), .int .i64 s.rc.bits, .int .i64 s.rc.poll, .int .i64 s.rc.mn, .int .i64 s.rc.mx, .int .i64 s.rc.cnt, .int .i64 s.sent, .int .i64 s.hdr.leap, .int .i64 s.hdr.ver, .int .i64 s.hdr.mode, .int .i64 s.hdr.strat, .int .i64 s.hdr.poll, .int .i64 s.hdr.prec, .int .u32 s.hdr.rdel, .int .u32 s.hdr.rdsp, .int .u32 s.hdr.rid, .int .u64 s.hdr.ref, .int .u64 s.hdr.org, .int .u64 s.hdr.rcv, .int .u64 s.hdr.xmt, .int .i64 s.rt.str, .int .i64 s.rt.dly, .int .i64 s.rt.dsp, .int .u32 s.rt.ref, .int .i64 g1, .int .i64 g2, .int .i64 raw] 108 (0, 0)) ∧ w5.heap[b3]? = some (.cells #[.int .i64 g1, .int .i64 g2] 45 (0, 0)) ∧ Only [pb] w w5) ⟨(setCell_oth (.int .i64 raw) (setCell_oth (.int .i64 g2) (setCell_oth (.int .i64 g1) B1.out (show b1 ≠ pb from (by have e1 := HN.out; have e2 := HX2.out; omega))) (show b1 ≠ pb from (by have e1 := HN.out; have e2 := HX2.out; omega))) (show b1 ≠ pb from (by have e1 := HN.out; have e2 := HX2.out; omega))), (setCell_got (o := 28) (.int .i64 raw) (setCell_got (o := 27) (.int .i64 g2) (setCell_got (o := 26) (.int .i64 g1) B2.out))), (setCell_oth (.int .i64 raw) (setCell_oth (.int .i64 g2) (setCell_oth (.int .i64 g1) B3.out HM3_2.out.symm) HM3_2.out.symm) HM3_2.out.symm), (((OO.out.setCell (.inl (by simp)) _).setCell (.inl (by simp)) _).setCell (.inl (by simp)) _)⟩ ?_
   rintro w5 ⟨g1, g2, g3, ho⟩
   clear k1 k2 k3
   replace B1 := Lib.hid g1; replace B2 := Lib.hid g2; replace B3 := Lib.hid g3; replace OO := Lib.hid ho
   clear ho g1 g2 g3
   have k1 := c_2 B1.out; have k2 := c_29 B2.out; have k3 := c_2 B3.out
   go_wp2
   go_end0
   exact ⟨rfl, setCell_got (o := 2) (.int .i64 (knI s.hr true)) B2.out, OO.out.setCell (.inl (by simp)) _⟩
  | true =>
   skip
   have oa : bits .and .i64 (knI s.hr s.hp) 2 = 2 := by rw [hhp]; cases s.hr <;> decide
   have HT0 := HT; have HCB := Lib.hid hcb
   by_cases hw : wa < wc
   ·have d1 : decide (wa < wc) = true := decide_eq_true hw
    obtain rfl : s = res := by have := HSM.out; simpa [hhp, hw] using this.symm
    clear HSM hhp
    go_enter Tryz.func43, Tryz.ntmps43
    go_upto_region 1 with (fail)
    refine alloc_abs (G := fun w0 => Code.wp _ _ _ _ w0) ?_
    intro w1 hb1 ho1 hs1
    obtain ⟨b1, hbe1⟩ : ∃ b, w.heap.size = b := ⟨_, rfl⟩
    rw [hbe1] at hb1
    rw [hbe1]
    have HN : Hid (w.heap.size ≤ b1) := Lib.hid (by omega)
    have B1 := Lib.hid hb1; have OO := Lib.hid ho1
    clear hb1 hs1 hbe1
    have B2 := Lib.hid (ho1.got hB (by simp)); have HX2 := Lib.hid (got_lt hB)
    replace OO := Lib.hid (ho1.weak (S' := [pb]) (by simp))
    replace HT := Lib.hid (And.intro ((ho1.cell HT.out.2 (by simp)).trans HT.out.1) (Nat.lt_of_lt_of_le HT.out.2 ho1.size))
    clear ho1
    have k1 := c_2 B1.out; have k2 := c_29 B2.out
    have ct := HT.out.1; have lt := HT.out.2
    go_wp2_with fail
    refine wp_region_calm3 [0, 1, 2, 3, 4, 5, 6, 7, 8, 9, 10, 11, 12, 13, 14] [15] [17] (by kernel_rfl) (by kernel_rfl) ?_
    simp only [pick, List.map_cons, List.map_nil, List.getD_cons_succ, List.getD_cons_zero]
    iterate 12 (refine wpCalmG_step (fun K hK => ?_); go_simp; refine hK _ ?_; clear hK K)
    refine wpCalmG_call (by kernel_rfl) 77 #[.agg #[.int .i64 v1, .int .i64 v2], .int .i64 d, .int .i64 0, .int .i64 tol] (fun _ => by kernel_rfl) (.tuple #[.agg #[.int .i64 e1, .int .i64 e2], .int .i64 0]) (fun w' hw' => HTR.out w') ?_
    iterate 2 (refine wpCalmG_step (fun K hK => ?_); go_simp; refine hK _ ?_; clear hK K)
    refine wpCalmG_nil ?_
    iterate 1 (refine wpCalm_step (fun K hK => ?_); go_simp; refine hK _ ?_; clear hK K)
    refine wpCalm_nil ?_
    refine RestG.by (X := Nat) (fun y a => (a.put (some 9) (.int .i64 0)).put (some 8) (.pointer (some ⟨y, 0, none⟩))) (Fresh w1 (.cells #[.int .i64 e1, .int .i64 e2] 45 (0, 0))) Fresh.on ?_ ?_
    rotate_left
    ·refine wpAnyG_next 16 (by kernel_rfl) (.inr (onlyC (Only.refl [] w1).drew)) ?_
     intro x0 ho0
     refine wpOp_one rfl ?_
     go_wp2
     simp only [nrm]
     refine alloc_abs (G := fun w0 => wpAnyG _ _ _ _ _ _ _ _ _ w0) ?_
     intro x1 hb0 ho1 _
     have O0 := Lib.hid (((Only.refl [] w1).drew.nil_trans ho0).nil_trans ho1)
     have HY : Hid (w1.heap.size ≤ x0.heap.size) := Lib.hid ho0.size
     generalize x0.heap.size = y at hb0 HY ⊢
     refine wpAnyG_next 17 (by kernel_rfl) (.inr (onlyC O0.out)) ?_
     intro x2 ho2
     have B0 := Lib.hid (ho2.got hb0 (by simp)); have O2 := Lib.hid (O0.out.nil_trans ho2)
     clear hb0 ho1 ho2 ho0 O0
     refine wpOp_one rfl ?_
     have kb := c_2 B0.out
     go_wp2
     simp only [nrm]
     refine wpAnyG_next 18 (by kernel_rfl) (.inl (late_of (by kernel_rfl))) ?_
     intro x3 ho3
     refine wpOp_one rfl ?_
     clear kb
     go_wp2
     simp only [nrm]
     exact wpAnyG_done (by kernel_rfl) (.inl (late_of (by kernel_rfl))) ⟨y, by simp [Act.put], HY.out, (ho3.got (setCell_got (o := 1) (.int .i64 e2) (setCell_got (o := 0) (.int .i64 e1) (B0.out))) (by simp)), (((O2.out).setCell (.inr HY.out) _).setCell (.inr HY.out) _).nil_trans ho3⟩
    rintro b3 w2 ⟨hbn, hb, ho⟩
    simp only [Act.put, List.setIfInBounds_toArray, List.set_cons_succ, List.set_cons_zero]
    have HN3 : Hid (w.heap.size ≤ b3) := Lib.hid (Nat.le_trans OO.out.size hbn)
    have HM3_1 : Hid (b1 ≠ b3) := Lib.hid (by omega)
    have HM3_2 : Hid (pb ≠ b3) := Lib.hid (by omega)
    clear k1 k2 ct lt
    replace OO := Lib.hid (OO.out.nil_trans ho); replace B1 := Lib.hid (ho.got B1.out (by simp)); replace B2 := Lib.hid (ho.got B2.out (by simp)); have B3 := Lib.hid hb
    replace HT := Lib.hid (And.intro ((ho.cell HT.out.2 (by simp)).trans HT.out.1) (Nat.lt_of_lt_of_le HT.out.2 ho.size))
    clear hb ho hbn
    have k1 := c_2 B1.out; have k2 := c_29 B2.out; have k3 := c_2 B3.out
    have ct := HT.out.1; have lt := HT.out.2
    go_wp2_with fail
    refine (HCL.out _).mono ?_
    rintro e w3 ⟨rfl, ho⟩
    clear k1 k2 k3 ct lt
    replace OO := Lib.hid (OO.out.nil_trans ho); replace B1 := Lib.hid (ho.got B1.out (by simp)); replace B2 := Lib.hid (ho.got B2.out (by simp)); replace B3 := Lib.hid (ho.got B3.out (by simp))
    replace HT := Lib.hid (And.intro ((ho.cell HT.out.2 (by simp)).trans HT.out.1) (Nat.lt_of_lt_of_le HT.out.2 ho.size))
    clear ho
    have k1 := c_2 B1.out; have k2 := c_29 B2.out; have k3 := c_2 B3.out
    have ct := HT.out.1; have lt := HT.out.2
    clear HT ct lt
    go_upto_region 4 with (fail)
    refine wabs (G := fun w0 => Code.wp _ _ _ _ w0) (R := fun w4 => w4.heap[b1]? = some (.cells #[.int .i64 v1, .int .i64 v2] 45 (0, 0)) ∧ w4.heap[pb]? = some (.cells #[.pointer (some ⟨pa, 0, none⟩), .pointer (some ⟨pf, 0, none⟩), .int .i64 (knI s.hr s.hp), .int .i64 s.rc.bits, .int .i64 s.rc.poll, .int .i64 s.rc.mn, .int .i64 s.rc.mx, .int .i64 s.rc.cnt, .int .i64 s.sent, .int .i64 s.hdr.leap, .int .i64 s.hdr.ver, .int .i64 s.hdr.mode, .int .i64 s.hdr.strat, .int .i64 s.hdr.poll, .int .i64 s.hdr.prec, .int .u32 s.hdr.rdel, .int .u32 s.hdr.rdsp, .int .u32 s.hdr.rid, .int .u64 s.hdr.ref, .int .u64 s.hdr.org, .int .u64 s.hdr.rcv, .int .u64 s.hdr.xmt, .int .i64 s.rt.str, .int .i64 s.rt.dly, .int .i64 s.rt.dsp, .int .u32 s.rt.ref, .int .i64 s.prf.lo, .int .i64 s.prf.hi, .int .i64 s.pat] 108 (0, 0)) ∧ w4.heap[b3]? = some (.cells #[.int .i64 g1, .int .i64 g2] 45 (0, 0)) ∧ Only [pb] w w4) ⟨(setCell_oth (.int .i64 g2) (setCell_oth (.int .i64 g1) B1.out HM3_1.out) HM3_1.out), (setCell_oth (.int .i64 g2) (setCell_oth (.int .i64 g1) B2.out HM3_2.out) HM3_2.out), (setCell_got (o := 1) (.int .i64 g2) (setCell_got (o := 0) (.int .i64 g1) B3.out)), ((OO.out.setCell (.inr HN3.out) _).setCell (.inr HN3.out) _)⟩ ?_
    rintro w4 ⟨g1, g2, g3, ho⟩
    clear k1 k2 k3
    replace B1 := Lib.hid g1; replace B2 := Lib.hid g2; replace B3 := Lib.hid g3; replace OO := Lib.hid ho
    clear ho g1 g2 g3
    have k1 := c_2 B1.out; have k2 := c_29 B2.out; have k3 := c_2 B3.out
    have HT := Lib.hid (And.intro ((OO.out.cell HT0.out.2 (by simpa using HCB.out)).trans HT0.out.1) (Nat.lt_of_lt_of_le HT0.out.2 OO.out.size))
    go_wp2_with fail
    refine wp_region_calm3 [0, 1, 2, 3, 4, 5, 6, 7, 8, 9, 10] [] [12] (by kernel_rfl) (by kernel_rfl) ?_
    simp only [pick, List.map_cons, List.map_nil, List.getD_cons_succ, List.getD_cons_zero]
    iterate 10 (refine wpCalmG_step (fun K hK => ?_); go_simp; refine hK _ ?_; clear hK K)
    refine wpCalmG_call (by kernel_rfl) 79 #[.pointer (some ⟨bc, 0, none⟩), .agg #[.int .i64 s.prf.lo, .int .i64 s.prf.hi], .int .i64 s.pat, .int .i64 raw] (fun _ => by kernel_rfl) (.agg #[.int .i64 o1, .int .i64 o2]) (fun w' hw' => HAG.out w' ((hw'.cell HT.out.2 (by simp)).trans HT.out.1) (Nat.lt_of_lt_of_le HT.out.2 hw'.size)) ?_
    refine wpCalmG_nil ?_
    refine wpCalm_nil ?_
    refine RestG.by (X := Nat) (fun y a => a.put (some 10) (.pointer (some ⟨y, 0, none⟩))) (Fresh w4 (.cells #[.int .i64 o1, .int .i64 o2] 45 (0, 0))) Fresh.on ?_ ?_
    rotate_left
    ·refine wpAnyG_next 11 (by kernel_rfl) (.inr (onlyC (Only.refl [] w4).drew)) ?_
     intro x0 ho0
     refine wpOp_one rfl ?_
     go_wp2
     simp only [nrm]
     refine alloc_abs (G := fun w0 => wpAnyG _ _ _ _ _ _ _ _ _ w0) ?_
     intro x1 hb0 ho1 _
     have O0 := Lib.hid (((Only.refl [] w4).drew.nil_trans ho0).nil_trans ho1)
     have HY : Hid (w4.heap.size ≤ x0.heap.size) := Lib.hid ho0.size
     generalize x0.heap.size = y at hb0 HY ⊢
     refine wpAnyG_next 12 (by kernel_rfl) (.inr (onlyC O0.out)) ?_
     intro x2 ho2
     have B0 := Lib.hid (ho2.got hb0 (by simp)); have O2 := Lib.hid (O0.out.nil_trans ho2)
     clear hb0 ho1 ho2 ho0 O0
     refine wpOp_one rfl ?_
     have kb := c_2 B0.out
     go_wp2
     simp only [nrm]
     exact wpAnyG_done (by kernel_rfl) (.inl (late_of (by kernel_rfl))) ⟨y, by simp, HY.out, setCell_got (o := 1) (.int .i64 o2) (setCell_got (o := 0) (.int .i64 o1) (B0.out)), ((O2.out).setCell (.inr HY.out) _).setCell (.inr HY.out) _⟩
    rintro b4 w5 ⟨hbn, hb, ho⟩
    simp only [Act.put, List.setIfInBounds_toArray, List.set_cons_succ, List.set_cons_zero]
    have HN4 : Hid (w.heap.size ≤ b4) := Lib.hid (Nat.le_trans OO.out.size hbn)
    have HM4_1 : Hid (b1 ≠ b4) := Lib.hid (by omega)
    have HM4_2 : Hid (pb ≠ b4) := Lib.hid (by omega)
    have HM4_3 : Hid (b3 ≠ b4) := Lib.hid (by omega)
    clear k1 k2 k3
    replace OO := Lib.hid (OO.out.nil_trans ho); replace B1 := Lib.hid (ho.got B1.out (by simp)); replace B2 := Lib.hid (ho.got B2.out (by simp)); replace B3 := Lib.hid (ho.got B3.out (by simp)); have B4 := Lib.hid hb
    clear hb ho hbn
    have k1 := c_2 B1.out; have k2 := c_29 B2.out; have k3 := c_2 B3.out; have k4 := c_2 B4.out
    go_wp2_with fail
    refine wp_region_grown [0, 1, 2, 3, 4] [] (by kernel_rfl) (by kernel_rfl) ?_
    simp only [pick, List.map_cons, List.map_nil, List.getD_cons_succ, List.getD_cons_zero]
    iterate 1 (refine wpQuiet_step (fun K hK => ?_); go_simp; refine hK _ ?_; clear hK K)
    refine wpQuiet_enter_w (by kernel_rfl) 80 #[.agg #[.int .i64 o1, .int .i64 o2]] (fun _ => by kernel_rfl) (.int .i64 wa) (grown_only2 (fun w' hw' => HWA.out w')) ?_
    iterate 1 (refine wpQuiet_step (fun K hK => ?_); go_simp; refine hK _ ?_; clear hK K)
    refine wpQuiet_enter_w (by kernel_rfl) 80 #[.agg #[.int .i64 g1, .int .i64 g2]] (fun _ => by kernel_rfl) (.int .i64 wc) (grown_only2 (fun w' hw' => HWC.out w')) ?_
    iterate 1 (refine wpQuiet_step (fun K hK => ?_); go_simp; refine hK _ ?_; clear hK K)
    refine wpQuiet_nil ?_
    intro w6 hw
    have ho := only_of_plus hw
    clear hw
    clear k1 k2 k3 k4
    replace OO := Lib.hid (OO.out.nil_trans ho); replace B1 := Lib.hid (ho.got B1.out (by simp)); replace B2 := Lib.hid (ho.got B2.out (by simp)); replace B3 := Lib.hid (ho.got B3.out (by simp)); replace B4 := Lib.hid (ho.got B4.out (by simp))
    have k1 := c_2 B1.out; have k2 := c_29 B2.out; have k3 := c_2 B3.out; have k4 := c_2 B4.out
    clear ho
    go_wp2
    refine bodyPost_ret (results_none rfl _ _ _) rfl ?_
    exact ⟨rfl, B2.out, OO.out⟩
   ·have d1 : decide (wa < wc) = false := decide_eq_false hw
    obtain rfl : res = { s with prf := ⟨g1, g2⟩, pat := raw, hp := true } := by have := HSM.out; simpa [hhp, hw] using this
    clear HSM hhp
    go_enter Tryz.func43, Tryz.ntmps43
    go_upto_region 1 with (fail)
    refine alloc_abs (G := fun w0 => Code.wp _ _ _ _ w0) ?_
    intro w1 hb1 ho1 hs1
    obtain ⟨b1, hbe1⟩ : ∃ b, w.heap.size = b := ⟨_, rfl⟩
    rw [hbe1] at hb1
    rw [hbe1]
    have HN : Hid (w.heap.size ≤ b1) := Lib.hid (by omega)
    have B1 := Lib.hid hb1; have OO := Lib.hid ho1
    clear hb1 hs1 hbe1
    have B2 := Lib.hid (ho1.got hB (by simp)); have HX2 := Lib.hid (got_lt hB)
    replace OO := Lib.hid (ho1.weak (S' := [pb]) (by simp))
    replace HT := Lib.hid (And.intro ((ho1.cell HT.out.2 (by simp)).trans HT.out.1) (Nat.lt_of_lt_of_le HT.out.2 ho1.size))
    clear ho1
    have k1 := c_2 B1.out; have k2 := c_29 B2.out
    have ct := HT.out.1; have lt := HT.out.2
    go_wp2_with fail
    refine wp_region_calm3 [0, 1, 2, 3, 4, 5, 6, 7, 8, 9, 10, 11, 12, 13, 14] [15] [17] (by kernel_rfl) (by kernel_rfl) ?_
    simp only [pick, List.map_cons, List.map_nil, List.getD_cons_succ, List.getD_cons_zero]
    iterate 12 (refine wpCalmG_step (fun K hK => ?_); go_simp; refine hK _ ?_; clear hK K)
    refine wpCalmG_call (by kernel_rfl) 77 #[.agg #[.int .i64 v1, .int .i64 v2], .int .i64 d, .int .i64 0, .int .i64 tol] (fun _ => by kernel_rfl) (.tuple #[.agg #[.int .i64 e1, .int .i64 e2], .int .i64 0]) (fun w' hw' => HTR.out w') ?_
    iterate 2 (refine wpCalmG_step (fun K hK => ?_); go_simp; refine hK _ ?_; clear hK K)
    refine wpCalmG_nil ?_
    iterate 1 (refine wpCalm_step (fun K hK => ?_); go_simp; refine hK _ ?_; clear hK K)
    refine wpCalm_nil ?_
    refine RestG.by (X := Nat) (fun y a => (a.put (some 9) (.int .i64 0)).put (some 8) (.pointer (some ⟨y, 0, none⟩))) (Fresh w1 (.cells #[.int .i64 e1, .int .i64 e2] 45 (0, 0))) Fresh.on ?_ ?_
    rotate_left
    ·refine wpAnyG_next 16 (by kernel_rfl) (.inr (onlyC (Only.refl [] w1).drew)) ?_
     intro x0 ho0
     refine wpOp_one rfl ?_
     go_wp2
     simp only [nrm]
     refine alloc_abs (G := fun w0 => wpAnyG _ _ _ _ _ _ _ _ _ w0) ?_
     intro x1 hb0 ho1 _
     have O0 := Lib.hid (((Only.refl [] w1).drew.nil_trans ho0).nil_trans ho1)
     have HY : Hid (w1.heap.size ≤ x0.heap.size) := Lib.hid ho0.size
     generalize x0.heap.size = y at hb0 HY ⊢
     refine wpAnyG_next 17 (by kernel_rfl) (.inr (onlyC O0.out)) ?_
     intro x2 ho2
     have B0 := Lib.hid (ho2.got hb0 (by simp)); have O2 := Lib.hid (O0.out.nil_trans ho2)
     clear hb0 ho1 ho2 ho0 O0
     refine wpOp_one rfl ?_
     have kb := c_2 B0.out
     go_wp2
     simp only [nrm]
     refine wpAnyG_next 18 (by kernel_rfl) (.inl (late_of (by kernel_rfl))) ?_
     intro x3 ho3
     refine wpOp_one rfl ?_
     clear kb
     go_wp2
     simp only [nrm]
     exact wpAnyG_done (by kernel_rfl) (.inl (late_of (by kernel_rfl))) ⟨y, by simp [Act.put], HY.out, (ho3.got (setCell_got (o := 1) (.int .i64 e2) (setCell_got (o := 0) (.int .i64 e1) (B0.out))) (by simp)), (((O2.out).setCell (.inr HY.out) _).setCell (.inr HY.out) _).nil_trans ho3⟩
    rintro b3 w2 ⟨hbn, hb, ho⟩
    simp only [Act.put, List.setIfInBounds_toArray, List.set_cons_succ, List.set_cons_zero]
    have HN3 : Hid (w.heap.size ≤ b3) := Lib.hid (Nat.le_trans OO.out.size hbn)
    have HM3_1 : Hid (b1 ≠ b3) := Lib.hid (by omega)
    have HM3_2 : Hid (pb ≠ b3) := Lib.hid (by omega)
    clear k1 k2 ct lt
    replace OO := Lib.hid (OO.out.nil_trans ho); replace B1 := Lib.hid (ho.got B1.out (by simp)); replace B2 := Lib.hid (ho.got B2.out (by simp)); have B3 := Lib.hid hb
    replace HT := Lib.hid (And.intro ((ho.cell HT.out.2 (by simp)).trans HT.out.1) (Nat.lt_of_lt_of_le HT.out.2 ho.size))
    clear hb ho hbn
    have k1 := c_2 B1.out; have k2 := c_29 B2.out; have k3 := c_2 B3.out
    have ct := HT.out.1; have lt := HT.out.2
    go_wp2_with fail
    refine (HCL.out _).mono ?_
    rintro e w3 ⟨rfl, ho⟩
    clear k1 k2 k3 ct lt
    replace OO := Lib.hid (OO.out.nil_trans ho); replace B1 := Lib.hid (ho.got B1.out (by simp)); replace B2 := Lib.hid (ho.got B2.out (by simp)); replace B3 := Lib.hid (ho.got B3.out (by simp))
    replace HT := Lib.hid (And.intro ((ho.cell HT.out.2 (by simp)).trans HT.out.1) (Nat.lt_of_lt_of_le HT.out.2 ho.size))
    clear ho
    have k1 := c_2 B1.out; have k2 := c_29 B2.out; have k3 := c_2 B3.out
    have ct := HT.out.1; have lt := HT.out.2
    clear HT ct lt
    go_upto_region 4 with (fail)
    refine wabs (G := fun w0 => Code.wp _ _ _ _ w0) (R := fun w4 => w4.heap[b1]? = some (.cells #[.int .i64 v1, .int .i64 v2] 45 (0, 0)) ∧ w4.heap[pb]? = some (.cells #[.pointer (some ⟨pa, 0, none⟩), .pointer (some ⟨pf, 0, none⟩), .int .i64 (knI s.hr s.hp), .int .i64 s.rc.bits, .int .i64 s.rc.poll, .int .i64 s.rc.mn, .int .i64 s.rc.mx, .int .i64 s.rc.cnt, .int .i64 s.sent, .int .i64 s.hdr.leap, .int .i64 s.hdr.ver, .int .i64 s.hdr.mode, .int .i64 s.hdr.strat, .int .i64 s.hdr.poll, .int .i64 s.hdr.prec, .int .u32 s.hdr.rdel, .int .u32 s.hdr.rdsp, .int .u32 s.hdr.rid, .int .u64 s.hdr.ref, .int .u64 s.hdr.org, .int .u64 s.hdr.rcv, .int .u64 s.hdr.xmt, .int .i64 s.rt.str, .int .i64 s.rt.dly, .int .i64 s.rt.dsp, .int .u32 s.rt.ref, .int .i64 s.prf.lo, .int .i64 s.prf.hi, .int .i64 s.pat] 108 (0, 0)) ∧ w4.heap[b3]? = some (.cells #[.int .i64 g1, .int .i64 g2] 45 (0, 0)) ∧ Only [pb] w w4) ⟨(setCell_oth (.int .i64 g2) (setCell_oth (.int .i64 g1) B1.out HM3_1.out) HM3_1.out), (setCell_oth (.int .i64 g2) (setCell_oth (.int .i64 g1) B2.out HM3_2.out) HM3_2.out), (setCell_got (o := 1) (.int .i64 g2) (setCell_got (o := 0) (.int .i64 g1) B3.out)), ((OO.out.setCell (.inr HN3.out) _).setCell (.inr HN3.out) _)⟩ ?_
    rintro w4 ⟨g1, g2, g3, ho⟩
    clear k1 k2 k3
    replace B1 := Lib.hid g1; replace B2 := Lib.hid g2; replace B3 := Lib.hid g3; replace OO := Lib.hid ho
    clear ho g1 g2 g3
    have k1 := c_2 B1.out; have k2 := c_29 B2.out; have k3 := c_2 B3.out
    have HT := Lib.hid (And.intro ((OO.out.cell HT0.out.2 (by simpa using HCB.out)).trans HT0.out.1) (Nat.lt_of_lt_of_le HT0.out.2 OO.out.size))
    go_wp2_with fail
    refine wp_region_calm3 [0, 1, 2, 3, 4, 5, 6, 7, 8, 9, 10] [] [12] (by kernel_rfl) (by kernel_rfl) ?_
    simp only [pick, List.map_cons, List.map_nil, List.getD_cons_succ, List.getD_cons_zero]
    iterate 10 (refine wpCalmG_step (fun K hK => ?_); go_simp; refine hK _ ?_; clear hK K)
    refine wpCalmG_call (by kernel_rfl) 79 #[.pointer (some ⟨bc, 0, none⟩), .agg #[.int .i64 s.prf.lo, .int .i64 s.prf.hi], .int .i64 s.pat, .int .i64 raw] (fun _ => by kernel_rfl) (.agg #[.int .i64 o1, .int .i64 o2]) (fun w' hw' => HAG.out w' ((hw'.cell HT.out.2 (by simp)).trans HT.out.1) (Nat.lt_of_lt_of_le HT.out.2 hw'.size)) ?_
    refine wpCalmG_nil ?_
    refine wpCalm_nil ?_
    refine RestG.by (X := Nat) (fun y a => a.put (some 10) (.pointer (some ⟨y, 0, none⟩))) (Fresh w4 (.cells #[.int .i64 o1, .int .i64 o2] 45 (0, 0))) Fresh.on ?_ ?_
    rotate_left
    ·refine wpAnyG_next 11 (by kernel_rfl) (.inr (onlyC (Only.refl [] w4).drew)) ?_
     intro x0 ho0
     refine wpOp_one rfl ?_
     go_wp2
     simp only [nrm]
     refine alloc_abs (G := fun w0 => wpAnyG _ _ _ _ _ _ _ _ _ w0) ?_
     intro x1 hb0 ho1 _
     have O0 := Lib.hid (((Only.refl [] w4).drew.nil_trans ho0).nil_trans ho1)
     have HY : Hid (w4.heap.size ≤ x0.heap.size) := Lib.hid ho0.size
     generalize x0.heap.size = y at hb0 HY ⊢
     refine wpAnyG_next 12 (by kernel_rfl) (.inr (onlyC O0.out)) ?_
     intro x2 ho2
     have B0 := Lib.hid (ho2.got hb0 (by simp)); have O2 := Lib.hid (O0.out.nil_trans ho2)
     clear hb0 ho1 ho2 ho0 O0
     refine wpOp_one rfl ?_
     have kb := c_2 B0.out
     go_wp2
     simp only [nrm]
     exact wpAnyG_done (by kernel_rfl) (.inl (late_of (by kernel_rfl))) ⟨y, by simp, HY.out, setCell_got (o := 1) (.int .i64 o2) (setCell_got (o := 0) (.int .i64 o1) (B0.out)), ((O2.out).setCell (.inr HY.out) _).setCell (.inr HY.out) _⟩
    rintro b4 w5 ⟨hbn, hb, ho⟩
    simp only [Act.put, List.setIfInBounds_toArray, List.set_cons_succ, List.set_cons_zero]
    have HN4 : Hid (w.heap.size ≤ b4) := Lib.hid (Nat.le_trans OO.out.size hbn)
    have HM4_1 : Hid (b1 ≠ b4) := Lib.hid (by omega)
    have HM4_2 : Hid (pb ≠ b4) := Lib.hid (by omega)
    have HM4_3 : Hid (b3 ≠ b4) := Lib.hid (by omega)
    clear k1 k2 k3
    replace OO := Lib.hid (OO.out.nil_trans ho); replace B1 := Lib.hid (ho.got B1.out (by simp)); replace B2 := Lib.hid (ho.got B2.out (by simp)); replace B3 := Lib.hid (ho.got B3.out (by simp)); have B4 := Lib.hid hb
    clear hb ho hbn
    have k1 := c_2 B1.out; have k2 := c_29 B2.out; have k3 := c_2 B3.out; have k4 := c_2 B4.out
    go_wp2_with fail
    refine wp_region_grown [0, 1, 2, 3, 4] [] (by kernel_rfl) (by kernel_rfl) ?_
    simp only [pick, List.map_cons, List.map_nil, List.getD_cons_succ, List.getD_cons_zero]
    iterate 1 (refine wpQuiet_step (fun K hK => ?_); go_simp; refine hK _ ?_; clear hK K)
    refine wpQuiet_enter_w (by kernel_rfl) 80 #[.agg #[.int .i64 o1, .int .i64 o2]] (fun _ => by kernel_rfl) (.int .i64 wa) (grown_only2 (fun w' hw' => HWA.out w')) ?_
    iterate 1 (refine wpQuiet_step (fun K hK => ?_); go_simp; refine hK _ ?_; clear hK K)
    refine wpQuiet_enter_w (by kernel_rfl) 80 #[.agg #[.int .i64 g1, .int .i64 g2]] (fun _ => by kernel_rfl) (.int .i64 wc) (grown_only2 (fun w' hw' => HWC.out w')) ?_
    iterate 1 (refine wpQuiet_step (fun K hK => ?_); go_simp; refine hK _ ?_; clear hK K)
    refine wpQuiet_nil ?_
    intro w6 hw
    have ho := only_of_plus hw
    clear hw
    clear k1 k2 k3 k4
    replace OO := Lib.hid (OO.out.nil_trans ho); replace B1 := Lib.hid (ho.got B1.out (by simp)); replace B2 := Lib.hid (ho.got B2.out (by simp)); replace B3 := Lib.hid (ho.got B3.out (by simp)); replace B4 := Lib.hid (ho.got B4.out (by simp))
    have k1 := c_2 B1.out; have k2 := c_29 B2.out; have k3 := c_2 B3.out; have k4 := c_2 B4.out
    clear ho
    go_upto_region 8 with (fail)
    refine wabs (G := fun w0 => Code.wp _ _ _ _ w0) (R := fun w7 => w7.heap[b1]? = some (.cells #[.int .i64 v1, .int .i64 v2] 45 (0, 0)) ∧ w7.heap[pb]? = some (.cells #[.pointer (some ⟨pa, 0, none⟩), .pointer (some ⟨pf, 0, none⟩), .int .i64 (knI s.hr s.hp), .int .i64 s.rc.bits, .int .i64 s.rc.poll, .int .i64 s.rc.mn, .int .i64 s.rc.mx, .int .i64 s.rc.cnt, .int .i64 s.sent, .int .i64 s.hdr.leap, .int .i64 s.hdr.ver, .int .i64 s.hdr.mode, .int .i64 s.hdr.strat, .int .i64 s.hdr.poll, .int .i64 s.hdr.prec, .int .u32 s.hdr.rdel, .int .u32 s.hdr.rdsp, .int .u32 s.hdr.rid, .int .u64 s.hdr.ref, .int .u64 s.hdr.org, .int .u64 s.hdr.rcv, .int .u64 s.hdr.xmt, .int .i64 s.rt.str, .int .i64 s.rt.dly, .int .i64 s.rt.dsp, .int .u32 s.rt.ref, .int .i64 g1, .int .i64 g2, .int .i64 raw] 108 (0, 0)) ∧ w7.heap[b3]? = some (.cells #[.int .i64 g1, .int .i64 g2] 45 (0, 0)) ∧ w7.heap[b4]? = some (.cells #[.int .i64 o1, .int .i64 o2] 45 (0, 0)) ∧ Only [pb] w w7) ⟨(setCell_oth (.int .i64 raw) (setCell_oth (.int .i64 g2) (setCell_oth (.int .i64 g1) B1.out (show b1 ≠ pb from (by have e1 := HN.out; have e2 := HX2.out; omega))) (show b1 ≠ pb from (by have e1 := HN.out; have e2 := HX2.out; omega))) (show b1 ≠ pb from (by have e1 := HN.out; have e2 := HX2.out; omega))), (setCell_got (o := 28) (.int .i64 raw) (setCell_got (o := 27) (.int .i64 g2) (setCell_got (o := 26) (.int .i64 g1) B2.out))), (setCell_oth (.int .i64 raw) (setCell_oth (.int .i64 g2) (setCell_oth (.int .i64 g1) B3.out HM3_2.out.symm) HM3_2.out.symm) HM3_2.out.symm), (setCell_oth (.int .i64 raw) (setCell_oth (.int .i64 g2) (setCell_oth (.int .i64 g1) B4.out HM4_2.out.symm) HM4_2.out.symm) HM4_2.out.symm), (((OO.out.setCell (.inl (by simp)) _).setCell (.inl (by simp)) _).setCell (.inl (by simp)) _)⟩ ?_
    rintro w7 ⟨g1, g2, g3, g4, ho⟩
    clear k1 k2 k3 k4
    replace B1 := Lib.hid g1; replace B2 := Lib.hid g2; replace B3 := Lib.hid g3; replace B4 := Lib.hid g4; replace OO := Lib.hid ho
    clear ho g1 g2 g3 g4
    have k1 := c_2 B1.out; have k2 := c_29 B2.out; have k3 := c_2 B3.out; have k4 := c_2 B4.out
    go_wp2
    go_end0
    exact ⟨rfl, setCell_got (o := 2) (.int .i64 (knI s.hr true)) B2.out, OO.out.setCell (.inl (by simp)) _⟩
 ·have q1 : (te != 0) = true := by simpa using hz
  obtain rfl : s = res := by have := HSM.out; simpa [hz] using this.symm
  clear HSM HCL HAG HWA HWC
  go_enter Tryz.func43, Tryz.ntmps43
  go_upto_region 1 with (fail)
  refine alloc_abs (G := fun w0 => Code.wp _ _ _ _ w0) ?_
  intro w1 hb1 ho1 hs1
  obtain ⟨b1, hbe1⟩ : ∃ b, w.heap.size = b := ⟨_, rfl⟩
  rw [hbe1] at hb1
  rw [hbe1]
  have HN : Hid (w.heap.size ≤ b1) := Lib.hid (by omega)
  have B1 := Lib.hid hb1; have OO := Lib.hid ho1
  clear hb1 hs1 hbe1
  have B2 := Lib.hid (ho1.got hB (by simp)); have HX2 := Lib.hid (got_lt hB)
  replace OO := Lib.hid (ho1.weak (S' := [pb]) (by simp))
  replace HT := Lib.hid (And.intro ((ho1.cell HT.out.2 (by simp)).trans HT.out.1) (Nat.lt_of_lt_of_le HT.out.2 ho1.size))
  clear ho1
  have k1 := c_2 B1.out; have k2 := c_29 B2.out
  have ct := HT.out.1; have lt := HT.out.2
  go_wp2_with fail
  refine wp_region_calm3 [0, 1, 2, 3, 4, 5, 6, 7, 8, 9, 10, 11, 12, 13, 14] [15] [17] (by kernel_rfl) (by kernel_rfl) ?_
  simp only [pick, List.map_cons, List.map_nil, List.getD_cons_succ, List.getD_cons_zero]
  iterate 12 (refine wpCalmG_step (fun K hK => ?_); go_simp; refine hK _ ?_; clear hK K)
  refine wpCalmG_call (by kernel_rfl) 77 #[.agg #[.int .i64 v1, .int .i64 v2], .int .i64 d, .int .i64 0, .int .i64 tol] (fun _ => by kernel_rfl) (.tuple #[.agg #[.int .i64 e1, .int .i64 e2], .int .i64 te]) (fun w' hw' => HTR.out w') ?_
  iterate 2 (refine wpCalmG_step (fun K hK => ?_); go_simp; refine hK _ ?_; clear hK K)
  refine wpCalmG_nil ?_
  iterate 1 (refine wpCalm_step (fun K hK => ?_); go_simp; refine hK _ ?_; clear hK K)
  refine wpCalm_nil ?_
  refine RestG.by (X := Nat) (fun y a => (a.put (some 9) (.int .i64 te)).put (some 8) (.pointer (some ⟨y, 0, none⟩))) (Fresh w1 (.cells #[.int .i64 e1, .int .i64 e2] 45 (0, 0))) Fresh.on ?_ ?_
  rotate_left
  ·refine wpAnyG_next 16 (by kernel_rfl) (.inr (onlyC (Only.refl [] w1).drew)) ?_
   intro x0 ho0
   refine wpOp_one rfl ?_
   go_wp2
   simp only [nrm]
   refine alloc_abs (G := fun w0 => wpAnyG _ _ _ _ _ _ _ _ _ w0) ?_
   intro x1 hb0 ho1 _
   have O0 := Lib.hid (((Only.refl [] w1).drew.nil_trans ho0).nil_trans ho1)
   have HY : Hid (w1.heap.size ≤ x0.heap.size) := Lib.hid ho0.size
   generalize x0.heap.size = y at hb0 HY ⊢
   refine wpAnyG_next 17 (by kernel_rfl) (.inr (onlyC O0.out)) ?_
   intro x2 ho2
   have B0 := Lib.hid (ho2.got hb0 (by simp)); have O2 := Lib.hid (O0.out.nil_trans ho2)
   clear hb0 ho1 ho2 ho0 O0
   refine wpOp_one rfl ?_
   have kb := c_2 B0.out
   go_wp2
   simp only [nrm]
   refine wpAnyG_next 18 (by kernel_rfl) (.inl (late_of (by kernel_rfl))) ?_
   intro x3 ho3
   refine wpOp_one rfl ?_
   clear kb
   go_wp2
   simp only [nrm]
   exact wpAnyG_done (by kernel_rfl) (.inl (late_of (by kernel_rfl))) ⟨y, by simp [Act.put], HY.out, (ho3.got (setCell_got (o := 1) (.int .i64 e2) (setCell_got (o := 0) (.int .i64 e1) (B0.out))) (by simp)), (((O2.out).setCell (.inr HY.out) _).setCell (.inr HY.out) _).nil_trans ho3⟩
  rintro b3 w2 ⟨hbn, hb, ho⟩
  simp only [Act.put, List.setIfInBounds_toArray, List.set_cons_succ, List.set_cons_zero]
  have HN3 : Hid (w.heap.size ≤ b3) := Lib.hid (Nat.le_trans OO.out.size hbn)
  have HM3_1 : Hid (b1 ≠ b3) := Lib.hid (by omega)
  have HM3_2 : Hid (pb ≠ b3) := Lib.hid (by omega)
  clear k1 k2 ct lt
  replace OO := Lib.hid (OO.out.nil_trans ho); replace B1 := Lib.hid (ho.got B1.out (by simp)); replace B2 := Lib.hid (ho.got B2.out (by simp)); have B3 := Lib.hid hb
  replace HT := Lib.hid (And.intro ((ho.cell HT.out.2 (by simp)).trans HT.out.1) (Nat.lt_of_lt_of_le HT.out.2 ho.size))
  clear hb ho hbn
  have k1 := c_2 B1.out; have k2 := c_29 B2.out; have k3 := c_2 B3.out
  have ct := HT.out.1; have lt := HT.out.2
  go_wp2
  refine bodyPost_ret (results_none rfl _ _ _) rfl ?_
  exact ⟨rfl, B2.out, OO.out⟩
end Go.Proofs.YtikjdmbfjkbndaaGreat

/- One server is put back into the client. Conditions: those named in each theorem. -/
namespace Go.Proofs.YtikjdmbfjkbndaaGreat
open Go.RowKit

theorem flat_apart {α β : Type} {f : α → List β} : ∀ {l : List α} {i j : Nat} (hi : i < l.length) (hj : j < l.length), (l.flatMap f).Nodup → i ≠ j → ∀ x ∈ f l[i], x ∉ f l[j]
 | [], i, _, hi, _, _, _, _, _ => absurd hi (by simp)
 | a :: l, 0, 0, _, _, _, hne, _, _ => absurd rfl hne
 | a :: l, 0, j + 1, _, hj, h, _, x, hx => fun hm => by
  rw [List.flatMap_cons, List.nodup_append] at h
  have hj' : j < l.length := by simpa using hj
  exact h.2.2 x (by simpa using hx) x (List.mem_flatMap.2 ⟨l[j], List.getElem_mem hj', by simpa using hm⟩) rfl
 | a :: l, i + 1, 0, hi, _, h, _, x, hx => fun hm => by
  rw [List.flatMap_cons, List.nodup_append] at h
  have hi' : i < l.length := by simpa using hi
  exact h.2.2 x (by simpa using hm) x (List.mem_flatMap.2 ⟨l[i], List.getElem_mem hi', by simpa using hx⟩) rfl
 | a :: l, i + 1, j + 1, hi, hj, h, hne, x, hx => by
  rw [List.flatMap_cons, List.nodup_append] at h
  have := flat_apart (f := f) (l := l) (i := i) (j := j) (by simpa using hi) (by simpa using hj) h.2.1 (by omega) x (by simpa using hx)
  simpa using this
theorem ClAt.putS {w w' : World} {P : Pl} {c : Cl} {S : List Nat} {s' : Sr} (h : ClAt w P c) (i : Nat) (hi : i < P.ps.length) (ho : Only S w w') (hS : ∀ x ∈ S, x ∈ [P.ps[i].1, P.ps[i].2.1, P.ps[i].2.2]) (hs : SrAt w' P.ps[i] s') : ClAt w' P { c with srcs := c.srcs.set i s' } := by
 have hnd := h.nd
 unfold Pl.all at hnd
 simp only [List.nodup_cons, List.mem_cons, not_or] at hnd
 obtain ⟨⟨n1, n2, n3, n4⟩, ⟨n5, n6, n7⟩, ⟨n8, n9⟩, n10, n11⟩ := hnd
 have key : ∀ b, b ∉ (P.ps.flatMap fun p => [p.1, p.2.1, p.2.2]) → b ∉ S := fun b hb hm => hb (List.mem_flatMap.2 ⟨P.ps[i], List.getElem_mem hi, hS b hm⟩)
 refine ⟨ho.got h.cl (key _ n4), ho.got h.ck (key _ n7), ho.got h.sv (key _ n9), h.row.kept ho (key _ n10), by simpa using h.len, ?_, h.nd, fun b hb => Nat.lt_of_lt_of_le (h.lt b hb) ho.size⟩
 intro j hj hj'
 by_cases e : i = j
 ·subst e
  simpa using hs
 ·have hjc : j < c.srcs.length := h.len ▸ hj
  have ap : ∀ x ∈ [P.ps[j].1, P.ps[j].2.1, P.ps[j].2.2], x ∉ S := fun x hx hm => flat_apart (f := fun p : Nat × Nat × Nat => [p.1, p.2.1, p.2.2]) hj hi n11 (Ne.symm e) x hx (hS x hm)
  have := (h.src j hj hjc).kept ho (ap _ (by simp)) (ap _ (by simp)) (ap _ (by simp))
  simpa [List.getElem_set_ne e] using this
end Go.Proofs.YtikjdmbfjkbndaaGreat

/- client.Receive: the plain part. Conditions: those named in each theorem. -/
namespace Go.Proofs.YtikjdmbfjkbndaaGreat
open Go.RowKit

/-- a server that has been answered -/
def sHit (s : Sr) (a : As) : Sr := { s with sa := a, rc := { s.rc with bits := bits .or .i64 s.rc.bits 1 } }
/-- a server behind a reply: the outcome, and the server -/
def sRecv (s : Sr) (i : Int) (p : Np) (iv : Iv) (has : Bool) (raw now prec tol : Int) : Hd × Sr :=
 if (aRecv s.sa p now).1.kind = 4 then ((aRecv s.sa p now).1, { s with sa := (aRecv s.sa p now).2, rc := rback s.rc })
 else if (aRecv s.sa p now).1.kind = 7 then
  ((aRecv s.sa p now).1, sMeas (if has = true then sProve (sHit s (aRecv s.sa p now).2) iv raw tol else sHit s (aRecv s.sa p now).2) (i + 1) p (aRecv s.sa p now).1.q prec tol)
 else ((aRecv s.sa p now).1, { s with sa := (aRecv s.sa p now).2 })
end Go.Proofs.YtikjdmbfjkbndaaGreat
