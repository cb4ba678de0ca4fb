/- Texts of one chain: De, Df. Conditions: those named in each theorem. -/
import Derived.Test.YtikjdmbfjkbndaaGreatVf
/- client.Receive. Conditions: those named in each theorem. -/
namespace Go.Proofs.YtikjdmbfjkbndaaGreat
open Go.RowKit

theorem sProve_same (s : Sr) (iv : Iv) (raw tol : Int) : (sProve s iv raw tol).sa = s.sa ∧ (sProve s iv raw tol).fl = s.fl := by
 unfold sProve
 split
 ·split <;> exact ⟨rfl, rfl⟩
 ·exact ⟨rfl, rfl⟩
theorem sMeas_same (s : Sr) (i : Int) (p : Np) (q : Qd) (prec tol : Int) : (sMeas s i p q prec tol).sa = s.sa := by
 unfold sMeas
 split
 ·split <;> rfl
 ·rfl
set_option maxRecDepth 100000 in
set_option maxHeartbeats 8000000 in
theorem pClRecv {w : World} {P : Pl} {c : Cl} (h : ClAt w P c) (hok : CkOk c.ck) (raw : Int) (h0 : -9223372036854775808 ≤ raw) (h1 : raw ≤ 9223372036854775807) (i : Nat) (hi : i < P.ps.length) (hi2 : (i : Int) ≤ 100) (he : (clEnter c raw).2.1 = 0) (p : Np) (hpo : npOk p) (iv : Iv) (has : Bool)
  (hw1 : -9223372036854775808 ≤ raw - (c.srcs[i]'(h.len ▸ hi)).sent ∧ raw - (c.srcs[i]'(h.len ▸ hi)).sent ≤ 9223372036854775807) (hw2 : -9223372036854775808 ≤ raw - (c.srcs[i]'(h.len ▸ hi)).pat ∧ raw - (c.srcs[i]'(h.len ▸ hi)).pat ≤ 9223372036854775807) :
  Calls Tryz.prog 13 #[.pointer (some ⟨P.bc, 0, none⟩), .int .i64 i, npV p, ivV iv, .bool has, .int .i64 raw] w fun e w' => ∃ (hi' : i < c.srcs.length), e = .returned (.tuple #[hdV (sRecv c.srcs[i] i p iv has raw (clEnter c raw).1 c.cf.prec c.cf.tol).1, .int .i64 0]) ∧ (ClB w' P (clEnter c raw).2.2 ∧ SrAt w' P.ps[i] (sRecv c.srcs[i] i p iv has raw (clEnter c raw).1 c.cf.prec c.cf.tol).2) ∧ Only [P.bc, P.ps[i].1, P.ps[i].2.1, P.ps[i].2.2] w w' := by
 obtain ⟨pb, pa, pf, hp⟩ : ∃ pb pa pf, P.ps[i] = (pb, pa, pf) := ⟨_, _, _, rfl⟩
 have hic : i < c.srcs.length := h.len ▸ hi
 obtain ⟨s, hs⟩ : ∃ s, c.srcs[i] = s := ⟨_, rfl⟩
 have hsr := h.src i hi hic
 rw [hp, hs] at hsr
 obtain ⟨hB, hA, hF⟩ := hsr
 dsimp only at hB hA hF
 have hnd := h.nd
 unfold Pl.all at hnd
 simp only [List.nodup_cons, List.mem_cons, not_or] at hnd
 obtain ⟨⟨n1, n2, n3, n4⟩, ⟨n5, n6, n7⟩, ⟨n8, n9⟩, n10, n11⟩ := hnd
 have key : ∀ x ∈ [pb, pa, pf], x ∈ P.ps.flatMap fun p => [p.1, p.2.1, p.2.2] := fun x hx => List.mem_flatMap.2 ⟨P.ps[i], List.getElem_mem hi, by rw [hp]; exact hx⟩
 have h23 : P.bc ≠ pb := fun e => n4 (e ▸ key pb (by simp))
 have h24 : P.bc ≠ pa := fun e => n4 (e ▸ key pa (by simp))
 have hap := nodup_of_flat n11 (List.getElem_mem hi)
 rw [hp] at hap
 simp only [List.nodup_cons, List.mem_cons, not_or, List.not_mem_nil, or_false, not_false_eq_true, and_true, List.nodup_nil] at hap
 have h34 : pb ≠ pa := hap.1.1
 have HPF : Hid (pb ≠ pf ∧ P.bc ≠ pf ∧ pa ≠ pf ∧ pf < w.heap.size) := Lib.hid ⟨hap.1.2, fun e => n4 (e ▸ key pf (by simp)), hap.2, h.lt _ (by unfold Pl.all; simp only [List.mem_cons]; exact .inr (.inr (.inr (.inr (key pf (by simp))))))⟩
 have HFF := Lib.hid hF
 have HY4_5 := Lib.hid h23; have HY4_6 := Lib.hid h24; have HY5_6 := Lib.hid h34
 clear key n1 n2 n3 n4 n5 n6 n7 n8 n9 n10 n11 h23 h24 h34 hap hF
 have hl := h.cl
 unfold ClB at hl
 unfold SrB at hB
 obtain ⟨c0, c1, c2, c3, c4, c5, c6, c7, hA⟩ := hA
 have HE1 := Lib.hid (fun (w' : World) (hw : ClAt w' P c) => pClEnter hw hok raw h0 h1)
 have HQ := Lib.hid (clEnter_same c raw)
 have HQC : Hid ((clEnter c raw).2.2.cf = c.cf) := Lib.hid (by unfold clEnter; split <;> rfl)
 generalize clEnter c raw = en at HE1 HQ HQC he ⊢
 obtain ⟨nv, ne, c'⟩ := en
 dsimp only at HE1 HQ HQC he ⊢
 rw [← HQC.out]
 have hlen := h.len
 have hn12 : P.ps.length ≤ 9223372036854775807 := by
  obtain ⟨cur, _, _, g1, g2, _⟩ := h.row
  rw [List.length_map] at g1
  exact Nat.le_trans (Nat.le_trans g1 g2) (by decide)
 have hg0 : w.cell? ⟨P.g, i, none⟩ = some (.pointer (some ⟨pb, 0, none⟩)) := by
  have := h.row.cell ptrC_len (i := i) (j := 0) (x := pb) (by rw [List.getElem?_map, List.getElem?_eq_getElem hi, hp]; rfl) (by decide)
  simpa [ptrC] using this
 have HG := Lib.hid (And.intro hg0 h.row.lt)
 clear hg0
 have HC := Lib.hid h
 have hgb : P.g ∉ [P.bc] := by
  have := h.nd
  unfold Pl.all at this
  simp only [List.nodup_cons, List.mem_cons, not_or] at this
  simpa using Ne.symm this.1.2.2.1
 have HGB := Lib.hid hgb
 clear hgb
 obtain ⟨m, hm⟩ : ∃ m, (P.ps.length : Int) - 1 = m := ⟨_, rfl⟩
 have r1 : IntKind.i64.wrap ((P.ps.length : Int) - 1) = m := by rw [IntKind.wrap_i64]; omega
 have HO := Lib.hid (fun w' => by have := pOutside (i : Int) 0 m w'; rw [show wth (i : Int) 0 m = true from by rw [wth_iff]; omega] at this; exact this)
 clear hm hlen hn12
 have hi0 : decide (i < P.ps.length) = true := decide_eq_true hi
 have hi1 : decide ((i : Int) < (P.ps.length : Int)) = true := decide_eq_true (by omega)
 subst he
 rw [hs] at hw1 hw2
 have HW := Lib.hid (And.intro hw1 hw2); have HIJ := Lib.hid hi2; have HNP := Lib.hid hpo
 clear hw1 hw2 hi2 hpo
 have HA1 := Lib.hid (fun (w' : World) (hw : AsAt w' pa s.sa) => pARecv hw p nv HNP.out)
 have HSS : Hid (sRecv s i p iv has raw nv c'.cf.prec c'.cf.tol = if (aRecv s.sa p nv).1.kind = 4 then ((aRecv s.sa p nv).1, { s with sa := (aRecv s.sa p nv).2, rc := rback s.rc })
  else if (aRecv s.sa p nv).1.kind = 7 then
   ((aRecv s.sa p nv).1, sMeas (if has = true then sProve (sHit s (aRecv s.sa p nv).2) iv raw c'.cf.tol else sHit s (aRecv s.sa p nv).2) (i + 1) p (aRecv s.sa p nv).1.q c'.cf.prec c'.cf.tol)
  else ((aRecv s.sa p nv).1, { s with sa := (aRecv s.sa p nv).2 })) := Lib.hid rfl
 suffices HWW : Calls Tryz.prog 13 #[.pointer (some ⟨P.bc, 0, none⟩), .int .i64 i, npV p, ivV iv, .bool has, .int .i64 raw] w fun e w' => e = .returned (.tuple #[hdV (sRecv s i p iv has raw nv c'.cf.prec c'.cf.tol).1, .int .i64 0]) ∧ (ClB w' P c' ∧ SrB w' pb pa pf (sRecv s i p iv has raw nv c'.cf.prec c'.cf.tol).2 ∧ AsAt w' pa (sRecv s i p iv has raw nv c'.cf.prec c'.cf.tol).2.sa ∧ FlAt w' pf (sRecv s i p iv has raw nv c'.cf.prec c'.cf.tol).2.fl) ∧ Only [P.bc, pb, pa, pf] w w' by
  refine HWW.mono ?_
  rintro e w' ⟨h1, ⟨h2, h3, h4, h5⟩, h6⟩
  refine ⟨hic, ?_, ⟨h2, ?_⟩, ?_⟩
  ·rw [hs]; exact h1
  ·rw [hs, hp]; exact ⟨h3, h4, h5⟩
  ·rw [hp]; exact h6
 clear hs hp
 generalize sRecv s i p iv has raw nv c'.cf.prec c'.cf.tol = res at HSS ⊢
 generalize aRecv s.sa p nv = asd at HSS HA1
 obtain ⟨⟨k, cd, ⟨q1, q2, q3, q4⟩⟩, sb⟩ := asd
 have HBK := Lib.hid (fun w' => pBack s.rc w')
 generalize rback s.rc = rc at HSS HBK
 unfold rcV at HBK
 dsimp only at HSS HA1
 obtain ⟨p0, p1, p2, p3, p4, p5, p6, p7, p8, p9, p10, p11, p12⟩ := p
 obtain ⟨v1, v2⟩ := iv
 obtain ⟨s1, hs1⟩ : ∃ s1, sHit s sb = s1 := ⟨_, rfl⟩
 rw [hs1] at HSS
 have HS1 := Lib.hid hs1
 clear hs1
 obtain ⟨s2, hs2⟩ : ∃ s2, (if has = true then sProve s1 ⟨v1, v2⟩ raw c'.cf.tol else s1) = s2 := ⟨_, rfl⟩
 obtain ⟨s3, hs3⟩ : ∃ s3, sMeas s2 (i + 1) ⟨p0, p1, p2, p3, p4, p5, p6, p7, p8, p9, p10, p11, p12⟩ ⟨q1, q2, q3, q4⟩ c'.cf.prec c'.cf.tol = s3 := ⟨_, rfl⟩
 rw [hs2, hs3] at HSS
 have HS2 := Lib.hid hs2; have HS3 := Lib.hid hs3
 clear hs2 hs3
 unfold npV ivV at *
 unfold hdV at *
 dsimp only at HA1 ⊢
 go_enter Tryz.func13, Tryz.ntmps13
 go_upto_region 1 with (fail)
 refine wabs (G := fun w0 => Code.wp _ _ _ _ w0) (R := fun w1 => w1.heap[w.heap.size]? = some (.cells #[.int .i64 p0, .int .i64 p1, .int .i64 p2, .int .i64 p3, .int .i64 p4, .int .i64 p5, .int .u32 p6, .int .u32 p7, .int .u32 p8, .int .u64 p9, .int .u64 p10, .int .u64 p11, .int .u64 p12] 33 (0, 0)) ∧ w1.heap[w.heap.size + 1]? = some (.cells #[.int .i64 v1, .int .i64 v2] 45 (0, 0)) ∧ w1.heap[w.heap.size + 2]? = some (.cells #[.int .i64 0, .string ⟨#[]⟩, .int .i64 0, .int .i64 0, .int .i64 0, .int .i64 0] 41 (0, 0)) ∧ Only [] w w1) ?_ ?_
 ·skip
  have k0 := alloc_new w (.cells #[.int .i64 p0, .int .i64 p1, .int .i64 p2, .int .i64 p3, .int .i64 p4, .int .i64 p5, .int .u32 p6, .int .u32 p7, .int .u32 p8, .int .u64 p9, .int .u64 p10, .int .u64 p11, .int .u64 p12] 33)
  have k1 := alloc_new (w.alloc (.cells #[.int .i64 p0, .int .i64 p1, .int .i64 p2, .int .i64 p3, .int .i64 p4, .int .i64 p5, .int .u32 p6, .int .u32 p7, .int .u32 p8, .int .u64 p9, .int .u64 p10, .int .u64 p11, .int .u64 p12] 33)) (.cells #[.int .i64 v1, .int .i64 v2] 45)
  have k2 := alloc_new ((w.alloc (.cells #[.int .i64 p0, .int .i64 p1, .int .i64 p2, .int .i64 p3, .int .i64 p4, .int .i64 p5, .int .u32 p6, .int .u32 p7, .int .u32 p8, .int .u64 p9, .int .u64 p10, .int .u64 p11, .int .u64 p12] 33)).alloc (.cells #[.int .i64 v1, .int .i64 v2] 45)) (.cells #[.int .i64 0, .string ⟨#[]⟩, .int .i64 0, .int .i64 0, .int .i64 0, .int .i64 0] 41)
  simp only [World.size_alloc] at k0 k1 k2
  exact ⟨(alloc_old (alloc_old k0)), (alloc_old k1), k2, ((((Only.refl [] w).alloc _).alloc _).alloc _)⟩
 rintro w1 ⟨h1, h2, h3, ho1⟩
 obtain ⟨b1, hb1⟩ : ∃ b, w.heap.size = b := ⟨_, rfl⟩
 obtain ⟨b2, hb2⟩ : ∃ b, w.heap.size + 1 = b := ⟨_, rfl⟩
 obtain ⟨b3, hb3⟩ : ∃ b, w.heap.size + 2 = b := ⟨_, rfl⟩
 have HN : Hid (w.heap.size ≤ b1 ∧ w.heap.size ≤ b2 ∧ w.heap.size ≤ b3 ∧ b1 ≠ b2 ∧ b2 ≠ b1 ∧ b1 ≠ b3 ∧ b3 ≠ b1 ∧ b2 ≠ b3 ∧ b3 ≠ b2) := Lib.hid (by omega)
 rw [hb1] at h1
 rw [hb2] at h2
 rw [hb3] at h3
 rw [show w.heap.size + 1 + 1 = b3 from hb3, show w.heap.size + 1 = b2 from hb2, hb1]
 have B1 := Lib.hid h1; have B2 := Lib.hid h2; have B3 := Lib.hid h3; have OO := Lib.hid ho1
 clear h1 h2 h3 hb1 hb2 hb3
 have B4 := Lib.hid (ho1.got hl (by simp)); have HX4 := Lib.hid (got_lt hl)
 have B5 := Lib.hid (ho1.got hB (by simp)); have HX5 := Lib.hid (got_lt hB)
 have B6 := Lib.hid (ho1.got hA (by simp)); have HX6 := Lib.hid (got_lt hA)
 replace OO := Lib.hid (ho1.weak (S' := [P.bc, pb, pa, pf]) (by simp))
 replace HG := Lib.hid (And.intro ((ho1.cell HG.out.2 (by simp)).trans HG.out.1) (Nat.lt_of_lt_of_le HG.out.2 ho1.size))
 replace HC := Lib.hid (HC.out.kept ho1)
 replace HFF := Lib.hid (HFF.out.kept ho1 (by simp))
 clear ho1
 have k1 := c_13 B1.out; have k2 := c_2 B2.out; have k3 := c_6 B3.out; have k4 := c_25 B4.out; have k5 := c_29 B5.out; have k6 := c_13 B6.out
 have cg := HG.out.1; have lg := HG.out.2
 go_wp2_with fail
 refine (HO.out _).mono ?_
 rintro e w2 ⟨rfl, ho⟩
 clear k1 k2 k3 k4 k5 k6 cg lg
 replace OO := Lib.hid (OO.out.nil_trans ho); replace B1 := Lib.hid (ho.got B1.out (by simp)); replace B2 := Lib.hid (ho.got B2.out (by simp)); replace B3 := Lib.hid (ho.got B3.out (by simp)); replace B4 := Lib.hid (ho.got B4.out (by simp)); replace B5 := Lib.hid (ho.got B5.out (by simp)); replace B6 := Lib.hid (ho.got B6.out (by simp))
 replace HG := Lib.hid (And.intro ((ho.cell HG.out.2 (by simp)).trans HG.out.1) (Nat.lt_of_lt_of_le HG.out.2 ho.size))
 replace HC := Lib.hid (HC.out.kept ho)
 replace HFF := Lib.hid (HFF.out.kept ho (by simp))
 clear ho
 have k1 := c_13 B1.out; have k2 := c_2 B2.out; have k3 := c_6 B3.out; have k4 := c_25 B4.out; have k5 := c_29 B5.out; have k6 := c_13 B6.out
 have cg := HG.out.1; have lg := HG.out.2
 go_wp2_with fail
 refine (HE1.out _ HC.out).mono ?_
 rintro e w3 ⟨rfl, hcl, ho⟩
 unfold ClB at hcl
 replace HG := Lib.hid (And.intro ((ho.cell HG.out.2 HGB.out).trans HG.out.1) (Nat.lt_of_lt_of_le HG.out.2 ho.size))
 replace HFF := Lib.hid (HFF.out.kept ho (by simp only [List.mem_cons, List.not_mem_nil, or_false]; exact HPF.out.2.1.symm))
 clear HC
 clear k1 k2 k3 k4 k5 k6 cg lg
 replace OO := Lib.hid (OO.out.trans ho (by simp)); replace B1 := Lib.hid (ho.got B1.out (by simp only [List.mem_cons, List.not_mem_nil, or_false]; exact (show b1 ≠ P.bc from (by have e1 := HN.out.1; have e4 := HX4.out; omega)))); replace B2 := Lib.hid (ho.got B2.out (by simp only [List.mem_cons, List.not_mem_nil, or_false]; exact (show b2 ≠ P.bc from (by have e2 := HN.out.2.1; have e4 := HX4.out; omega)))); replace B3 := Lib.hid (ho.got B3.out (by simp only [List.mem_cons, List.not_mem_nil, or_false]; exact (show b3 ≠ P.bc from (by have e3 := HN.out.2.2.1; have e4 := HX4.out; omega)))); replace B4 := Lib.hid hcl; replace B5 := Lib.hid (ho.got B5.out (by simp only [List.mem_cons, List.not_mem_nil, or_false]; exact HY4_5.out.symm)); replace B6 := Lib.hid (ho.got B6.out (by simp only [List.mem_cons, List.not_mem_nil, or_false]; exact HY4_6.out.symm))
 clear ho
 have k1 := c_13 B1.out; have k2 := c_2 B2.out; have k3 := c_6 B3.out; have k4 := c_25 B4.out; have k5 := c_29 B5.out; have k6 := c_13 B6.out
 have cg := HG.out.1; have lg := HG.out.2
 clear HE1
 go_upto_region 9 with (fail)
 obtain ⟨wa, hwa⟩ : ∃ wa : World, wa = w3 := ⟨_, rfl⟩
 subst hwa
 refine wp_region_calm2 [0, 1, 2, 3, 4, 5] [6, 8] (OnlyC ([] : List Nat) wa) (by kernel_rfl) (by kernel_rfl) ?_
 simp only [pick, List.map_cons, List.map_nil, List.getD_cons_succ, List.getD_cons_zero]
 iterate 6 (refine wpCalm_step (fun K hK => ?_); go_simp; refine hK _ ?_; clear hK K)
 refine wpCalm_nil ?_
 refine Rest.by (X := Nat) (fun y a => (a.put (some 53) (.agg #[.int .i64 k, .string cd, .int .i64 q1, .int .i64 q2, .int .i64 q3, .int .i64 q4])).put (some 17) (.pointer (some ⟨y, 0, none⟩))) (fun y w' => wa.heap.size ≤ y ∧ w'.heap[y]? = some (.cells #[.int .i64 k, .string cd, .int .i64 q1, .int .i64 q2, .int .i64 q3, .int .i64 q4] 41 (0, 0)) ∧ AsAt w' pa sb ∧ Only [pa] wa w') ?_ ?_
 rotate_left
 ·have HA0 : Hid (AsAt wa pa s.sa) := Lib.hid ⟨c0, c1, c2, c3, c4, c5, c6, c7, B6.out⟩
  have HL := Lib.hid (got_lt B6.out)
  clear k1 k2 k3 k4 k5 k6 cg lg
  refine wpAnyC_next [6, 7] (by kernel_rfl) (by simp) (.inr (onlyC (Only.refl [] wa).drew)) ?_
  simp only [List.mem_cons, List.not_mem_nil, or_false, forall_eq_or_imp, forall_eq]
  refine ⟨?_, ?_⟩
  ·refine wpOp_one rfl ?_
   go_wp2_with fail
   refine (HA1.out _ (HA0.out.kept (Only.refl [] wa).drew (by simp))).mono ?_
   rintro e x1 ⟨rfl, hA1, ho⟩
   go_wp2
   simp only [nrm]
   refine wpAnyC_next [7] (by kernel_rfl) (by simp) (.inl (late_of (by kernel_rfl))) ?_
   simp only [List.mem_cons, List.not_mem_nil, or_false, forall_eq]
   refine wpOp_one rfl ?_
   go_wp2
   simp only [nrm]
   refine alloc_abs (G := fun w0 => wpAnyC _ _ _ _ _ _ _ _ _ w0) ?_
   intro x2 hb0 ho0 _
   have HA2 := Lib.hid (hA1.kept ho0 (by simp)); have O2 := Lib.hid (((Only.refl [pa] wa).drew.trans ho (by simp)).nil_trans ho0)
   have HY : Hid (wa.heap.size ≤ x1.heap.size) := Lib.hid ho.size
   generalize x1.heap.size = y at hb0 HY ⊢
   have B0 := Lib.hid hb0
   clear hb0 ho ho0 hA1
   refine wpAnyC_next [8] (by kernel_rfl) (by simp) (.inl (late_of (by kernel_rfl))) ?_
   simp only [List.mem_cons, List.not_mem_nil, or_false, forall_eq]
   refine wpOp_one rfl ?_
   have kb := c_6 B0.out
   go_wp2
   simp only [nrm]
   have HS := set_only (b := y) (S := [y]) (by simp) [(0, .int .i64 k), (1, .string cd), (2, .int .i64 q1), (3, .int .i64 q2), (4, .int .i64 q3), (5, .int .i64 q4)] (Only.refl [y] x2)
   simp only [List.foldl_cons, List.foldl_nil] at HS
   replace HS := Lib.hid HS
   exact wpAnyC_done (by kernel_rfl) (.inl (late_of (by kernel_rfl))) ⟨y, by simp [Act.put], by first | exact HY.out | exact Nat.le_refl _, setCell_got (o := 5) (.int .i64 q4) (setCell_got (o := 4) (.int .i64 q3) (setCell_got (o := 3) (.int .i64 q2) (setCell_got (o := 2) (.int .i64 q1) (setCell_got (o := 1) (.string cd) (setCell_got (o := 0) (.int .i64 k) (B0.out)))))), HA2.out.kept HS.out (by have e1 := HY.out; have e2 := HL.out; simp only [List.mem_cons, List.not_mem_nil, or_false]; omega), O2.out.trans HS.out (by intro x hx; simp only [List.mem_cons, List.not_mem_nil, or_false] at hx; subst hx; exact .inr HY.out)⟩
  ·refine wpOp_one rfl ?_
   go_wp2
   simp only [nrm]
   refine allocd_abs' (G := fun w0 => wpAnyC _ _ _ _ _ _ _ _ _ w0) ?_
   intro x1 hb0 ho0
   have HY : Hid (wa.heap.size ≤ wa.heap.size) := Lib.hid (Nat.le_refl _)
   have B0 := Lib.hid hb0; have O1 := Lib.hid ho0
   obtain ⟨y, hy⟩ : ∃ y, wa.heap.size = y := ⟨_, rfl⟩
   rw [hy] at B0
   rw [hy]
   replace HY : Hid (wa.heap.size ≤ y) := Lib.hid (by omega)
   clear hb0 ho0 hy
   refine wpAnyC_next [6] (by kernel_rfl) (by simp) (.inr (onlyC O1.out)) ?_
   simp only [List.mem_cons, List.not_mem_nil, or_false, forall_eq]
   refine wpOp_one rfl ?_
   go_wp2_with fail
   refine (HA1.out _ (HA0.out.kept O1.out (by simp))).mono ?_
   rintro e x2 ⟨rfl, hA1, ho⟩
   replace B0 := Lib.hid (ho.got B0.out (by have e1 := HY.out; have e2 := HL.out; simp only [List.mem_cons, List.not_mem_nil, or_false]; omega))
   have HA2 := Lib.hid hA1; have O2 := Lib.hid ((O1.out.weak (S' := [pa]) (by simp)).trans ho (by simp))
   clear ho hA1
   go_wp2
   simp only [nrm]
   refine wpAnyC_next [8] (by kernel_rfl) (by simp) (.inl (late_of (by kernel_rfl))) ?_
   simp only [List.mem_cons, List.not_mem_nil, or_false, forall_eq]
   refine wpOp_one rfl ?_
   have kb := c_6 B0.out
   go_wp2
   simp only [nrm]
   have HS := set_only (b := y) (S := [y]) (by simp) [(0, .int .i64 k), (1, .string cd), (2, .int .i64 q1), (3, .int .i64 q2), (4, .int .i64 q3), (5, .int .i64 q4)] (Only.refl [y] x2)
   simp only [List.foldl_cons, List.foldl_nil] at HS
   replace HS := Lib.hid HS
   exact wpAnyC_done (by kernel_rfl) (.inl (late_of (by kernel_rfl))) ⟨y, by simp [Act.put], by first | exact HY.out | exact Nat.le_refl _, setCell_got (o := 5) (.int .i64 q4) (setCell_got (o := 4) (.int .i64 q3) (setCell_got (o := 3) (.int .i64 q2) (setCell_got (o := 2) (.int .i64 q1) (setCell_got (o := 1) (.string cd) (setCell_got (o := 0) (.int .i64 k) (B0.out)))))), HA2.out.kept HS.out (by have e1 := HY.out; have e2 := HL.out; simp only [List.mem_cons, List.not_mem_nil, or_false]; omega), O2.out.trans HS.out (by intro x hx; simp only [List.mem_cons, List.not_mem_nil, or_false] at hx; subst hx; exact .inr HY.out)⟩
 rintro b7 w4 ⟨hbn, hb, hA, ho⟩
 simp only [Act.put, List.setIfInBounds_toArray, List.set_cons_succ, List.set_cons_zero]
 have HN7 : Hid (w.heap.size ≤ b7) := Lib.hid (Nat.le_trans OO.out.size hbn)
 have HM7_1 : Hid (b1 ≠ b7) := Lib.hid (by have := got_lt B1.out; omega)
 have HM7_2 : Hid (b2 ≠ b7) := Lib.hid (by have := got_lt B2.out; omega)
 have HM7_3 : Hid (b3 ≠ b7) := Lib.hid (by have := got_lt B3.out; omega)
 have HM7_4 : Hid (P.bc ≠ b7) := Lib.hid (by have := got_lt B4.out; omega)
 have HM7_5 : Hid (pb ≠ b7) := Lib.hid (by have := got_lt B5.out; omega)
 have HM7_6 : Hid (pa ≠ b7) := Lib.hid (by have := got_lt B6.out; omega)
 clear k1 k2 k3 k4 k5 k6 cg lg
 replace OO := Lib.hid (OO.out.trans ho (by simp)); replace B1 := Lib.hid (ho.got B1.out (by simp only [List.mem_cons, List.not_mem_nil, or_false]; exact (show b1 ≠ pa from (by have e1 := HN.out.1; have e6 := HX6.out; omega)))); replace B2 := Lib.hid (ho.got B2.out (by simp only [List.mem_cons, List.not_mem_nil, or_false]; exact (show b2 ≠ pa from (by have e2 := HN.out.2.1; have e6 := HX6.out; omega)))); replace B3 := Lib.hid (ho.got B3.out (by simp only [List.mem_cons, List.not_mem_nil, or_false]; exact (show b3 ≠ pa from (by have e3 := HN.out.2.2.1; have e6 := HX6.out; omega)))); replace B4 := Lib.hid (ho.got B4.out (by simp only [List.mem_cons, List.not_mem_nil, or_false]; exact HY4_6.out)); replace B5 := Lib.hid (ho.got B5.out (by simp only [List.mem_cons, List.not_mem_nil, or_false]; exact HY5_6.out)); have B7 := Lib.hid hb; replace HFF := Lib.hid (HFF.out.kept ho (by simp only [List.mem_cons, List.not_mem_nil, or_false]; exact HPF.out.2.2.1.symm))
 obtain ⟨d0, d1, d2, d3, d4, d5, d6, d7, hA⟩ := hA
 replace B6 := Lib.hid hA
 clear ho hb hA hbn HG HA1
 have k1 := c_13 B1.out; have k2 := c_2 B2.out; have k3 := c_6 B3.out; have k4 := c_25 B4.out; have k5 := c_29 B5.out; have k6 := c_13 B6.out; have k7 := c_6 B7.out
 by_cases h4 : k = 4
 ·subst h4
  obtain rfl : res = (⟨4, cd, ⟨q1, q2, q3, q4⟩⟩, { s with sa := sb, rc := rc }) := by have := HSS.out; simpa using this
  clear HSS
  clear k1 k2 k3 k4 k5 k6 k7
  have k1 := c_13 B1.out; have k2 := c_2 B2.out; have k3 := c_6 B3.out; have k4 := c_25 B4.out; have k5 := c_29 B5.out; have k6 := c_13 B6.out; have k7 := c_6 B7.out
  go_wp2_with fail
  refine (HBK.out _).mono ?_
  rintro e w5 ⟨rfl, ho⟩
  clear k1 k2 k3 k4 k5 k6 k7
  replace OO := Lib.hid (OO.out.nil_trans ho); replace B1 := Lib.hid (ho.got B1.out (by simp)); replace B2 := Lib.hid (ho.got B2.out (by simp)); replace B3 := Lib.hid (ho.got B3.out (by simp)); replace B4 := Lib.hid (ho.got B4.out (by simp)); replace B5 := Lib.hid (ho.got B5.out (by simp)); replace B6 := Lib.hid (ho.got B6.out (by simp)); replace B7 := Lib.hid (ho.got B7.out (by simp))
  replace HFF := Lib.hid (HFF.out.kept ho (by simp))
  clear ho
  have k1 := c_13 B1.out; have k2 := c_2 B2.out; have k3 := c_6 B3.out; have k4 := c_25 B4.out; have k5 := c_29 B5.out; have k6 := c_13 B6.out; have k7 := c_6 B7.out
  go_upto_region 18 with (fail)
  refine wabs (G := fun w0 => Code.wp _ _ _ _ w0) (R := fun w6 => w6.heap[b1]? = some (.cells #[.int .i64 p0, .int .i64 p1, .int .i64 p2, .int .i64 p3, .int .i64 p4, .int .i64 p5, .int .u32 p6, .int .u32 p7, .int .u32 p8, .int .u64 p9, .int .u64 p10, .int .u64 p11, .int .u64 p12] 33 (0, 0)) ∧ w6.heap[b2]? = some (.cells #[.int .i64 v1, .int .i64 v2] 45 (0, 0)) ∧ w6.heap[b3]? = some (.cells #[.int .i64 0, .string ⟨#[]⟩, .int .i64 0, .int .i64 0, .int .i64 0, .int .i64 0] 41 (0, 0)) ∧ w6.heap[P.bc]? = some (.cells #[.int .i64 c'.cf.servers, .int .i64 c'.cf.tol, .int .i64 c'.cf.prec, .int .i64 c'.cf.keep, .int .i64 c'.cf.sv.kp, .int .i64 c'.cf.sv.ki, .int .i64 c'.cf.sv.lim, .int .i64 c'.cf.sv.sf, .int .i64 c'.cf.sv.sl, .int .i64 c'.cf.rate, .int .i64 c'.cf.mn, .int .i64 c'.cf.mx, .pointer (some ⟨P.bk, 0, none⟩), .pointer (some ⟨P.bv, 0, none⟩), .slice (some ⟨P.g, 0, none⟩) P.ps.length P.cap, .int .i64 c'.last, .int .i64 c'.own.lo, .int .i64 c'.own.hi, .int .i64 c'.owned, .int .i64 c'.rt.str, .int .i64 c'.rt.dly, .int .i64 c'.rt.dsp, .int .u32 c'.rt.ref, .bool c'.st, .int .i64 c'.rd] 101 (0, 0)) ∧ w6.heap[pb]? = some (.cells #[.pointer (some ⟨pa, 0, none⟩), .pointer (some ⟨pf, 0, none⟩), .int .i64 (knI s.hr s.hp), .int .i64 rc.bits, .int .i64 rc.poll, .int .i64 rc.mn, .int .i64 rc.mx, .int .i64 rc.cnt, .int .i64 s.sent, .int .i64 s.hdr.leap, .int .i64 s.hdr.ver, .int .i64 s.hdr.mode, .int .i64 s.hdr.strat, .int .i64 s.hdr.poll, .int .i64 s.hdr.prec, .int .u32 s.hdr.rdel, .int .u32 s.hdr.rdsp, .int .u32 s.hdr.rid, .int .u64 s.hdr.ref, .int .u64 s.hdr.org, .int .u64 s.hdr.rcv, .int .u64 s.hdr.xmt, .int .i64 s.rt.str, .int .i64 s.rt.dly, .int .i64 s.rt.dsp, .int .u32 s.rt.ref, .int .i64 s.prf.lo, .int .i64 s.prf.hi, .int .i64 s.pat] 108 (0, 0)) ∧ w6.heap[pa]? = some (.cells #[.int .i64 sb.ver, .int .i64 sb.t1, .int .u64 sb.nonce, .bool sb.pend, .int .u64 sb.xmt, .int .i64 d0, .int .i64 d1, .int .i64 d2, .int .i64 d3, .int .i64 d4, .int .i64 d5, .int .i64 d6, .int .i64 d7] 155 (0, 0)) ∧ w6.heap[b7]? = some (.cells #[.int .i64 4, .string cd, .int .i64 q1, .int .i64 q2, .int .i64 q3, .int .i64 q4] 41 (0, 0)) ∧ Only [P.bc, pb, pa, pf] w w6 ∧ FlAt w6 pf s.fl) ⟨(setCell_oth (.int .i64 rc.cnt) (setCell_oth (.int .i64 rc.mx) (setCell_oth (.int .i64 rc.mn) (setCell_oth (.int .i64 rc.poll) (setCell_oth (.int .i64 rc.bits) B1.out (show b1 ≠ pb from (by have e1 := HN.out.1; have e5 := HX5.out; omega))) (show b1 ≠ pb from (by have e1 := HN.out.1; have e5 := HX5.out; omega))) (show b1 ≠ pb from (by have e1 := HN.out.1; have e5 := HX5.out; omega))) (show b1 ≠ pb from (by have e1 := HN.out.1; have e5 := HX5.out; omega))) (show b1 ≠ pb from (by have e1 := HN.out.1; have e5 := HX5.out; omega))), (setCell_oth (.int .i64 rc.cnt) (setCell_oth (.int .i64 rc.mx) (setCell_oth (.int .i64 rc.mn) (setCell_oth (.int .i64 rc.poll) (setCell_oth (.int .i64 rc.bits) B2.out (show b2 ≠ pb from (by have e2 := HN.out.2.1; have e5 := HX5.out; omega))) (show b2 ≠ pb from (by have e2 := HN.out.2.1; have e5 := HX5.out; omega))) (show b2 ≠ pb from (by have e2 := HN.out.2.1; have e5 := HX5.out; omega))) (show b2 ≠ pb from (by have e2 := HN.out.2.1; have e5 := HX5.out; omega))) (show b2 ≠ pb from (by have e2 := HN.out.2.1; have e5 := HX5.out; omega))), (setCell_oth (.int .i64 rc.cnt) (setCell_oth (.int .i64 rc.mx) (setCell_oth (.int .i64 rc.mn) (setCell_oth (.int .i64 rc.poll) (setCell_oth (.int .i64 rc.bits) B3.out (show b3 ≠ pb from (by have e3 := HN.out.2.2.1; have e5 := HX5.out; omega))) (show b3 ≠ pb from (by have e3 := HN.out.2.2.1; have e5 := HX5.out; omega))) (show b3 ≠ pb from (by have e3 := HN.out.2.2.1; have e5 := HX5.out; omega))) (show b3 ≠ pb from (by have e3 := HN.out.2.2.1; have e5 := HX5.out; omega))) (show b3 ≠ pb from (by have e3 := HN.out.2.2.1; have e5 := HX5.out; omega))), (setCell_oth (.int .i64 rc.cnt) (setCell_oth (.int .i64 rc.mx) (setCell_oth (.int .i64 rc.mn) (setCell_oth (.int .i64 rc.poll) (setCell_oth (.int .i64 rc.bits) B4.out HY4_5.out) HY4_5.out) HY4_5.out) HY4_5.out) HY4_5.out), (setCell_got (o := 7) (.int .i64 rc.cnt) (setCell_got (o := 6) (.int .i64 rc.mx) (setCell_got (o := 5) (.int .i64 rc.mn) (setCell_got (o := 4) (.int .i64 rc.poll) (setCell_got (o := 3) (.int .i64 rc.bits) B5.out))))), (setCell_oth (.int .i64 rc.cnt) (setCell_oth (.int .i64 rc.mx) (setCell_oth (.int .i64 rc.mn) (setCell_oth (.int .i64 rc.poll) (setCell_oth (.int .i64 rc.bits) B6.out HY5_6.out.symm) HY5_6.out.symm) HY5_6.out.symm) HY5_6.out.symm) HY5_6.out.symm), (setCell_oth (.int .i64 rc.cnt) (setCell_oth (.int .i64 rc.mx) (setCell_oth (.int .i64 rc.mn) (setCell_oth (.int .i64 rc.poll) (setCell_oth (.int .i64 rc.bits) B7.out HM7_5.out.symm) HM7_5.out.symm) HM7_5.out.symm) HM7_5.out.symm) HM7_5.out.symm), (((((OO.out.setCell (.inl (by simp)) _).setCell (.inl (by simp)) _).setCell (.inl (by simp)) _).setCell (.inl (by simp)) _).setCell (.inl (by simp)) _), HFF.out.kept (set_only (b := pb) (S := [pb]) (by simp) [(3, .int .i64 rc.bits), (4, .int .i64 rc.poll), (5, .int .i64 rc.mn), (6, .int .i64 rc.mx), (7, .int .i64 rc.cnt)] (Only.refl [pb] _)) (by simp only [List.mem_cons, List.not_mem_nil, or_false]; exact HPF.out.1.symm)⟩ ?_
  rintro w6 ⟨g1, g2, g3, g4, g5, g6, g7, ho, q0⟩
  clear k1 k2 k3 k4 k5 k6 k7
  replace B1 := Lib.hid g1; replace B2 := Lib.hid g2; replace B3 := Lib.hid g3; replace B4 := Lib.hid g4; replace B5 := Lib.hid g5; replace B6 := Lib.hid g6; replace B7 := Lib.hid g7; replace OO := Lib.hid ho; replace HFF := Lib.hid q0
  clear ho g1 g2 g3 g4 g5 g6 g7
  have k1 := c_13 B1.out; have k2 := c_2 B2.out; have k3 := c_6 B3.out; have k4 := c_25 B4.out; have k5 := c_29 B5.out; have k6 := c_13 B6.out; have k7 := c_6 B7.out
  have H6 : AsAt w6 pa sb := ⟨d0, d1, d2, d3, d4, d5, d6, d7, B6.out⟩
  go_wp2
  have HD := setCell_got (o := 5) (.int .i64 q4) (setCell_got (o := 4) (.int .i64 q3) (setCell_got (o := 3) (.int .i64 q2) (setCell_got (o := 2) (.int .i64 q1) (setCell_got (o := 1) (.string cd) (setCell_got (o := 0) (.int .i64 4) (B3.out))))))
  have e0 := cell_got HD 0; have e1 := cell_got HD 1; have e2 := cell_got HD 2; have e3 := cell_got HD 3; have e4 := cell_got HD 4; have e5 := cell_got HD 5; have le := got_lt HD
  have HS := set_only (b := b3) (S := [b3]) (by simp) [(0, .int .i64 4), (1, .string cd), (2, .int .i64 q1), (3, .int .i64 q2), (4, .int .i64 q3), (5, .int .i64 q4)] (Only.refl [b3] w6)
  simp only [List.foldl_cons, List.foldl_nil] at HS
  replace HS := Lib.hid HS
  refine bodyPost_ret (v := .tuple #[.agg #[.int .i64 4, .string cd, .int .i64 q1, .int .i64 q2, .int .i64 q3, .int .i64 q4], .int .i64 0]) (by simp [results, Tryz.results13, go_sem, e0, e1, e2, e3, e4, e5]) rfl ⟨rfl, ⟨HS.out.got B4.out (by simp only [List.mem_cons, List.not_mem_nil, or_false]; exact (show P.bc ≠ b3 from (by have e4 := HX4.out; have e3 := HN.out.2.2.1; omega))), HS.out.got B5.out (by simp only [List.mem_cons, List.not_mem_nil, or_false]; exact (show pb ≠ b3 from (by have e5 := HX5.out; have e3 := HN.out.2.2.1; omega))), H6.kept HS.out (by simp only [List.mem_cons, List.not_mem_nil, or_false]; exact (show pa ≠ b3 from (by have e6 := HX6.out; have e3 := HN.out.2.2.1; omega))), HFF.out.kept HS.out (by have e1 := HPF.out.2.2.2; have e2 := HN.out.2.2.1; simp only [List.mem_cons, List.not_mem_nil, or_false]; omega)⟩, OO.out.trans HS.out (by intro x hx; simp only [List.mem_cons, List.not_mem_nil, or_false] at hx; subst hx; exact .inr HN.out.2.2.1)⟩
 ·have a4 : (k == 4) = false := by simpa using h4
  by_cases h7 : k = 7
  ·subst h7
   obtain rfl : res = (⟨7, cd, ⟨q1, q2, q3, q4⟩⟩, s3) := by have := HSS.out; simpa using this
   clear HSS
   clear k1 k2 k3 k4 k5 k6 k7
   have k1 := c_13 B1.out; have k2 := c_2 B2.out; have k3 := c_6 B3.out; have k4 := c_25 B4.out; have k5 := c_29 B5.out; have k6 := c_13 B6.out; have k7 := c_6 B7.out
   go_upto_region 15 with (fail)
   refine wabs (G := fun w0 => Code.wp _ _ _ _ w0) (R := fun w5 => w5.heap[b1]? = some (.cells #[.int .i64 p0, .int .i64 p1, .int .i64 p2, .int .i64 p3, .int .i64 p4, .int .i64 p5, .int .u32 p6, .int .u32 p7, .int .u32 p8, .int .u64 p9, .int .u64 p10, .int .u64 p11, .int .u64 p12] 33 (0, 0)) ∧ w5.heap[b2]? = some (.cells #[.int .i64 v1, .int .i64 v2] 45 (0, 0)) ∧ w5.heap[b3]? = some (.cells #[.int .i64 0, .string ⟨#[]⟩, .int .i64 0, .int .i64 0, .int .i64 0, .int .i64 0] 41 (0, 0)) ∧ w5.heap[P.bc]? = some (.cells #[.int .i64 c'.cf.servers, .int .i64 c'.cf.tol, .int .i64 c'.cf.prec, .int .i64 c'.cf.keep, .int .i64 c'.cf.sv.kp, .int .i64 c'.cf.sv.ki, .int .i64 c'.cf.sv.lim, .int .i64 c'.cf.sv.sf, .int .i64 c'.cf.sv.sl, .int .i64 c'.cf.rate, .int .i64 c'.cf.mn, .int .i64 c'.cf.mx, .pointer (some ⟨P.bk, 0, none⟩), .pointer (some ⟨P.bv, 0, none⟩), .slice (some ⟨P.g, 0, none⟩) P.ps.length P.cap, .int .i64 c'.last, .int .i64 c'.own.lo, .int .i64 c'.own.hi, .int .i64 c'.owned, .int .i64 c'.rt.str, .int .i64 c'.rt.dly, .int .i64 c'.rt.dsp, .int .u32 c'.rt.ref, .bool c'.st, .int .i64 c'.rd] 101 (0, 0)) ∧ w5.heap[pb]? = some (.cells #[.pointer (some ⟨pa, 0, none⟩), .pointer (some ⟨pf, 0, none⟩), .int .i64 (knI s.hr s.hp), .int .i64 (bits .or .i64 s.rc.bits 1), .int .i64 s.rc.poll, .int .i64 s.rc.mn, .int .i64 s.rc.mx, .int .i64 s.rc.cnt, .int .i64 s.sent, .int .i64 s.hdr.leap, .int .i64 s.hdr.ver, .int .i64 s.hdr.mode, .int .i64 s.hdr.strat, .int .i64 s.hdr.poll, .int .i64 s.hdr.prec, .int .u32 s.hdr.rdel, .int .u32 s.hdr.rdsp, .int .u32 s.hdr.rid, .int .u64 s.hdr.ref, .int .u64 s.hdr.org, .int .u64 s.hdr.rcv, .int .u64 s.hdr.xmt, .int .i64 s.rt.str, .int .i64 s.rt.dly, .int .i64 s.rt.dsp, .int .u32 s.rt.ref, .int .i64 s.prf.lo, .int .i64 s.prf.hi, .int .i64 s.pat] 108 (0, 0)) ∧ w5.heap[pa]? = some (.cells #[.int .i64 sb.ver, .int .i64 sb.t1, .int .u64 sb.nonce, .bool sb.pend, .int .u64 sb.xmt, .int .i64 d0, .int .i64 d1, .int .i64 d2, .int .i64 d3, .int .i64 d4, .int .i64 d5, .int .i64 d6, .int .i64 d7] 155 (0, 0)) ∧ w5.heap[b7]? = some (.cells #[.int .i64 7, .string cd, .int .i64 q1, .int .i64 q2, .int .i64 q3, .int .i64 q4] 41 (0, 0)) ∧ Only [P.bc, pb, pa, pf] w w5 ∧ FlAt w5 pf s.fl) ⟨(setCell_oth (.int .i64 (bits .or .i64 s.rc.bits 1)) B1.out (show b1 ≠ pb from (by have e1 := HN.out.1; have e5 := HX5.out; omega))), (setCell_oth (.int .i64 (bits .or .i64 s.rc.bits 1)) B2.out (show b2 ≠ pb from (by have e2 := HN.out.2.1; have e5 := HX5.out; omega))), (setCell_oth (.int .i64 (bits .or .i64 s.rc.bits 1)) B3.out (show b3 ≠ pb from (by have e3 := HN.out.2.2.1; have e5 := HX5.out; omega))), (setCell_oth (.int .i64 (bits .or .i64 s.rc.bits 1)) B4.out HY4_5.out), (setCell_got (o := 3) (.int .i64 (bits .or .i64 s.rc.bits 1)) B5.out), (setCell_oth (.int .i64 (bits .or .i64 s.rc.bits 1)) B6.out HY5_6.out.symm), (setCell_oth (.int .i64 (bits .or .i64 s.rc.bits 1)) B7.out HM7_5.out.symm), (OO.out.setCell (.inl (by simp)) _), HFF.out.kept (set_only (b := pb) (S := [pb]) (by simp) [(3, .int .i64 (bits .or .i64 s.rc.bits 1))] (Only.refl [pb] _)) (by simp only [List.mem_cons, List.not_mem_nil, or_false]; exact HPF.out.1.symm)⟩ ?_
   rintro w5 ⟨g1, g2, g3, g4, g5, g6, g7, ho, q0⟩
   clear k1 k2 k3 k4 k5 k6 k7
   replace B1 := Lib.hid g1; replace B2 := Lib.hid g2; replace B3 := Lib.hid g3; replace B4 := Lib.hid g4; replace B5 := Lib.hid g5; replace B6 := Lib.hid g6; replace B7 := Lib.hid g7; replace OO := Lib.hid ho; replace HFF := Lib.hid q0
   clear ho g1 g2 g3 g4 g5 g6 g7
   have k1 := c_13 B1.out; have k2 := c_2 B2.out; have k3 := c_6 B3.out; have k4 := c_25 B4.out; have k5 := c_29 B5.out; have k6 := c_13 B6.out; have k7 := c_6 B7.out
   replace B5 : Hid (SrB w5 pb pa pf s1) := Lib.hid (by rw [← HS1.out]; exact B5.out)
   replace HFF : Hid (FlAt w5 pf s1.fl) := Lib.hid (by rw [← HS1.out]; exact HFF.out)
   have HSA : Hid (s1.sa = sb ∧ s1.sent = s.sent ∧ s1.pat = s.pat) := Lib.hid (by rw [← HS1.out]; exact ⟨rfl, rfl, rfl⟩)
   clear HS1
   clear k1 k2 k3 k4 k5 k6 k7
   unfold SrB at B5
   have k1 := c_13 B1.out; have k2 := c_2 B2.out; have k3 := c_6 B3.out; have k4 := c_25 B4.out; have k5 := c_29 B5.out; have k6 := c_13 B6.out; have k7 := c_6 B7.out
   cases has
   ·obtain rfl : s1 = s2 := by have := HS2.out; simpa using this
    clear HS2
    have HM := Lib.hid (fun (w0 : World) ht ht2 hlt hB hF hpf => pMeasure (w := w0) (bc := P.bc) (pb := pb) (pa := pa) (pf := pf) (s := s1) (tol := c'.cf.tol) (prec := c'.cf.prec) ht ht2 hlt hB hF hpf i (Int.natCast_nonneg i) HIJ.out ⟨p0, p1, p2, p3, p4, p5, p6, p7, p8, p9, p10, p11, p12⟩ HNP.out ⟨q1, q2, q3, q4⟩)
    have HSB := Lib.hid (sMeas_same s1 (i + 1) ⟨p0, p1, p2, p3, p4, p5, p6, p7, p8, p9, p10, p11, p12⟩ ⟨q1, q2, q3, q4⟩ c'.cf.prec c'.cf.tol)
    rw [HS3.out] at HM HSB
    unfold npV qdV at HM
    dsimp only at HM
    go_wp2_with fail
    refine (HM.out _ (cell_got B4.out 1) (cell_got B4.out 2) (got_lt B4.out) B5.out HFF.out ⟨HPF.out.1, Nat.lt_of_lt_of_le HPF.out.2.2.2 OO.out.size⟩).mono ?_
    rintro e w6 ⟨rfl, ⟨hB3, hF3⟩, ho⟩
    clear k1 k2 k3 k4 k5 k6 k7
    replace OO := Lib.hid (OO.out.trans ho (by simp)); replace B3 := Lib.hid (ho.got B3.out (by simp only [List.mem_cons, List.not_mem_nil, or_false, not_or]; exact ⟨(show b3 ≠ pb from (by have e3 := HN.out.2.2.1; have e5 := HX5.out; omega)), by have e1 := HN.out.2.2.1; have e2 := HPF.out.2.2.2; omega⟩)); replace B4 := Lib.hid (ho.got B4.out (by simp only [List.mem_cons, List.not_mem_nil, or_false, not_or]; exact ⟨HY4_5.out, HPF.out.2.1⟩)); replace B6 := Lib.hid (ho.got B6.out (by simp only [List.mem_cons, List.not_mem_nil, or_false, not_or]; exact ⟨HY5_6.out.symm, HPF.out.2.2.1⟩)); replace B7 := Lib.hid (ho.got B7.out (by simp only [List.mem_cons, List.not_mem_nil, or_false, not_or]; exact ⟨HM7_5.out.symm, by have e1 := HN7.out; have e2 := HPF.out.2.2.2; omega⟩))
    replace B5 := Lib.hid hB3; replace HFF := Lib.hid hF3
    clear ho hB3 hF3 HM B1 B2
    unfold SrB at B5
    have k3 := c_6 B3.out; have k4 := c_25 B4.out; have k5 := c_29 B5.out; have k6 := c_13 B6.out; have k7 := c_6 B7.out
    replace B6 : Hid (AsAt w6 pa s3.sa) := Lib.hid (by rw [HSB.out, HSA.out.1]; exact ⟨d0, d1, d2, d3, d4, d5, d6, d7, B6.out⟩)
    go_wp2
    have HD := setCell_got (o := 5) (.int .i64 q4) (setCell_got (o := 4) (.int .i64 q3) (setCell_got (o := 3) (.int .i64 q2) (setCell_got (o := 2) (.int .i64 q1) (setCell_got (o := 1) (.string cd) (setCell_got (o := 0) (.int .i64 7) (B3.out))))))
    have e0 := cell_got HD 0; have e1 := cell_got HD 1; have e2 := cell_got HD 2; have e3 := cell_got HD 3; have e4 := cell_got HD 4; have e5 := cell_got HD 5; have le := got_lt HD
    have HS := set_only (b := b3) (S := [b3]) (by simp) [(0, .int .i64 7), (1, .string cd), (2, .int .i64 q1), (3, .int .i64 q2), (4, .int .i64 q3), (5, .int .i64 q4)] (Only.refl [b3] w6)
    simp only [List.foldl_cons, List.foldl_nil] at HS
    replace HS := Lib.hid HS
    refine bodyPost_ret (v := .tuple #[.agg #[.int .i64 7, .string cd, .int .i64 q1, .int .i64 q2, .int .i64 q3, .int .i64 q4], .int .i64 0]) (by simp [results, Tryz.results13, go_sem, e0, e1, e2, e3, e4, e5]) rfl ⟨rfl, ⟨HS.out.got B4.out (by simp only [List.mem_cons, List.not_mem_nil, or_false]; exact (show P.bc ≠ b3 from (by have e4 := HX4.out; have e3 := HN.out.2.2.1; omega))), HS.out.got B5.out (by simp only [List.mem_cons, List.not_mem_nil, or_false]; exact (show pb ≠ b3 from (by have e5 := HX5.out; have e3 := HN.out.2.2.1; omega))), B6.out.kept HS.out (by simp only [List.mem_cons, List.not_mem_nil, or_false]; exact (show pa ≠ b3 from (by have e6 := HX6.out; have e3 := HN.out.2.2.1; omega))), HFF.out.kept HS.out (by have e1 := HPF.out.2.2.2; have e2 := HN.out.2.2.1; simp only [List.mem_cons, List.not_mem_nil, or_false]; omega)⟩, OO.out.trans HS.out (by intro x hx; simp only [List.mem_cons, List.not_mem_nil, or_false] at hx; subst hx; exact .inr HN.out.2.2.1)⟩
   ·replace HS2 : Hid (sProve s1 ⟨v1, v2⟩ raw c'.cf.tol = s2) := Lib.hid (by have := HS2.out; simpa using this)
    have HPR := Lib.hid (fun (w0 : World) ht hlt hB => pProve (w := w0) (bc := P.bc) (pb := pb) (pa := pa) (pf := pf) (s := s1) (tol := c'.cf.tol) ht hlt hB ⟨v1, v2⟩ raw (by rw [HSA.out.2.1]; exact HW.out.1.1) (by rw [HSA.out.2.1]; exact HW.out.1.2) (by rw [HSA.out.2.2]; exact HW.out.2.1) (by rw [HSA.out.2.2]; exact HW.out.2.2) HY4_5.out)
    have HPS := Lib.hid (sProve_same s1 ⟨v1, v2⟩ raw c'.cf.tol)
    rw [HS2.out] at HPR HPS
    unfold ivV at HPR
    dsimp only at HPR
    go_wp2_with fail
    refine (HPR.out _ (cell_got B4.out 1) (got_lt B4.out) B5.out).mono ?_
    rintro e w6 ⟨rfl, hB2, ho⟩
    unfold SrB at hB2
    replace HFF := Lib.hid (HFF.out.kept ho (by simp only [List.mem_cons, List.not_mem_nil, or_false]; exact HPF.out.1.symm))
    clear k1 k2 k3 k4 k5 k6 k7
    replace OO := Lib.hid (OO.out.trans ho (by simp)); replace B1 := Lib.hid (ho.got B1.out (by simp only [List.mem_cons, List.not_mem_nil, or_false]; exact (show b1 ≠ pb from (by have e1 := HN.out.1; have e5 := HX5.out; omega)))); replace B2 := Lib.hid (ho.got B2.out (by simp only [List.mem_cons, List.not_mem_nil, or_false]; exact (show b2 ≠ pb from (by have e2 := HN.out.2.1; have e5 := HX5.out; omega)))); replace B3 := Lib.hid (ho.got B3.out (by simp only [List.mem_cons, List.not_mem_nil, or_false]; exact (show b3 ≠ pb from (by have e3 := HN.out.2.2.1; have e5 := HX5.out; omega)))); replace B4 := Lib.hid (ho.got B4.out (by simp only [List.mem_cons, List.not_mem_nil, or_false]; exact HY4_5.out)); replace B5 := Lib.hid hB2; replace B6 := Lib.hid (ho.got B6.out (by simp only [List.mem_cons, List.not_mem_nil, or_false]; exact HY5_6.out.symm)); replace B7 := Lib.hid (ho.got B7.out (by simp only [List.mem_cons, List.not_mem_nil, or_false]; exact HM7_5.out.symm))
    clear ho
    have k1 := c_13 B1.out; have k2 := c_2 B2.out; have k3 := c_6 B3.out; have k4 := c_25 B4.out; have k5 := c_29 B5.out; have k6 := c_13 B6.out; have k7 := c_6 B7.out
    replace HFF : Hid (FlAt w6 pf s2.fl) := Lib.hid (by rw [HPS.out.2]; exact HFF.out)
    replace HSA : Hid (s2.sa = sb ∧ True) := Lib.hid ⟨HPS.out.1.trans HSA.out.1, trivial⟩
    clear HPR HPS
    have HM := Lib.hid (fun (w0 : World) ht ht2 hlt hB hF hpf => pMeasure (w := w0) (bc := P.bc) (pb := pb) (pa := pa) (pf := pf) (s := s2) (tol := c'.cf.tol) (prec := c'.cf.prec) ht ht2 hlt hB hF hpf i (Int.natCast_nonneg i) HIJ.out ⟨p0, p1, p2, p3, p4, p5, p6, p7, p8, p9, p10, p11, p12⟩ HNP.out ⟨q1, q2, q3, q4⟩)
    have HSB := Lib.hid (sMeas_same s2 (i + 1) ⟨p0, p1, p2, p3, p4, p5, p6, p7, p8, p9, p10, p11, p12⟩ ⟨q1, q2, q3, q4⟩ c'.cf.prec c'.cf.tol)
    rw [HS3.out] at HM HSB
    unfold npV qdV at HM
    dsimp only at HM
    go_wp2_with fail
    refine (HM.out _ (cell_got B4.out 1) (cell_got B4.out 2) (got_lt B4.out) B5.out HFF.out ⟨HPF.out.1, Nat.lt_of_lt_of_le HPF.out.2.2.2 OO.out.size⟩).mono ?_
    rintro e w7 ⟨rfl, ⟨hB3, hF3⟩, ho⟩
    clear k1 k2 k3 k4 k5 k6 k7
    replace OO := Lib.hid (OO.out.trans ho (by simp)); replace B3 := Lib.hid (ho.got B3.out (by simp only [List.mem_cons, List.not_mem_nil, or_false, not_or]; exact ⟨(show b3 ≠ pb from (by have e3 := HN.out.2.2.1; have e5 := HX5.out; omega)), by have e1 := HN.out.2.2.1; have e2 := HPF.out.2.2.2; omega⟩)); replace B4 := Lib.hid (ho.got B4.out (by simp only [List.mem_cons, List.not_mem_nil, or_false, not_or]; exact ⟨HY4_5.out, HPF.out.2.1⟩)); replace B6 := Lib.hid (ho.got B6.out (by simp only [List.mem_cons, List.not_mem_nil, or_false, not_or]; exact ⟨HY5_6.out.symm, HPF.out.2.2.1⟩)); replace B7 := Lib.hid (ho.got B7.out (by simp only [List.mem_cons, List.not_mem_nil, or_false, not_or]; exact ⟨HM7_5.out.symm, by have e1 := HN7.out; have e2 := HPF.out.2.2.2; omega⟩))
    replace B5 := Lib.hid hB3; replace HFF := Lib.hid hF3
    clear ho hB3 hF3 HM B1 B2
    unfold SrB at B5
    have k3 := c_6 B3.out; have k4 := c_25 B4.out; have k5 := c_29 B5.out; have k6 := c_13 B6.out; have k7 := c_6 B7.out
    replace B6 : Hid (AsAt w7 pa s3.sa) := Lib.hid (by rw [HSB.out, HSA.out.1]; exact ⟨d0, d1, d2, d3, d4, d5, d6, d7, B6.out⟩)
    go_wp2
    have HD := setCell_got (o := 5) (.int .i64 q4) (setCell_got (o := 4) (.int .i64 q3) (setCell_got (o := 3) (.int .i64 q2) (setCell_got (o := 2) (.int .i64 q1) (setCell_got (o := 1) (.string cd) (setCell_got (o := 0) (.int .i64 7) (B3.out))))))
    have e0 := cell_got HD 0; have e1 := cell_got HD 1; have e2 := cell_got HD 2; have e3 := cell_got HD 3; have e4 := cell_got HD 4; have e5 := cell_got HD 5; have le := got_lt HD
    have HS := set_only (b := b3) (S := [b3]) (by simp) [(0, .int .i64 7), (1, .string cd), (2, .int .i64 q1), (3, .int .i64 q2), (4, .int .i64 q3), (5, .int .i64 q4)] (Only.refl [b3] w7)
    simp only [List.foldl_cons, List.foldl_nil] at HS
    replace HS := Lib.hid HS
    refine bodyPost_ret (v := .tuple #[.agg #[.int .i64 7, .string cd, .int .i64 q1, .int .i64 q2, .int .i64 q3, .int .i64 q4], .int .i64 0]) (by simp [results, Tryz.results13, go_sem, e0, e1, e2, e3, e4, e5]) rfl ⟨rfl, ⟨HS.out.got B4.out (by simp only [List.mem_cons, List.not_mem_nil, or_false]; exact (show P.bc ≠ b3 from (by have e4 := HX4.out; have e3 := HN.out.2.2.1; omega))), HS.out.got B5.out (by simp only [List.mem_cons, List.not_mem_nil, or_false]; exact (show pb ≠ b3 from (by have e5 := HX5.out; have e3 := HN.out.2.2.1; omega))), B6.out.kept HS.out (by simp only [List.mem_cons, List.not_mem_nil, or_false]; exact (show pa ≠ b3 from (by have e6 := HX6.out; have e3 := HN.out.2.2.1; omega))), HFF.out.kept HS.out (by have e1 := HPF.out.2.2.2; have e2 := HN.out.2.2.1; simp only [List.mem_cons, List.not_mem_nil, or_false]; omega)⟩, OO.out.trans HS.out (by intro x hx; simp only [List.mem_cons, List.not_mem_nil, or_false] at hx; subst hx; exact .inr HN.out.2.2.1)⟩
  ·have a7 : (k == 7) = false := by simpa using h7
   obtain rfl : res = (⟨k, cd, ⟨q1, q2, q3, q4⟩⟩, { s with sa := sb }) := by have := HSS.out; simpa [h4, h7] using this
   clear HSS h4 h7
   have H6 : AsAt w4 pa sb := ⟨d0, d1, d2, d3, d4, d5, d6, d7, B6.out⟩
   go_wp2
   have HD := setCell_got (o := 5) (.int .i64 q4) (setCell_got (o := 4) (.int .i64 q3) (setCell_got (o := 3) (.int .i64 q2) (setCell_got (o := 2) (.int .i64 q1) (setCell_got (o := 1) (.string cd) (setCell_got (o := 0) (.int .i64 k) (B3.out))))))
   have e0 := cell_got HD 0; have e1 := cell_got HD 1; have e2 := cell_got HD 2; have e3 := cell_got HD 3; have e4 := cell_got HD 4; have e5 := cell_got HD 5; have le := got_lt HD
   have HS := set_only (b := b3) (S := [b3]) (by simp) [(0, .int .i64 k), (1, .string cd), (2, .int .i64 q1), (3, .int .i64 q2), (4, .int .i64 q3), (5, .int .i64 q4)] (Only.refl [b3] w4)
   simp only [List.foldl_cons, List.foldl_nil] at HS
   replace HS := Lib.hid HS
   refine bodyPost_ret (v := .tuple #[.agg #[.int .i64 k, .string cd, .int .i64 q1, .int .i64 q2, .int .i64 q3, .int .i64 q4], .int .i64 0]) (by simp [results, Tryz.results13, go_sem, e0, e1, e2, e3, e4, e5]) rfl ⟨rfl, ⟨HS.out.got B4.out (by simp only [List.mem_cons, List.not_mem_nil, or_false]; exact (show P.bc ≠ b3 from (by have e4 := HX4.out; have e3 := HN.out.2.2.1; omega))), HS.out.got B5.out (by simp only [List.mem_cons, List.not_mem_nil, or_false]; exact (show pb ≠ b3 from (by have e5 := HX5.out; have e3 := HN.out.2.2.1; omega))), H6.kept HS.out (by simp only [List.mem_cons, List.not_mem_nil, or_false]; exact (show pa ≠ b3 from (by have e6 := HX6.out; have e3 := HN.out.2.2.1; omega))), HFF.out.kept HS.out (by have e1 := HPF.out.2.2.2; have e2 := HN.out.2.2.1; simp only [List.mem_cons, List.not_mem_nil, or_false]; omega)⟩, OO.out.trans HS.out (by intro x hx; simp only [List.mem_cons, List.not_mem_nil, or_false] at hx; subst hx; exact .inr HN.out.2.2.1)⟩
end Go.Proofs.YtikjdmbfjkbndaaGreat

/- interval.Honest; client: honest, renewed, Interval. Conditions: those named in each theorem. -/
namespace Go.Proofs.YtikjdmbfjkbndaaGreat
open Go.RowKit

def honI (l : List Iv) (f : Int) : Option Iv := if f < 0 ∨ ((l.filter ivOk).length : Int) ≤ f then none else hullI l ((l.filter ivOk).length - f)
/-- what is known through a server -/
def prfC (raw tol : Int) (s : Sr) : Iv := if s.hp = true then agedC s.prf s.pat raw tol else evI
def honC (c : Cl) (raw : Int) : Iv := (honI (c.srcs.map (prfC raw c.cf.tol)) ((c.cf.servers - 1) / 2)).getD evI
def renC (c : Cl) (raw : Int) : Iv := (meetI (honC c raw) (agedC c.own c.owned raw c.cf.tol)).getD (honC c raw)
def itvC (c : Cl) (raw : Int) : Iv × Int := if (clNow c raw).2 = 0 then (renC c raw, 0) else (⟨0, 0⟩, (clNow c raw).2)
def HonR (w1 : World) (P : Pl) (c : Cl) (raw : Int) (vo vi : Value) (wr : World) : Prop :=
 ∃ k : Nat, k ≤ P.ps.length ∧ vi = .int .i64 k ∧ Own ivC 45 2 w1.heap.size wr vo ((c.srcs.take k).map (prfC raw c.cf.tol)) ∧ Only [] w1 wr
set_option maxRecDepth 100000 in
set_option maxHeartbeats 2000000 in
theorem pIHonest {w : World} {p : Option Addr} {n cap : Nat} {l : List Iv} (hv : VRow ivC 2 w p n cap l) (hn : l.length ≤ 48) (f : Int) (_h0 : -9223372036854775000 ≤ f) :
  Calls Tryz.prog 150 #[.slice p n cap, .int .i64 f] w fun e w' => e = .returned (hullV (honI l f)) ∧ Only [] w w' := by
 have HV := Lib.hid hv
 have HR : Hid (honI l f = if f < 0 ∨ ((l.filter ivOk).length : Int) ≤ f then none else hullI l ((l.filter ivOk).length - f)) := Lib.hid rfl
 generalize honI l f = res at HR ⊢
 have hfl : (l.filter ivOk).length ≤ 48 := Nat.le_trans (List.length_filter_le _ _) hn
 clear hv
 go_enter Tryz.func150, Tryz.ntmps150
 go_upto_region 1 with (fail)
 refine alloc_abs (G := fun w0 => Code.wp _ _ _ _ w0) ?_
 intro w1 hb1 ho1 hs1
 obtain ⟨b1, hbe1⟩ : ∃ b, w.heap.size = b := ⟨_, rfl⟩
 rw [hbe1] at hb1
 rw [hbe1]
 have HN : Hid (w.heap.size ≤ b1) := Lib.hid (by omega)
 have B1 := Lib.hid hb1; have OO := Lib.hid ho1
 clear hb1 hs1 hbe1
 replace HV := Lib.hid (HV.out.kept ho1)
 clear ho1
 have k1 := c_2 B1.out
 go_wp2_with fail
 refine (pIvValid HV.out hn).mono ?_
 rintro e w2 ⟨⟨v, rfl, hown⟩, ho⟩
 obtain ⟨pp, cap', rfl, -⟩ := Own.vrow (enc := ivC) (s := 2) ivC_len hown
 clear hown
 clear k1
 replace OO := Lib.hid (OO.out.nil_trans ho); replace B1 := Lib.hid (ho.got B1.out (by simp))
 replace HV := Lib.hid (HV.out.kept ho)
 have k1 := c_2 B1.out
 clear ho
 generalize (l.filter ivOk).length = m at HR hfl ⊢
 by_cases h1 : f < 0
 ·obtain rfl : res = none := by have := HR.out; simpa [h1] using this
  have a1 : decide (f < 0) = true := decide_eq_true h1
  clear HR
  go_wp2
  have HD := setCell_got (o := 1) (.int .i64 0) (setCell_got (o := 0) (.int .i64 0) (B1.out))
  have e0 := cell_got HD 0; have e1 := cell_got HD 1; have le := got_lt HD
  refine bodyPost_ret (v := .tuple #[.agg #[.int .i64 0, .int .i64 0], .bool false]) (by simp [results, Tryz.results150, go_sem, e0, e1]) rfl ⟨rfl, ((OO.out.setCell (.inr HN.out) _).setCell (.inr HN.out) _)⟩
 ·have a1 : decide (f < 0) = false := decide_eq_false h1
  by_cases h2 : (m : Int) ≤ f
  ·obtain rfl : res = none := by have := HR.out; simpa [h1, h2] using this
   have a2 : decide ((m : Int) ≤ f) = true := decide_eq_true h2
   clear HR
   go_wp2
   have HD := setCell_got (o := 1) (.int .i64 0) (setCell_got (o := 0) (.int .i64 0) (B1.out))
   have e0 := cell_got HD 0; have e1 := cell_got HD 1; have le := got_lt HD
   refine bodyPost_ret (v := .tuple #[.agg #[.int .i64 0, .int .i64 0], .bool false]) (by simp [results, Tryz.results150, go_sem, e0, e1]) rfl ⟨rfl, ((OO.out.setCell (.inr HN.out) _).setCell (.inr HN.out) _)⟩
  ·have a2 : decide ((m : Int) ≤ f) = false := decide_eq_false h2
   have he : res = hullI l (m - f) := by have := HR.out; simpa [h1, h2] using this
   clear HR
   obtain ⟨d, hd⟩ : ∃ d, (m : Int) - f = d := ⟨_, rfl⟩
   have r1 : IntKind.i64.wrap ((m : Int) - f) = d := by rw [IntKind.wrap_i64]; omega
   rw [hd] at he
   have HH := Lib.hid (fun (w' : World) (hv : VRow ivC 2 w' p n cap l) => pHull hv hn d)
   rw [← he] at HH
   clear hd h1 h2 hfl he
   cases res with
   | none =>
    unfold hullV ivV at HH
    go_wp2_with fail
    refine (HH.out _ HV.out).mono ?_
    rintro e w3 ⟨rfl, ho⟩
    clear k1
    replace OO := Lib.hid (OO.out.nil_trans ho); replace B1 := Lib.hid (ho.got B1.out (by simp))
    replace HV := Lib.hid (HV.out.kept ho)
    clear ho
    have k1 := c_2 B1.out
    go_wp2
    have HD := setCell_got (o := 1) (.int .i64 0) (setCell_got (o := 0) (.int .i64 0) (B1.out))
    have e0 := cell_got HD 0; have e1 := cell_got HD 1; have le := got_lt HD
    refine bodyPost_ret (v := .tuple #[.agg #[.int .i64 0, .int .i64 0], .bool false]) (by simp [results, Tryz.results150, go_sem, e0, e1]) rfl ⟨rfl, ((OO.out.setCell (.inr HN.out) _).setCell (.inr HN.out) _)⟩
   | some x =>
    obtain ⟨xl, xh⟩ := x
    unfold hullV ivV at HH
    dsimp only at HH
    go_wp2_with fail
    refine (HH.out _ HV.out).mono ?_
    rintro e w3 ⟨rfl, ho⟩
    clear k1
    replace OO := Lib.hid (OO.out.nil_trans ho); replace B1 := Lib.hid (ho.got B1.out (by simp))
    replace HV := Lib.hid (HV.out.kept ho)
    clear ho
    have k1 := c_2 B1.out
    go_wp2
    have HD := setCell_got (o := 1) (.int .i64 xh) (setCell_got (o := 0) (.int .i64 xl) (B1.out))
    have e0 := cell_got HD 0; have e1 := cell_got HD 1; have le := got_lt HD
    refine bodyPost_ret (v := .tuple #[.agg #[.int .i64 xl, .int .i64 xh], .bool true]) (by simp [results, Tryz.results150, go_sem, e0, e1]) rfl ⟨rfl, ((OO.out.setCell (.inr HN.out) _).setCell (.inr HN.out) _)⟩
set_option maxRecDepth 100000 in
set_option maxHeartbeats 2000000 in
theorem pClHonest {w : World} {P : Pl} {c : Cl} (h : ClAt w P c) (hn : P.ps.length ≤ 12) (hs1 : 1 ≤ c.cf.servers) (hs2 : c.cf.servers ≤ 12) (raw : Int) (hr : ∀ s ∈ c.srcs, -9223372036854775808 ≤ raw - s.pat ∧ raw - s.pat ≤ 9223372036854775807) :
  Calls Tryz.prog 85 #[.pointer (some ⟨P.bc, 0, none⟩), .int .i64 raw] w fun e w' => e = .returned (ivV (honC c raw)) ∧ Only [] w w' := by
 have HC := Lib.hid h
 have hcs : P.ps.length = c.srcs.length := h.len
 have HE : Hid (honC c raw = (honI (c.srcs.map (prfC raw c.cf.tol)) ((c.cf.servers - 1) / 2)).getD evI) := Lib.hid rfl
 generalize honC c raw = res at HE ⊢
 have HHR := Lib.hid hr; have HCS := Lib.hid hcs
 have HSV := Lib.hid (And.intro hs1 hs2); have HN12 := Lib.hid hn
 have HEV := Lib.hid (fun w' => pEvery w')
 unfold ivV evI at HEV
 dsimp only at HEV
 clear h hr hcs hs1 hs2
 have hnn := hn
 clear hn
 go_enter Tryz.func85, Tryz.ntmps85
 go_upto_region 2 with (fail)
 refine alloc_abs (G := fun w0 => Code.wp _ _ _ _ w0) ?_
 intro w1 hb1 ho1 hs1
 obtain ⟨b1, hbe1⟩ : ∃ b, w.heap.size = b := ⟨_, rfl⟩
 rw [hbe1] at hb1
 rw [hbe1]
 have HN : Hid (w.heap.size ≤ b1) := Lib.hid (by omega)
 have B1 := Lib.hid hb1; have OO := Lib.hid ho1
 clear hb1 hs1 hbe1
 replace HC := Lib.hid (HC.out.kept ho1)
 clear ho1
 have k1 := c_2 B1.out
 have kc := c_25 HC.out.cl
 obtain ⟨wa, hwa⟩ : ∃ wa : World, wa = w1 := ⟨_, rfl⟩
 subst hwa
 go_wp2
 go_loopw [5, 16] (fun vo vi wr => HonR wa P c raw vo vi wr) (fun _ vi _ => P.ps.length - (intOf vi).toNat)
 case atStart => exact ⟨0, Nat.zero_le _, rfl, own_nil _ _, Only.refl _ _⟩
 case round =>
  obtain ⟨k, hk, rfl, hown, ho⟩ := hrel
  have OW := Lib.hid hown; have OL := Lib.hid ho
  clear hown
  clear k1 kc
  replace OO := Lib.hid (OO.out.nil_trans ho); replace B1 := Lib.hid (ho.got B1.out (by simp))
  replace HC := Lib.hid (HC.out.kept ho)
  have k1 := c_2 B1.out
  have kc := c_25 HC.out.cl
  clear ho
  by_cases hlt : k < P.ps.length
  ·have hic : k < c.srcs.length := HCS.out ▸ hlt
   obtain ⟨s, hs⟩ : ∃ s, c.srcs[k] = s := ⟨_, rfl⟩
   obtain ⟨pb, pa, pf, hp⟩ : ∃ pb pa pf, P.ps[k] = (pb, pa, pf) := ⟨_, _, _, rfl⟩
   have hsr := (HC.out.src k hlt hic).b
   rw [hp, hs] at hsr
   have hmem : s ∈ c.srcs := hs ▸ List.getElem_mem hic
   have HRW := Lib.hid (HHR.out s hmem)
   have HSN : Hid ((c.srcs.take (k + 1)).map (prfC raw c.cf.tol) = (c.srcs.take k).map (prfC raw c.cf.tol) ++ [prfC raw c.cf.tol s]) := Lib.hid (by
    rw [List.take_succ_eq_append_getElem hic, List.map_append, hs]; rfl)
   have hfl : ((c.srcs.take k).map (prfC raw c.cf.tol)).length ≤ k := by rw [List.length_map, List.length_take]; omega
   generalize (c.srcs.take k).map (prfC raw c.cf.tol) = acc at OW HSN hfl
   have cg : wr.cell? ⟨P.g, k, none⟩ = some (.pointer (some ⟨pb, 0, none⟩)) := by
    have := HC.out.row.cell ptrC_len (i := k) (j := 0) (x := pb) (by rw [List.getElem?_map, List.getElem?_eq_getElem hlt, hp]; rfl) (by decide)
    simpa [ptrC] using this
   have lg := HC.out.row.lt
   have hi0 : decide (k < P.ps.length) = true := decide_eq_true hlt
   have hi1 : decide ((k : Int) < (P.ps.length : Int)) = true := decide_eq_true (by omega)
   have B2 := Lib.hid hsr
   unfold SrB at B2
   clear hsr hs hp hmem hic
   have k2 := c_29 B2.out
   go_wp2_with fail
   refine (HEV.out _).mono ?_
   rintro e w2 ⟨rfl, ho⟩
   clear k1 kc k2
   replace OO := Lib.hid (OO.out.nil_trans ho); replace B1 := Lib.hid (ho.got B1.out (by simp)); replace B2 := Lib.hid (ho.got B2.out (by simp))
   replace HC := Lib.hid (HC.out.kept ho)
   replace OW := Lib.hid (OW.out.kept ho)
   replace OL := Lib.hid (OL.out.nil_trans ho)

   clear ho cg lg
   have k1 := c_2 B1.out; have k2 := c_29 B2.out
   have kc := c_25 HC.out.cl
   have HC2 := HC; have OW2 := OW; have OL2 := OL; have O3 := Lib.hid (Only.refl [] w2)
   go_upto_region 6 with (fail)
   refine alloc_abs (G := fun w0 => Code.wp _ _ _ _ w0) ?_
   intro w3 hb ho hs
   obtain ⟨b3, hbe⟩ : ∃ b, w2.heap.size = b := ⟨_, rfl⟩
   rw [hbe] at hb
   rw [hbe]
   have HN3 : Hid (w.heap.size ≤ b3) := Lib.hid (by rw [← hbe]; exact OO.out.size)
   have HM3_1 : Hid (b1 ≠ b3) := Lib.hid (by omega)
   have HM3_2 : Hid (pb ≠ b3) := Lib.hid (by omega)
   have HB3 : Hid (w2.heap.size ≤ b3) := Lib.hid (by omega)
   clear k1 k2 kc
   replace OO := Lib.hid (OO.out.nil_trans ho); replace B1 := Lib.hid (ho.got B1.out (by simp)); replace B2 := Lib.hid (ho.got B2.out (by simp)); have B3 := Lib.hid hb
   replace HC := Lib.hid (HC.out.kept ho)
   replace OW := Lib.hid (OW.out.kept ho)
   replace OL := Lib.hid (OL.out.nil_trans ho)

   replace O3 := Lib.hid (O3.out.nil_trans ho)
   clear hb ho hs hbe
   have k1 := c_2 B1.out; have k2 := c_29 B2.out; have k3 := c_2 B3.out
   have kc := c_25 HC.out.cl
   have HX2 := Lib.hid (got_lt B2.out)
   obtain ⟨pp, cap', rfl, -⟩ := Own.vrow (enc := ivC) (s := 2) ivC_len OW.out
   by_cases hhp : s.hp = true
   ·have oa : bits .and .i64 (knI s.hr s.hp) 2 = 2 := by rw [hhp]; cases s.hr <;> decide
    have HPX : Hid (prfC raw c.cf.tol s = agedC s.prf s.pat raw c.cf.tol) := Lib.hid (by unfold prfC; rw [if_pos hhp])
    have HAG := Lib.hid (fun (w' : World) (h1 : w'.cell? ⟨P.bc, 1, none⟩ = some (.int .i64 c.cf.tol)) (h2 : P.bc < w'.heap.size) => pCAge h1 h2 s.prf s.pat raw HRW.out.1 HRW.out.2)
    generalize agedC s.prf s.pat raw c.cf.tol = ag at HAG HPX
    obtain ⟨o1, o2⟩ := ag
    unfold ivV at HAG
    dsimp only at HAG
    clear hhp
    go_upto_region 7 with (fail)
    refine wp_region_grown [0, 1, 2, 3, 4, 5, 6, 7, 8, 9, 10] [11] (by kernel_rfl) (by kernel_rfl) ?_
    simp only [pick, List.map_cons, List.map_nil, List.getD_cons_succ, List.getD_cons_zero]
    iterate 10 (refine wpQuiet_step (fun K hK => ?_); go_simp; refine hK _ ?_; clear hK K)
    refine wpQuiet_enter_w (by kernel_rfl) 79 #[.pointer (some ⟨P.bc, 0, none⟩), .agg #[.int .i64 s.prf.lo, .int .i64 s.prf.hi], .int .i64 s.pat, .int .i64 raw] (fun _ => by kernel_rfl) (.agg #[.int .i64 o1, .int .i64 o2]) (grown_only2 (fun w' hw' => HAG.out w' (cell_got (hw'.got HC.out.cl (by simp)) 1) (got_lt (hw'.got HC.out.cl (by simp))))) ?_
    refine wpQuiet_nil ?_
    intro w4 hw
    have ho := only_of_plus hw
    clear hw
    clear k1 k2 k3 kc
    replace OO := Lib.hid (OO.out.nil_trans ho); replace B1 := Lib.hid (ho.got B1.out (by simp)); replace B2 := Lib.hid (ho.got B2.out (by simp)); replace B3 := Lib.hid (ho.got B3.out (by simp))
    replace HC := Lib.hid (HC.out.kept ho)
    replace OW := Lib.hid (OW.out.kept ho)
    replace OL := Lib.hid (OL.out.nil_trans ho)

    replace O3 := Lib.hid (O3.out.nil_trans ho)
    have k1 := c_2 B1.out; have k2 := c_29 B2.out; have k3 := c_2 B3.out
    have kc := c_25 HC.out.cl
    clear ho
    go_upto_region 8 with (fail)
    refine wabs (G := fun w0 => Code.wp _ _ _ _ w0) (R := fun w5 => w5.heap[b1]? = some (.cells #[.int .i64 0, .int .i64 0] 45 (0, 0)) ∧ w5.heap[pb]? = some (.cells #[.pointer (some ⟨pa, 0, none⟩), .pointer (some ⟨pf, 0, none⟩), .int .i64 (knI s.hr s.hp), .int .i64 s.rc.bits, .int .i64 s.rc.poll, .int .i64 s.rc.mn, .int .i64 s.rc.mx, .int .i64 s.rc.cnt, .int .i64 s.sent, .int .i64 s.hdr.leap, .int .i64 s.hdr.ver, .int .i64 s.hdr.mode, .int .i64 s.hdr.strat, .int .i64 s.hdr.poll, .int .i64 s.hdr.prec, .int .u32 s.hdr.rdel, .int .u32 s.hdr.rdsp, .int .u32 s.hdr.rid, .int .u64 s.hdr.ref, .int .u64 s.hdr.org, .int .u64 s.hdr.rcv, .int .u64 s.hdr.xmt, .int .i64 s.rt.str, .int .i64 s.rt.dly, .int .i64 s.rt.dsp, .int .u32 s.rt.ref, .int .i64 s.prf.lo, .int .i64 s.prf.hi, .int .i64 s.pat] 108 (0, 0)) ∧ w5.heap[b3]? = some (.cells #[.int .i64 o1, .int .i64 o2] 45 (0, 0)) ∧ Only [] w w5 ∧ ClAt w5 P c ∧ Own ivC 45 2 wa.heap.size w5 (.slice pp acc.length cap') acc ∧ Only [] wa w5) ⟨(setCell_oth (.int .i64 o2) (setCell_oth (.int .i64 o1) B1.out HM3_1.out) HM3_1.out), (setCell_oth (.int .i64 o2) (setCell_oth (.int .i64 o1) B2.out HM3_2.out) HM3_2.out), (setCell_got (o := 1) (.int .i64 o2) (setCell_got (o := 0) (.int .i64 o1) B3.out)), ((OO.out.setCell (.inr HN3.out) _).setCell (.inr HN3.out) _), HC2.out.kept ((O3.out.setCell (.inr HB3.out) _).setCell (.inr HB3.out) _), OW2.out.kept ((O3.out.setCell (.inr HB3.out) _).setCell (.inr HB3.out) _), OL2.out.nil_trans ((O3.out.setCell (.inr HB3.out) _).setCell (.inr HB3.out) _)⟩ ?_
    rintro w5 ⟨g1, g2, g3, ho, q0, q1, q2⟩
    clear k1 k2 k3 kc
    replace B1 := Lib.hid g1; replace B2 := Lib.hid g2; replace B3 := Lib.hid g3; replace OO := Lib.hid ho; replace HC := Lib.hid q0; replace OW := Lib.hid q1; replace OL := Lib.hid q2
    clear ho g1 g2 g3
    have k1 := c_2 B1.out; have k2 := c_29 B2.out; have k3 := c_2 B3.out
    have kc := c_25 HC.out.cl
    clear O3 HC2 OW2 OL2
    go_wp2_with (at_builtin; refine stop_here ?_)
    refine alloc_abs (G := fun w0 => Stop (wpList _ _ _ _ _ w0)) ?_
    intro w8 hb ho hs8
    have B5 := Lib.hid hb
    clear k1 k2 k3 kc
    replace OO := Lib.hid (OO.out.nil_trans ho); replace B1 := Lib.hid (ho.got B1.out (by simp)); replace B2 := Lib.hid (ho.got B2.out (by simp)); replace B3 := Lib.hid (ho.got B3.out (by simp))
    replace HC := Lib.hid (HC.out.kept ho)
    replace OW := Lib.hid (OW.out.kept ho)
    replace OL := Lib.hid (OL.out.nil_trans ho)

    have k1 := c_2 B1.out; have k2 := c_29 B2.out; have k3 := c_2 B3.out
    have kc := c_25 HC.out.cl
    clear hb ho
    refine stop_go ?_
    refine wpList_append_one (w0 := wa) rfl _ _ 182 rfl 45 (.agg #[.int .i64 0, .int .i64 0]) 2 16 Tryz.underlying182 (by kernel_rfl) rfl (by decide) ivC ivC_len ivC_one acc _ rfl OW.out w5.heap.size ⟨o1, o2⟩ rfl (fun j u hj => ?_) (by simp [maxLen]; omega) (by omega) OL.out ?_
    ·rw [cell_got B5.out, ← hj]; simp [ivC]
    intro v9 w9 hown9 ho9 _
    go_wp2
    go_roundw
    case rel => exact ⟨k + 1, by omega, by go_num, by rw [HSN.out, HPX.out]; exact hown9, ho9⟩
    case measure => first | (simp [intOf]; done) | (simp [intOf]; omega)
   ·have oa : bits .and .i64 (knI s.hr s.hp) 2 = 0 := by rw [show s.hp = false by simpa using hhp]; cases s.hr <;> decide
    have HPX : Hid (prfC raw c.cf.tol s = ⟨-4503599627370496, 4503599627370496⟩) := Lib.hid (by unfold prfC; rw [if_neg hhp]; rfl)
    clear hhp
    go_wp2_with (at_builtin; refine stop_here ?_)
    refine alloc_abs (G := fun w0 => Stop (wpList _ _ _ _ _ w0)) ?_
    intro w8 hb ho hs8
    have B5 := Lib.hid hb
    clear k1 k2 k3 kc
    replace OO := Lib.hid (OO.out.nil_trans ho); replace B1 := Lib.hid (ho.got B1.out (by simp)); replace B2 := Lib.hid (ho.got B2.out (by simp)); replace B3 := Lib.hid (ho.got B3.out (by simp))
    replace HC := Lib.hid (HC.out.kept ho)
    replace OW := Lib.hid (OW.out.kept ho)
    replace OL := Lib.hid (OL.out.nil_trans ho)

    have k1 := c_2 B1.out; have k2 := c_29 B2.out; have k3 := c_2 B3.out
    have kc := c_25 HC.out.cl
    clear hb ho
    refine stop_go ?_
    refine wpList_append_one (w0 := wa) rfl _ _ 182 rfl 45 (.agg #[.int .i64 0, .int .i64 0]) 2 16 Tryz.underlying182 (by kernel_rfl) rfl (by decide) ivC ivC_len ivC_one acc _ rfl OW.out w3.heap.size ⟨-4503599627370496, 4503599627370496⟩ rfl (fun j u hj => ?_) (by simp [maxLen]; omega) (by omega) OL.out ?_
    ·rw [cell_got B5.out, ← hj]; simp [ivC]
    intro v9 w9 hown9 ho9 _
    go_wp2
    go_roundw
    case rel => exact ⟨k + 1, by omega, by go_num, by rw [HSN.out, HPX.out]; exact hown9, ho9⟩
    case measure => first | (simp [intOf]; done) | (simp [intOf]; omega)
  ·obtain rfl : k = P.ps.length := by omega
   have HT : Hid ((c.srcs.take P.ps.length).map (prfC raw c.cf.tol) = c.srcs.map (prfC raw c.cf.tol)) := Lib.hid (by rw [List.take_of_length_le (by rw [HCS.out]; exact Nat.le_refl _)])
   rw [HT.out] at OW
   have hi1 : decide ((P.ps.length : Int) < (P.ps.length : Int)) = false := by simp
   have hll : (c.srcs.map (prfC raw c.cf.tol)).length ≤ 48 := by rw [List.length_map, ← HCS.out]; omega
   obtain ⟨f, hf⟩ : ∃ f, (c.cf.servers - 1) / 2 = f := ⟨_, rfl⟩
   obtain ⟨sm, hsm⟩ : ∃ sm, c.cf.servers - 1 = sm := ⟨_, rfl⟩
   have r1 : IntKind.i64.wrap (c.cf.servers - 1) = sm := by rw [IntKind.wrap_i64]; have := HSV.out; omega
   have r2 : sm.tdiv 2 = f := by have := HSV.out; rw [Int.tdiv_eq_ediv_of_nonneg (by omega)]; omega
   have r3 : IntKind.i64.wrap f = f := by rw [IntKind.wrap_i64]; have := HSV.out; omega
   have hf0 : -9223372036854775000 ≤ f := by have := HSV.out; omega
   rw [hf] at HE
   obtain ⟨pp, cap', rfl, hvr⟩ := Own.vrow (enc := ivC) (s := 2) ivC_len OW.out
   have HVR := Lib.hid hvr
   clear hvr hf hsm HT
   generalize c.srcs.map (prfC raw c.cf.tol) = l at HE HVR hll OW ⊢
   have HH := Lib.hid (fun (w' : World) (hv : VRow ivC 2 w' pp l.length cap' l) => pIHonest hv hll f hf0)
   generalize honI l f = ho at HE HH
   go_wp2_with fail
   cases ho with
   | none =>
    obtain rfl : res = ⟨-4503599627370496, 4503599627370496⟩ := HE.out
    unfold hullV ivV at HH
    dsimp only at HH
    refine (HH.out _ HVR.out).mono ?_
    rintro e w2 ⟨rfl, ho⟩
    clear k1 kc
    replace OO := Lib.hid (OO.out.nil_trans ho); replace B1 := Lib.hid (ho.got B1.out (by simp))
    clear ho
    have k1 := c_2 B1.out
    go_upto_region 11 with (fail)
    refine alloc_abs (G := fun w0 => Code.wp _ _ _ _ w0) ?_
    intro w3 hb ho hs
    obtain ⟨b2, hbe⟩ : ∃ b, w2.heap.size = b := ⟨_, rfl⟩
    rw [hbe] at hb
    rw [hbe]
    have HN2 : Hid (w.heap.size ≤ b2) := Lib.hid (by rw [← hbe]; exact OO.out.size)
    have HM2_1 : Hid (b1 ≠ b2) := Lib.hid (by omega)
    clear k1
    replace OO := Lib.hid (OO.out.nil_trans ho); replace B1 := Lib.hid (ho.got B1.out (by simp)); have B2 := Lib.hid hb
    clear hb ho hs hbe
    have k1 := c_2 B1.out; have k2 := c_2 B2.out
    go_wp2_with fail
    refine (HEV.out _).mono ?_
    rintro e w4 ⟨rfl, ho⟩
    clear k1 k2
    replace OO := Lib.hid (OO.out.nil_trans ho); replace B1 := Lib.hid (ho.got B1.out (by simp)); replace B2 := Lib.hid (ho.got B2.out (by simp))
    clear ho
    have k1 := c_2 B1.out; have k2 := c_2 B2.out
    go_wp2
    have HD := setCell_got (o := 1) (.int .i64 4503599627370496) (setCell_got (o := 0) (.int .i64 (-4503599627370496)) (B1.out))
    have e0 := cell_got HD 0; have e1 := cell_got HD 1; have le := got_lt HD
    refine bodyPost_ret (v := .agg #[.int .i64 (-4503599627370496), .int .i64 4503599627370496]) (by simp [results, Tryz.results85, go_sem, e0, e1]) rfl ⟨rfl, ((OO.out.setCell (.inr HN.out) _).setCell (.inr HN.out) _)⟩
   | some x =>
    obtain ⟨xl, xh⟩ := x
    obtain rfl : res = ⟨xl, xh⟩ := HE.out
    unfold hullV ivV at HH
    dsimp only at HH
    refine (HH.out _ HVR.out).mono ?_
    rintro e w2 ⟨rfl, ho⟩
    clear k1 kc
    replace OO := Lib.hid (OO.out.nil_trans ho); replace B1 := Lib.hid (ho.got B1.out (by simp))
    clear ho
    have k1 := c_2 B1.out
    go_upto_region 11 with (fail)
    refine alloc_abs (G := fun w0 => Code.wp _ _ _ _ w0) ?_
    intro w3 hb ho hs
    obtain ⟨b2, hbe⟩ : ∃ b, w2.heap.size = b := ⟨_, rfl⟩
    rw [hbe] at hb
    rw [hbe]
    have HN2 : Hid (w.heap.size ≤ b2) := Lib.hid (by rw [← hbe]; exact OO.out.size)
    have HM2_1 : Hid (b1 ≠ b2) := Lib.hid (by omega)
    clear k1
    replace OO := Lib.hid (OO.out.nil_trans ho); replace B1 := Lib.hid (ho.got B1.out (by simp)); have B2 := Lib.hid hb
    clear hb ho hs hbe
    have k1 := c_2 B1.out; have k2 := c_2 B2.out
    go_wp2
    have HD := setCell_got (o := 1) (.int .i64 xh) (setCell_got (o := 0) (.int .i64 xl) (B1.out))
    have e0 := cell_got HD 0; have e1 := cell_got HD 1; have le := got_lt HD
    refine bodyPost_ret (v := .agg #[.int .i64 xl, .int .i64 xh]) (by simp [results, Tryz.results85, go_sem, e0, e1]) rfl ⟨rfl, ((OO.out.setCell (.inr HN.out) _).setCell (.inr HN.out) _)⟩
set_option maxRecDepth 100000 in
set_option maxHeartbeats 2000000 in
theorem pClRenewed {w : World} {P : Pl} {c : Cl} (h : ClAt w P c) (hn : P.ps.length ≤ 12) (hs1 : 1 ≤ c.cf.servers) (hs2 : c.cf.servers ≤ 12) (raw : Int) (hr : ∀ s ∈ c.srcs, -9223372036854775808 ≤ raw - s.pat ∧ raw - s.pat ≤ 9223372036854775807) (ho0 : -9223372036854775808 ≤ raw - c.owned) (ho1 : raw - c.owned ≤ 9223372036854775807) :
  Calls Tryz.prog 47 #[.pointer (some ⟨P.bc, 0, none⟩), .int .i64 raw] w fun e w' => e = .returned (ivV (renC c raw)) ∧ Only [] w w' := by
 have HC := Lib.hid h
 have HE : Hid (renC c raw = (meetI (honC c raw) (agedC c.own c.owned raw c.cf.tol)).getD (honC c raw)) := Lib.hid rfl
 generalize renC c raw = res at HE ⊢
 have HH := Lib.hid (fun (w' : World) (h : ClAt w' P c) => pClHonest h hn hs1 hs2 raw hr)
 generalize honC c raw = hon at HH HE
 have HAG := Lib.hid (fun (w' : World) (h1 : w'.cell? ⟨P.bc, 1, none⟩ = some (.int .i64 c.cf.tol)) (h2 : P.bc < w'.heap.size) => pCAge h1 h2 c.own c.owned raw ho0 ho1)
 generalize agedC c.own c.owned raw c.cf.tol = ag at HAG HE
 have HM := Lib.hid (fun w' => pMeet hon ag w')
 generalize meetI hon ag = mm at HM HE
 obtain ⟨n1, n2⟩ := hon
 obtain ⟨g1, g2⟩ := ag
 unfold ivV at HH HAG HM ⊢
 dsimp only at HH HAG HM ⊢
 clear h
 go_enter Tryz.func47, Tryz.ntmps47
 go_upto_region 1 with (fail)
 refine alloc_abs (G := fun w0 => Code.wp _ _ _ _ w0) ?_
 intro w1 hb1 ho1 hs1
 obtain ⟨b1, hbe1⟩ : ∃ b, w.heap.size = b := ⟨_, rfl⟩
 rw [hbe1] at hb1
 rw [hbe1]
 have HN : Hid (w.heap.size ≤ b1) := Lib.hid (by omega)
 have B1 := Lib.hid hb1; have OO := Lib.hid ho1
 clear hb1 hs1 hbe1
 replace HC := Lib.hid (HC.out.kept ho1)
 clear ho1
 have k1 := c_2 B1.out
 have kc := c_25 HC.out.cl
 go_wp2_with fail
 refine (HH.out _ HC.out).mono ?_
 rintro e w2 ⟨rfl, ho⟩
 clear k1 kc
 replace OO := Lib.hid (OO.out.nil_trans ho); replace B1 := Lib.hid (ho.got B1.out (by simp))
 replace HC := Lib.hid (HC.out.kept ho)
 clear ho
 have k1 := c_2 B1.out
 have kc := c_25 HC.out.cl
 go_upto_region 2 with (fail)
 refine alloc_abs (G := fun w0 => Code.wp _ _ _ _ w0) ?_
 intro w3 hb ho hs
 obtain ⟨b2, hbe⟩ : ∃ b, w2.heap.size = b := ⟨_, rfl⟩
 rw [hbe] at hb
 rw [hbe]
 have HN2 : Hid (w.heap.size ≤ b2) := Lib.hid (by rw [← hbe]; exact OO.out.size)
 have HM2_1 : Hid (b1 ≠ b2) := Lib.hid (by omega)
 clear k1 kc
 replace OO := Lib.hid (OO.out.nil_trans ho); replace B1 := Lib.hid (ho.got B1.out (by simp)); have B2 := Lib.hid hb
 replace HC := Lib.hid (HC.out.kept ho)
 clear hb ho hs hbe
 have k1 := c_2 B1.out; have k2 := c_2 B2.out
 have kc := c_25 HC.out.cl
 cases mm with
 | none =>
  obtain rfl : res = ⟨n1, n2⟩ := HE.out
  unfold meetV at HM
  dsimp only at HM
  clear HE
  refine wp_region_calm3 [0, 1, 2, 3, 4, 5, 6, 7, 8, 9, 10, 11, 12, 13, 14] [15] [17] (by kernel_rfl) (by kernel_rfl) ?_
  simp only [pick, List.map_cons, List.map_nil, List.getD_cons_succ, List.getD_cons_zero]
  iterate 11 (refine wpCalmG_step (fun K hK => ?_); go_simp; refine hK _ ?_; clear hK K)
  refine wpCalmG_call (by kernel_rfl) 79 #[.pointer (some ⟨P.bc, 0, none⟩), .agg #[.int .i64 c.own.lo, .int .i64 c.own.hi], .int .i64 c.owned, .int .i64 raw] (fun _ => by kernel_rfl) (.agg #[.int .i64 g1, .int .i64 g2]) (fun w' hw' => HAG.out w' (cell_got (hw'.got HC.out.cl (by simp)) 1) (got_lt (hw'.got HC.out.cl (by simp)))) ?_
  refine wpCalmG_call (by kernel_rfl) 86 #[.agg #[.int .i64 n1, .int .i64 n2], .agg #[.int .i64 g1, .int .i64 g2]] (fun _ => by kernel_rfl) (.tuple #[.agg #[.int .i64 0, .int .i64 0], .bool false]) (fun w' hw' => HM.out w') ?_
  iterate 2 (refine wpCalmG_step (fun K hK => ?_); go_simp; refine hK _ ?_; clear hK K)
  refine wpCalmG_nil ?_
  iterate 1 (refine wpCalm_step (fun K hK => ?_); go_simp; refine hK _ ?_; clear hK K)
  refine wpCalm_nil ?_
  refine RestG.by (X := Nat) (fun y a => (a.put (some 7) (.bool false)).put (some 6) (.pointer (some ⟨y, 0, none⟩))) (Fresh w3 (.cells #[.int .i64 0, .int .i64 0] 45 (0, 0))) Fresh.on ?_ ?_
  rotate_left
  ·refine wpAnyG_next 16 (by kernel_rfl) (.inr (onlyC (Only.refl [] w3).drew)) ?_
   intro x0 ho0
   refine wpOp_one rfl ?_
   go_wp2
   simp only [nrm]
   refine alloc_abs (G := fun w0 => wpAnyG _ _ _ _ _ _ _ _ _ w0) ?_
   intro x1 hb0 ho1 _
   have O0 := Lib.hid (((Only.refl [] w3).drew.nil_trans ho0).nil_trans ho1)
   have HY : Hid (w3.heap.size ≤ x0.heap.size) := Lib.hid ho0.size
   generalize x0.heap.size = y at hb0 HY ⊢
   refine wpAnyG_next 17 (by kernel_rfl) (.inr (onlyC O0.out)) ?_
   intro x2 ho2
   have B0 := Lib.hid (ho2.got hb0 (by simp)); have O2 := Lib.hid (O0.out.nil_trans ho2)
   clear hb0 ho1 ho2 ho0 O0
   refine wpOp_one rfl ?_
   have kb := c_2 B0.out
   go_wp2
   simp only [nrm]
   refine wpAnyG_next 18 (by kernel_rfl) (.inl (late_of (by kernel_rfl))) ?_
   intro x3 ho3
   refine wpOp_one rfl ?_
   clear kb
   go_wp2
   simp only [nrm]
   exact wpAnyG_done (by kernel_rfl) (.inl (late_of (by kernel_rfl))) ⟨y, by simp [Act.put], HY.out, (ho3.got (setCell_got (o := 1) (.int .i64 0) (setCell_got (o := 0) (.int .i64 0) (B0.out))) (by simp)), (((O2.out).setCell (.inr HY.out) _).setCell (.inr HY.out) _).nil_trans ho3⟩
  rintro b3 w4 ⟨hbn, hb, ho⟩
  simp only [Act.put, List.setIfInBounds_toArray, List.set_cons_succ, List.set_cons_zero]
  have HN3 : Hid (w.heap.size ≤ b3) := Lib.hid (Nat.le_trans OO.out.size hbn)
  have HM3_1 : Hid (b1 ≠ b3) := Lib.hid (by omega)
  have HM3_2 : Hid (b2 ≠ b3) := Lib.hid (by omega)
  clear k1 k2 kc
  replace OO := Lib.hid (OO.out.nil_trans ho); replace B1 := Lib.hid (ho.got B1.out (by simp)); replace B2 := Lib.hid (ho.got B2.out (by simp)); have B3 := Lib.hid hb
  replace HC := Lib.hid (HC.out.kept ho)
  clear hb ho hbn
  have k1 := c_2 B1.out; have k2 := c_2 B2.out; have k3 := c_2 B3.out
  have kc := c_25 HC.out.cl
  go_wp2
  have HD := setCell_got (o := 1) (.int .i64 n2) (setCell_got (o := 0) (.int .i64 n1) (B1.out))
  have e0 := cell_got HD 0; have e1 := cell_got HD 1; have le := got_lt HD
  refine bodyPost_ret (v := .agg #[.int .i64 n1, .int .i64 n2]) (by simp [results, Tryz.results47, go_sem, e0, e1]) rfl ⟨rfl, ((OO.out.setCell (.inr HN.out) _).setCell (.inr HN.out) _)⟩
 | some y =>
  obtain ⟨yl, yh⟩ := y
  obtain rfl : res = ⟨yl, yh⟩ := HE.out
  unfold meetV at HM
  dsimp only at HM
  clear HE
  refine wp_region_calm3 [0, 1, 2, 3, 4, 5, 6, 7, 8, 9, 10, 11, 12, 13, 14] [15] [17] (by kernel_rfl) (by kernel_rfl) ?_
  simp only [pick, List.map_cons, List.map_nil, List.getD_cons_succ, List.getD_cons_zero]
  iterate 11 (refine wpCalmG_step (fun K hK => ?_); go_simp; refine hK _ ?_; clear hK K)
  refine wpCalmG_call (by kernel_rfl) 79 #[.pointer (some ⟨P.bc, 0, none⟩), .agg #[.int .i64 c.own.lo, .int .i64 c.own.hi], .int .i64 c.owned, .int .i64 raw] (fun _ => by kernel_rfl) (.agg #[.int .i64 g1, .int .i64 g2]) (fun w' hw' => HAG.out w' (cell_got (hw'.got HC.out.cl (by simp)) 1) (got_lt (hw'.got HC.out.cl (by simp)))) ?_
  refine wpCalmG_call (by kernel_rfl) 86 #[.agg #[.int .i64 n1, .int .i64 n2], .agg #[.int .i64 g1, .int .i64 g2]] (fun _ => by kernel_rfl) (.tuple #[.agg #[.int .i64 yl, .int .i64 yh], .bool true]) (fun w' hw' => HM.out w') ?_
  iterate 2 (refine wpCalmG_step (fun K hK => ?_); go_simp; refine hK _ ?_; clear hK K)
  refine wpCalmG_nil ?_
  iterate 1 (refine wpCalm_step (fun K hK => ?_); go_simp; refine hK _ ?_; clear hK K)
  refine wpCalm_nil ?_
  refine RestG.by (X := Nat) (fun y a => (a.put (some 7) (.bool true)).put (some 6) (.pointer (some ⟨y, 0, none⟩))) (Fresh w3 (.cells #[.int .i64 yl, .int .i64 yh] 45 (0, 0))) Fresh.on ?_ ?_
  rotate_left
  ·refine wpAnyG_next 16 (by kernel_rfl) (.inr (onlyC (Only.refl [] w3).drew)) ?_
   intro x0 ho0
   refine wpOp_one rfl ?_
   go_wp2
   simp only [nrm]
   refine alloc_abs (G := fun w0 => wpAnyG _ _ _ _ _ _ _ _ _ w0) ?_
   intro x1 hb0 ho1 _
   have O0 := Lib.hid (((Only.refl [] w3).drew.nil_trans ho0).nil_trans ho1)
   have HY : Hid (w3.heap.size ≤ x0.heap.size) := Lib.hid ho0.size
   generalize x0.heap.size = y at hb0 HY ⊢
   refine wpAnyG_next 17 (by kernel_rfl) (.inr (onlyC O0.out)) ?_
   intro x2 ho2
   have B0 := Lib.hid (ho2.got hb0 (by simp)); have O2 := Lib.hid (O0.out.nil_trans ho2)
   clear hb0 ho1 ho2 ho0 O0
   refine wpOp_one rfl ?_
   have kb := c_2 B0.out
   go_wp2
   simp only [nrm]
   refine wpAnyG_next 18 (by kernel_rfl) (.inl (late_of (by kernel_rfl))) ?_
   intro x3 ho3
   refine wpOp_one rfl ?_
   clear kb
   go_wp2
   simp only [nrm]
   exact wpAnyG_done (by kernel_rfl) (.inl (late_of (by kernel_rfl))) ⟨y, by simp [Act.put], HY.out, (ho3.got (setCell_got (o := 1) (.int .i64 yh) (setCell_got (o := 0) (.int .i64 yl) (B0.out))) (by simp)), (((O2.out).setCell (.inr HY.out) _).setCell (.inr HY.out) _).nil_trans ho3⟩
  rintro b3 w4 ⟨hbn, hb, ho⟩
  simp only [Act.put, List.setIfInBounds_toArray, List.set_cons_succ, List.set_cons_zero]
  have HN3 : Hid (w.heap.size ≤ b3) := Lib.hid (Nat.le_trans OO.out.size hbn)
  have HM3_1 : Hid (b1 ≠ b3) := Lib.hid (by omega)
  have HM3_2 : Hid (b2 ≠ b3) := Lib.hid (by omega)
  clear k1 k2 kc
  replace OO := Lib.hid (OO.out.nil_trans ho); replace B1 := Lib.hid (ho.got B1.out (by simp)); replace B2 := Lib.hid (ho.got B2.out (by simp)); have B3 := Lib.hid hb
  replace HC := Lib.hid (HC.out.kept ho)
  clear hb ho hbn
  have k1 := c_2 B1.out; have k2 := c_2 B2.out; have k3 := c_2 B3.out
  have kc := c_25 HC.out.cl
  go_wp2
  have HD := setCell_got (o := 1) (.int .i64 yh) (setCell_got (o := 0) (.int .i64 yl) (B1.out))
  have e0 := cell_got HD 0; have e1 := cell_got HD 1; have le := got_lt HD
  refine bodyPost_ret (v := .agg #[.int .i64 yl, .int .i64 yh]) (by simp [results, Tryz.results47, go_sem, e0, e1]) rfl ⟨rfl, ((OO.out.setCell (.inr HN.out) _).setCell (.inr HN.out) _)⟩
set_option maxRecDepth 100000 in
set_option maxHeartbeats 2000000 in
theorem pClInterval {w : World} {P : Pl} {c : Cl} (h : ClAt w P c) (hok : CkOk c.ck) (hn : P.ps.length ≤ 12) (hs1 : 1 ≤ c.cf.servers) (hs2 : c.cf.servers ≤ 12) (raw : Int) (h0 : -9223372036854775808 ≤ raw) (h1 : raw ≤ 9223372036854775807) (hr : (clNow c raw).2 = 0 → ∀ s ∈ c.srcs, -9223372036854775808 ≤ raw - s.pat ∧ raw - s.pat ≤ 9223372036854775807) (ho0 : (clNow c raw).2 = 0 → -9223372036854775808 ≤ raw - c.owned ∧ raw - c.owned ≤ 9223372036854775807) :
  Calls Tryz.prog 19 #[.pointer (some ⟨P.bc, 0, none⟩), .int .i64 raw] w fun e w' => e = .returned (.tuple #[ivV (itvC c raw).1, .int .i64 (itvC c raw).2]) ∧ Only [] w w' := by
 have HC := Lib.hid h
 have HE : Hid (itvC c raw = if (clNow c raw).2 = 0 then (renC c raw, 0) else (⟨0, 0⟩, (clNow c raw).2)) := Lib.hid rfl
 generalize itvC c raw = res at HE ⊢
 have HNW := Lib.hid (fun (w' : World) (h : ClAt w' P c) => pClNow h hok raw h0 h1)
 have HH := Lib.hid (fun (w' : World) (hz : (clNow c raw).2 = 0) (h : ClAt w' P c) => pClRenewed h hn hs1 hs2 raw (hr hz) (ho0 hz).1 (ho0 hz).2)
 generalize clNow c raw = nn at HNW HE HH
 generalize renC c raw = ren at HH HE
 obtain ⟨nv, ne⟩ := nn
 obtain ⟨r1, r2⟩ := ren
 unfold ivV at HH ⊢
 dsimp only at HNW HH HE ⊢
 clear h hr ho0
 go_enter Tryz.func19, Tryz.ntmps19
 go_upto_region 1 with (fail)
 refine alloc_abs (G := fun w0 => Code.wp _ _ _ _ w0) ?_
 intro w1 hb1 ho1 hs1
 obtain ⟨b1, hbe1⟩ : ∃ b, w.heap.size = b := ⟨_, rfl⟩
 rw [hbe1] at hb1
 rw [hbe1]
 have HN : Hid (w.heap.size ≤ b1) := Lib.hid (by omega)
 have B1 := Lib.hid hb1; have OO := Lib.hid ho1
 clear hb1 hs1 hbe1
 replace HC := Lib.hid (HC.out.kept ho1)
 clear ho1
 have k1 := c_2 B1.out
 go_wp2_with fail
 refine (HNW.out _ HC.out).mono ?_
 rintro e w2 ⟨rfl, ho⟩
 clear k1
 replace OO := Lib.hid (OO.out.nil_trans ho); replace B1 := Lib.hid (ho.got B1.out (by simp))
 replace HC := Lib.hid (HC.out.kept ho)
 clear ho
 have k1 := c_2 B1.out
 by_cases hz : ne = 0
 ·subst hz
  obtain rfl : res = (⟨r1, r2⟩, 0) := by have := HE.out; simpa using this
  clear HE HNW
  go_wp2_with fail
  refine (HH.out _ trivial HC.out).mono ?_
  rintro e w3 ⟨rfl, ho⟩
  clear k1
  replace OO := Lib.hid (OO.out.nil_trans ho); replace B1 := Lib.hid (ho.got B1.out (by simp))
  replace HC := Lib.hid (HC.out.kept ho)
  clear ho
  have k1 := c_2 B1.out
  go_wp2
  have HD := setCell_got (o := 1) (.int .i64 r2) (setCell_got (o := 0) (.int .i64 r1) (B1.out))
  have e0 := cell_got HD 0; have e1 := cell_got HD 1; have le := got_lt HD
  refine bodyPost_ret (v := .tuple #[.agg #[.int .i64 r1, .int .i64 r2], .int .i64 0]) (by simp [results, Tryz.results19, go_sem, e0, e1]) rfl ⟨rfl, ((OO.out.setCell (.inr HN.out) _).setCell (.inr HN.out) _)⟩
 ·have q1 : (ne != 0) = true := by simpa using hz
  obtain rfl : res = (⟨0, 0⟩, ne) := by have := HE.out; simpa [hz] using this
  clear HE HNW HH hz
  go_wp2
  have HD := setCell_got (o := 1) (.int .i64 0) (setCell_got (o := 0) (.int .i64 0) (B1.out))
  have e0 := cell_got HD 0; have e1 := cell_got HD 1; have le := got_lt HD
  refine bodyPost_ret (v := .tuple #[.agg #[.int .i64 0, .int .i64 0], .int .i64 ne]) (by simp [results, Tryz.results19, go_sem, e0, e1]) rfl ⟨rfl, ((OO.out.setCell (.inr HN.out) _).setCell (.inr HN.out) _)⟩
end Go.Proofs.YtikjdmbfjkbndaaGreat
