/- ClientRises, walked. Conditions: those named in each theorem. -/
import Derived.Test.YtikjdmbfjkbndaaGreatVn
namespace Go.Proofs.YtikjdmbfjkbndaaGreat
open Go.RowKit Go.Sort

set_option maxRecDepth 100000 in
set_option maxHeartbeats 16000000 in
theorem pRises {w : World} {p : Option Addr} {n cap : Nat} {l : List Ax} (cf : Cf) (hv : VRow axC 21 w p n cap l) (hG : ∀ x ∈ l, AxOk x) :
  Calls Tryz.prog 5 #[cfV cf, .slice p n cap] w fun e w' => e = .returned (.bool true) ∧ Only [] w w' := by
 have HV := Lib.hid hv; have HG := Lib.hid hG
 have HSH := Lib.hid (fun w' (o : Only [] w w') => pShort (hv.kept o))
 have HAW := Lib.hid (fun w' => pAwake w')
 have hln := hv.len
 subst hln
 clear hv hG
 obtain ⟨wo, hwo⟩ : ∃ wo : World, wo = w := ⟨_, rfl⟩
 subst hwo
 by_cases hsh : shortC l = true
 rotate_left
 ·have hs2 : shortC l = false := by simpa using hsh
  rw [hs2] at HSH
  clear hsh hs2
  unfold cfV
  have m := mm0 wo []; have k := m.out.k
  go_enter Tryz.func5, Tryz.ntmps5
  go_wp2_with (first | ((with_reducible first | refine cM (HSH.out _ gO) ?_ | refine cM (HAW.out _) ?_); clear k m; intro w m k) | ((with_reducible refine cU ?_); clear k m; intro w m k) | ((with_reducible refine wU ?_); clear k m; intro w m k) | ((with_reducible refine lE (fun w o g k K hK => ⟨rfl, ?_⟩)); simp [results, Tryz.results5, go_sem]; refine hK _ ?_; clear hK K k; skip; exact ⟨rfl, o⟩))
 ·rw [hsh] at HSH
  obtain ⟨h60, hlate⟩ := short_at hsh
  clear hsh
  have HLT := Lib.hid hlate; clear hlate
  by_cases hc : ccheck cf = 0
  rotate_left
  ·have HNN := Lib.hid (fun w' => pNewNo cf 0 0 hc w')
   have HCK := Lib.hid (fun w' => pCCheck cf w')
   generalize ccheck cf = er at hc HCK
   have d1 : (er != 0) = true := by simpa using hc
   have d2 : (er == 0) = false := by simpa using hc
   obtain ⟨sr, tl, pr, kp, ⟨sk, si, sm, sf, sl⟩, ra, mn, mx⟩ := cf
   unfold cfV at HNN HCK ⊢
   dsimp only at HNN HCK ⊢
   have m := mm0 wo []; have k := m.out.k
   go_enter Tryz.func5, Tryz.ntmps5
   go_wp2_with (first | ((with_reducible first | refine cM (HSH.out _ gO) ?_ | refine cM (HAW.out _) ?_ | refine cM (HNN.out _) ?_ | refine cM (HCK.out _) ?_); clear k m; intro w m k) | ((with_reducible refine cU ?_); clear k m; intro w m k) | ((with_reducible refine wU ?_); clear k m; intro w m k) | ((with_reducible refine lE (fun w o g k K hK => ⟨rfl, ?_⟩)); simp [results, Tryz.results5, go_sem]; refine hK _ ?_; clear hK K k; skip; exact ⟨rfl, o⟩))
  ·obtain ⟨c1, c2, c3, c4⟩ := ccheck_ok hc
   have HNW := Lib.hid (fun w' => pClNew cf 0 0 hc c4 c1 c2 w')
   have HU0 := Lib.hid (ClU.new hc); have HL0 := Lib.hid (LastOk.new cf)
   have HS0 := Lib.hid (show (cl0 cf 0 0).ck.steps = 0 from rfl)
   unfold NewR at HNW
   generalize cl0 cf 0 0 = c0 at HNW HU0 HL0 HS0
   clear hc c1 c2 c3 c4
   obtain ⟨sr, tl, pr, kp, ⟨sk, si, sm, sf, sl⟩, ra, mn, mx⟩ := cf
   unfold cfV at HNW ⊢
   dsimp only at HNW ⊢
   have m := mm0 wo []; have k := m.out.k
   go_enter Tryz.func5, Tryz.ntmps5
   go_wp2_with (first | ((with_reducible first | refine cM (HSH.out _ gO) ?_); clear k m; intro w m k) | ((with_reducible refine cU ?_); clear k m; intro w m k) | ((with_reducible refine wU ?_); clear k m; intro w m k))
   refine (HNW.out _).mono ?_
   rintro e w2 ⟨hN, ho2⟩
   obtain ⟨P, rfl, hcl, hge⟩ : ∃ P : Pl, e = .returned (.pointer (some ⟨P.bc, 0, none⟩)) ∧ ClAt w2 P c0 ∧ ∀ b ∈ P.all, w.heap.size ≤ b := by
    rcases hN with ⟨h, _⟩ | ⟨_, h⟩
    ·exact absurd h (by decide)
    ·exact h
   have hsz := m.out.only.size
   have HGE0 := Lib.hid (fun b hb => Nat.le_trans hsz (hge b hb))
   have O2 := Lib.hid (m.out.only.nil_trans ho2)
   have HC0 := Lib.hid hcl
   clear k m hcl hge hN ho2 hsz HNW
   obtain ⟨wb, hwb⟩ : ∃ wb : World, wb = w2 := ⟨_, rfl⟩
   subst hwb
   obtain ⟨bc0, hbc0⟩ : ∃ b, P.bc = b := ⟨_, rfl⟩
   rw [hbc0]
   have hmk := run_make12
   have m := mm0 wb []; have k := m.out.k
   go_wp2_with (first | ((with_reducible refine cU ?_); clear k m; intro w m k) | ((with_reducible refine wU ?_); clear k m; intro w m k))
   clear hmk
   have hfld := run_field5
   clear k
   generalize hbn : wb.heap.size = bn at m ⊢
   have hbx := gB (w := w) (b := bn)
   have hsl := (HC0.out.lt)
   have HI := Lib.hid (show RsS wo w bn bc0 0 0 0 P c0 (List.replicate 12 0) from ⟨hbc0, HC0.out.kept m.out.only, HU0.out, HGE0.out, fun hm => by have := hsl bn hm; omega, by rw [← hbn]; exact O2.out.size, hbx, rfl, fun x hx => by rw [(List.mem_replicate.1 hx).2]; omega, Int.le_refl 0, by omega, HL0.out, O2.out.nil_trans m.out.only⟩)
   clear m hsl hbx
   go_loopw [6, 7, 8, 37] (fun vr vl vs vi wr => RsI wo bn bc0 l.length vr vl vs vi wr) (fun _ _ _ vi _ => l.length - (intOf vi).toNat)
   case atStart => exact ⟨0, 0, 0, P, c0, List.replicate 12 0, Nat.zero_le _, rfl, rfl, by rw [HS0.out], rfl, HI.out⟩
   case round =>
    obtain ⟨j, raw, last, P2, c, ns, hk, rfl, rfl, rfl, rfl, hs⟩ := hrel
    have HS := Lib.hid hs
    clear hs
    by_cases hlt : j < l.length
    rotate_left
    ·obtain rfl : j = l.length := by omega
     have hge : ¬ (l.length : Int) < (l.length : Int) := by omega
     have m := mm0 wr []; have k := m.out.k
     go_wp2_with (first | ((with_reducible first | refine cM (HAW.out _) ?_); clear k m; intro w m k) | ((with_reducible refine cU ?_); clear k m; intro w m k) | ((with_reducible refine wU ?_); clear k m; intro w m k) | ((with_reducible refine lE (fun w o g k K hK => ⟨rfl, ?_⟩)); simp [results, Tryz.results5, go_sem]; refine hK _ ?_; clear hK K k; skip; exact ⟨rfl, HS.out.only.nil_trans o⟩))
    ·have hlt2 : (j : Int) < (l.length : Int) := by omega
     obtain ⟨b, off, rfl, hb, hrg⟩ := HV.out.rng hlt
     have hla := HLT.out j hlt
     have hax := HG.out l[j] (List.getElem_mem hlt)
     generalize l[j] = x at hrg hla hax
     obtain ⟨x1, x2, x3, x4, ⟨e0, e1, e2, e3, e4, e5, e6, e7, e8, e9, e10, e11, e12⟩, ⟨i1, i2⟩, xh, xg⟩ := x
     unfold axC at hrg
     unfold AxOk at hax
     dsimp only at hrg hla hax
     have HTN0 := Lib.hid (show ∀ x ∈ [bn], x ∈ [] ∨ wo.heap.size ≤ x from fun x hx => .inr (by rw [List.mem_singleton.1 hx]; exact HS.out.bo))
     have HX := Lib.hid (fun w' (o : Only [bn] wr w') => hrg w' (HS.out.only.trans o HTN0.out))
     have HAX := Lib.hid hax
     have HNB0 := Lib.hid (show ∀ b ∈ P2.all, b ∉ [bn] from fun b hb hm => HS.out.nb (List.mem_singleton.1 hm ▸ hb))
     clear hrg hax hb
     obtain ⟨rw', hrw⟩ : ∃ r, raw + max x3 0 = r := ⟨_, rfl⟩
     have hq2 : 0 ≤ rw' := by have := HS.out.r0; omega
     have hq3 : rw' ≤ ((j + 1 : Nat) : Int) * 70368744177664 := by have := HS.out.r1; omega
     have hq0 : -9223372036854775808 ≤ rw' := by omega
     have hq1 : rw' ≤ 9223372036854775807 := by omega
     have hwr : IntKind.i64.wrap (raw + max x3 0) = rw' := by rw [hrw, IntKind.wrap_i64]; omega
     have HNow := Lib.hid (fun w' (o : Only [bn] wr w') => pClNow (HS.out.cl.off o HNB0.out) HS.out.u.ok.ck rw' hq0 hq1)
     rw [HS.out.bc] at HNow
     have HLA0 := Lib.hid (HS.out.la rw' (by omega))
     clear hrw hla
     obtain ⟨nw, hnw⟩ : ∃ q, clNow c rw' = q := ⟨_, rfl⟩
     rw [hnw] at HNow HLA0
     obtain ⟨was, er⟩ := nw
     dsimp only at HNow HLA0
     by_cases hez : er = 0
     rotate_left
     ·have dz : (er != 0) = true := by simpa using hez
      clear hez hnw
      have m := mm1 HS.out.hn; have k := m.out.k
      go_wp2_with (first | ((with_reducible refine wpList_wide (b := b) (o := off + j * 21) (cs := [.int .i64 x1, .int .i64 x2, .int .i64 x3, .int .u64 x4, .int .i64 e0, .int .i64 e1, .int .i64 e2, .int .i64 e3, .int .i64 e4, .int .i64 e5, .int .u32 e6, .int .u32 e7, .int .u32 e8, .int .u64 e9, .int .u64 e10, .int .u64 e11, .int .u64 e12, .int .i64 i1, .int .i64 i2, .bool xh, .bool xg]) ?_ (HX.out _ gO) Tryz.underlying70 ?_ ?_ ?_ ?_ ?_ ?_ ?_); (· simp [Act.eval]); (· rfl); (· kernel_rfl); (· kernel_rfl); (· rfl); (· intro p; simp [Act.eval, Act.put]); (· intro p; simp [Act.eval, Act.put]); (clear k m; intro w g hg m; have k := m.out.k)) | ((with_reducible first | refine cM (HNow.out _ gO) ?_ | refine cM (HAW.out _) ?_); clear k m; intro w m k) | ((with_reducible refine cU ?_); clear k m; intro w m k) | ((with_reducible refine wU ?_); clear k m; intro w m k) | ((with_reducible refine lE (fun w o g k K hK => ⟨rfl, ?_⟩)); simp [results, Tryz.results5, go_sem]; refine hK _ ?_; clear hK K k; skip; exact ⟨rfl, HS.out.only.trans o HTN0.out⟩))
     ·subst hez
      have dl : decide (was < last) = false := decide_eq_false (by have := HLA0.out rfl; omega)
      by_cases h0 : 0 ≤ x2
      ·by_cases h1 : x2 < 12
       ·have kn0 : decide (0 ≤ x2) = true := decide_eq_true h0
        have kn0' : decide (x2 ≥ 0) = true := decide_eq_true h0
        have kn1 : decide (x2 < 12) = true := decide_eq_true h1
        by_cases hk0 : x1 = 0
        ·have kd0 : (x1 == 0) = true := by simpa using hk0
         as_aux_lemma =>
          have HSnd := Lib.hid (fun w' (o : Only [bn] wr w') => cSend (HS.out.cl.off o HNB0.out) HS.out.u.ok.ck rw' hq0 hq1 x2 x4)
          rw [HS.out.bc] at HSnd
          have m := mm1 HS.out.hn; have k := m.out.k
          go_wp2_with (first | ((with_reducible refine wpList_wide (b := b) (o := off + j * 21) (cs := [.int .i64 x1, .int .i64 x2, .int .i64 x3, .int .u64 x4, .int .i64 e0, .int .i64 e1, .int .i64 e2, .int .i64 e3, .int .i64 e4, .int .i64 e5, .int .u32 e6, .int .u32 e7, .int .u32 e8, .int .u64 e9, .int .u64 e10, .int .u64 e11, .int .u64 e12, .int .i64 i1, .int .i64 i2, .bool xh, .bool xg]) ?_ (HX.out _ gO) Tryz.underlying70 ?_ ?_ ?_ ?_ ?_ ?_ ?_); (· simp [Act.eval]); (· rfl); (· kernel_rfl); (· kernel_rfl); (· rfl); (· intro p; simp [Act.eval, Act.put]); (· intro p; simp [Act.eval, Act.put]); (clear k m; intro w g hg m; have k := m.out.k)) | ((with_reducible first | refine cM (HNow.out _ gO) ?_); clear k m; intro w m k) | ((with_reducible refine cU ?_); clear k m; intro w m k) | ((with_reducible refine wU ?_); clear k m; intro w m k))
          refine (HSnd.out _ gO).mono ?_
          rintro e w2 ⟨rfl, hcl2, ho2⟩
          have hgP : g ∉ P2.all := fun hm => by have := HS.out.cl.lt g hm; omega
          have hgb : g ≠ bn := fun q => by have := got_lt HS.out.hn; omega
          have hb2 := ho2.got (gB (w := w) (b := bn)) HS.out.nb
          have hg2 := ho2.got (gB (w := w) (b := g)) hgP
          have O3 := Lib.hid ((HS.out.only.trans m.out.only HTN0.out).trans ho2 (fun x hx => .inr (HS.out.ge x hx)))
          have hgo : wo.heap.size ≤ g := Nat.le_trans HS.out.only.size hg
          clear k m
          obtain ⟨wq, hwq⟩ : ∃ wq : World, wq = w2 := ⟨_, rfl⟩
          subst hwq
          have hsn := send_now (c := c) (raw := rw') (by rw [hnw]) x2 x4
          rw [hnw] at hsn
          have hus := HS.out.u.send x2 rw' x4
          generalize clSend c x2 rw' x4 = rr at hcl2 hsn hus ⊢
          obtain ⟨⟨⟨p0, p1, p2, p3, p4, p5, p6, p7, p8, p9, p10, p11, p12⟩, er2⟩, c2⟩ := rr
          unfold npV
          dsimp only at hcl2 hsn hus ⊢
          have HC2 := Lib.hid hcl2; have HU2 := Lib.hid hus; have HN2 := Lib.hid hsn.1; have HS2 := Lib.hid hsn.2
          clear hcl2 hsn hus ho2
          obtain ⟨was2, hwas2⟩ : ∃ x, x = was := ⟨_, rfl⟩
          obtain ⟨P3, hP3⟩ : ∃ x, x = P2 := ⟨_, rfl⟩
          subst hP3 hwas2
          have hb3 := HS.out.bc
          have HNB := Lib.hid (show ∀ b ∈ P3.all, b ∉ [g, bn] from fun b hb hm => by
           rcases List.mem_cons.1 hm with q | hm
           ·exact hgP (q ▸ hb)
           ·exact HNB0.out b hb hm)
          have HGE := Lib.hid HS.out.ge; have HNN := Lib.hid HS.out.nb; have HBO := Lib.hid HS.out.bo
          have HTN := Lib.hid (show ∀ x ∈ [g, bn], x ∈ [] ∨ wo.heap.size ≤ x from fun x hx => by
           rcases List.mem_cons.1 hx with q | hx
           ·exact .inr (q ▸ hgo)
           ·exact HTN0.out x hx)
          by_cases hez : er2 = 0
          ·subst hez
           obtain ⟨ns2, hns2⟩ : ∃ x, ns.set x2.toNat x4 = x := ⟨_, rfl⟩
           have HLN := Lib.hid (show ns2.length = 12 by rw [← hns2, List.length_set]; exact HS.out.ln)
           have HNR := Lib.hid (show ∀ x ∈ ns2, 0 ≤ x ∧ x ≤ 18446744073709551615 by rw [← hns2]; exact nr_set HS.out.nr HAX.out.2.1)
           have HNow2 := Lib.hid (fun w' (o : Only [g, bn] wq w') => pClNow (HC2.out.off o HNB.out) HU2.out.ok.ck rw' hq0 hq1)
           rw [HN2.out, hb3] at HNow2
           have HClk := Lib.hid (fun w' (o : Only [g, bn] wq w') => pClClock (HC2.out.off o HNB.out))
           rw [HS2.out, hb3] at HClk
           dsimp only at HNow2 HClk
           have HLA := Lib.hid (show LastOk c2 rw' was2 from by have q := LastOk.step HU2.out (raw := rw') (by rw [HN2.out]); rw [HN2.out] at q; exact q)
           have HFIN := Lib.hid (fun (w' : World) (o : Only [g, bn] wq w') (hb : w'.heap[bn]? = some (.cells (nsV ns2).toArray 22 (0, 0))) => (⟨hb3, HC2.out.off o HNB.out, HU2.out, HGE.out, HNN.out, HBO.out, hb, HLN.out, HNR.out, hq2, hq3, HLA.out, O3.out.trans o HTN.out⟩ : RsS wo w' bn bc0 (j + 1) rw' was2 P3 c2 ns2))
           obtain ⟨nz, hnz⟩ : ∃ z, ns[x2.toNat]? = some z := ⟨_, List.getElem?_eq_getElem (by rw [HS.out.ln]; omega)⟩
           have HNC := Lib.hid (fun (w' : World) (h : w'.heap[bn]? = some (.cells (nsV ns).toArray 22 (0, 0))) => show w'.cell? ⟨bn, x2.toNat, none⟩ = some (.int .u64 nz) from by rw [cell_got h, List.getElem?_toArray]; exact ns_at hnz)
           clear hnz
           have m : Mm wq [g, bn] wq _ := ⟨((Mem.start wq [g, bn]).ext true hb2 (by simp) (by simp)).ext true hg2 (by simpa using hgb) (by simp)⟩
           have k := m.out.k
           have c := HNC.out _ hb2
           clear hb2 hg2
           go_wp2_with (first | ((with_reducible first | refine cM (HNow2.out _ gO) ?_ | refine cM (HClk.out _ gO) ?_); clear k m; (try clear c); intro w m k) | ((with_reducible refine wU ?_); clear k m; (try clear c); intro w m k; try have c := HNC.out w (gB (w := w) (b := bn))) | (go_roundw; (case rel => exact ⟨j + 1, rw', was2, P3, c2, ns2, by omega, rfl, rfl, by first | rfl | rw [HS2.out], by go_num, HFIN.out _ gO (by have q := gB (w := w) (b := bn); rw [ns_set, hns2] at q; exact q)⟩); (case measure => first | (simp [intOf]; done) | (simp [intOf]; omega))))
          ·have dz : (er2 == 0) = false := by simpa using hez
           clear hez
           obtain ⟨ns2, hns2⟩ : ∃ x, x = ns := ⟨_, rfl⟩
           subst hns2
           have HLN := Lib.hid HS.out.ln; have HNR := Lib.hid HS.out.nr
           have HNow2 := Lib.hid (fun w' (o : Only [g, bn] wq w') => pClNow (HC2.out.off o HNB.out) HU2.out.ok.ck rw' hq0 hq1)
           rw [HN2.out, hb3] at HNow2
           have HClk := Lib.hid (fun w' (o : Only [g, bn] wq w') => pClClock (HC2.out.off o HNB.out))
           rw [HS2.out, hb3] at HClk
           dsimp only at HNow2 HClk
           have HLA := Lib.hid (show LastOk c2 rw' was2 from by have q := LastOk.step HU2.out (raw := rw') (by rw [HN2.out]); rw [HN2.out] at q; exact q)
           have HFIN := Lib.hid (fun (w' : World) (o : Only [g, bn] wq w') (hb : w'.heap[bn]? = some (.cells (nsV ns2).toArray 22 (0, 0))) => (⟨hb3, HC2.out.off o HNB.out, HU2.out, HGE.out, HNN.out, HBO.out, hb, HLN.out, HNR.out, hq2, hq3, HLA.out, O3.out.trans o HTN.out⟩ : RsS wo w' bn bc0 (j + 1) rw' was2 P3 c2 ns2))
           have m : Mm wq [g, bn] wq _ := ⟨((Mem.start wq [g, bn]).ext true hb2 (by simp) (by simp)).ext true hg2 (by simpa using hgb) (by simp)⟩
           have k := m.out.k
           clear hb2 hg2
           go_wp2_with (first | ((with_reducible first | refine cM (HNow2.out _ gO) ?_ | refine cM (HClk.out _ gO) ?_); clear k m; intro w m k) | ((with_reducible refine cU ?_); clear k m; intro w m k) | ((with_reducible refine wU ?_); clear k m; intro w m k) | (go_roundw; (case rel => exact ⟨j + 1, rw', was2, P3, c2, ns2, by omega, rfl, rfl, by first | rfl | rw [HS2.out], by go_num, HFIN.out _ gO gB⟩); (case measure => first | (simp [intOf]; done) | (simp [intOf]; omega))))
        ·by_cases hk1 : x1 = 1
         ·have kd0 : (x1 == 0) = false := by simpa using hk0
          have kd1 : (x1 == 1) = true := by simpa using hk1
          cases xg with
          | true =>
           as_aux_lemma =>
            obtain ⟨nz, hnz⟩ : ∃ z, ns[x2.toNat]? = some z := ⟨_, List.getElem?_eq_getElem (by rw [HS.out.ln]; omega)⟩
            have hnr := HS.out.nr nz (List.mem_of_getElem? hnz)
            obtain ⟨hd, hhd⟩ : ∃ h : Np, (⟨e0, e1, e2, e3, e4, e5, e6, e7, e8, e9, nz, e11, e12⟩ : Np) = h := ⟨_, rfl⟩
            have HPO := Lib.hid (show npOk hd by
             rw [← hhd]
             obtain ⟨-, -, q1, q2, q3, q4, q5, q6, q7⟩ := HAX.out
             exact ⟨q1, q2, q3, hnr, q5, q6, q7⟩)
            have HRc := Lib.hid (fun w' (o : Only [bn] wr w') => dRecv (HS.out.cl.off o HNB0.out) HS.out.u.ok rw' hq0 hq1 x2 hd ⟨i1, i2⟩ xh HPO.out)
            rw [HS.out.bc] at HRc
            have hpv : npV hd = npV ⟨e0, e1, e2, e3, e4, e5, e6, e7, e8, e9, nz, e11, e12⟩ := by rw [← hhd]
            rw [hpv] at HRc
            clear hpv
            unfold npV ivV at HRc
            dsimp only at HRc
            have HNC := Lib.hid (fun (w' : World) (h : w'.heap[bn]? = some (.cells (nsV ns).toArray 22 (0, 0))) => show w'.cell? ⟨bn, x2.toNat, none⟩ = some (.int .u64 nz) from by rw [cell_got h, List.getElem?_toArray]; exact ns_at hnz)
            clear hnz hnr
            have m := mm1 HS.out.hn; have k := m.out.k
            have c := HNC.out _ HS.out.hn
            go_wp2_with (first | ((with_reducible refine wpList_wide (b := b) (o := off + j * 21) (cs := [.int .i64 x1, .int .i64 x2, .int .i64 x3, .int .u64 x4, .int .i64 e0, .int .i64 e1, .int .i64 e2, .int .i64 e3, .int .i64 e4, .int .i64 e5, .int .u32 e6, .int .u32 e7, .int .u32 e8, .int .u64 e9, .int .u64 e10, .int .u64 e11, .int .u64 e12, .int .i64 i1, .int .i64 i2, .bool xh, .bool true]) ?_ (HX.out _ gO) Tryz.underlying70 ?_ ?_ ?_ ?_ ?_ ?_ ?_); (· simp [Act.eval]); (· rfl); (· kernel_rfl); (· kernel_rfl); (· rfl); (· intro p; simp [Act.eval, Act.put]); (· intro p; simp [Act.eval, Act.put]); (clear k m; intro w g hg m; have k := m.out.k)) | ((with_reducible first | refine cM (HNow.out _ gO) ?_); clear k m c; intro w m k; have c := HNC.out w (gB (w := w) (b := bn))) | ((with_reducible refine cU ?_); clear k m c; intro w m k; have c := HNC.out w (gB (w := w) (b := bn))) | ((with_reducible refine wU ?_); clear k m c; intro w m k; have c := HNC.out w (gB (w := w) (b := bn))))
            clear c
            refine (HRc.out _ gO).mono ?_
            rintro e w2 ⟨rfl, hcl2, ho2⟩
            have hb2 := ho2.got (gB (w := w) (b := bn)) HS.out.nb
            have O3 := Lib.hid ((HS.out.only.trans m.out.only HTN0.out).trans ho2 (fun x hx => .inr (HS.out.ge x hx)))
            have hws := m.out.only.size
            clear k m
            obtain ⟨wq, hwq⟩ : ∃ wq : World, wq = w2 := ⟨_, rfl⟩
            subst hwq
            have hsn := recv_now (c := c) (raw := rw') (by rw [hnw]) x2 hd ⟨i1, i2⟩ xh
            rw [hnw] at hsn
            have hus := HS.out.u.recv x2 HPO.out ⟨i1, i2⟩ xh rw'
            generalize clRecv c x2 hd ⟨i1, i2⟩ xh rw' = rr at hcl2 hsn hus ⊢
            obtain ⟨⟨⟨y1, y2, y3⟩, er2⟩, c2⟩ := rr
            dsimp only at hcl2 hsn hus ⊢
            have HC2 := Lib.hid hcl2; have HU2 := Lib.hid hus; have HN2 := Lib.hid hsn.1; have HS2 := Lib.hid hsn.2
            clear hcl2 hsn hus ho2
            obtain ⟨was2, hwas2⟩ : ∃ x, x = was := ⟨_, rfl⟩
            obtain ⟨ns2, hns2⟩ : ∃ x, x = ns := ⟨_, rfl⟩
            obtain ⟨P3, hP3⟩ : ∃ x, x = P2 := ⟨_, rfl⟩
            subst hP3 hwas2 hns2
            have hb3 := HS.out.bc
            have HNB := HNB0; have HGE := Lib.hid HS.out.ge; have HNN := Lib.hid HS.out.nb; have HBO := Lib.hid HS.out.bo; have HLN := Lib.hid HS.out.ln; have HNR := Lib.hid HS.out.nr; have HTN := HTN0
            have HNow2 := Lib.hid (fun w' (o : Only [bn] wq w') => pClNow (HC2.out.off o HNB.out) HU2.out.ok.ck rw' hq0 hq1)
            rw [HN2.out, hb3] at HNow2
            have HClk := Lib.hid (fun w' (o : Only [bn] wq w') => pClClock (HC2.out.off o HNB.out))
            rw [HS2.out, hb3] at HClk
            dsimp only at HNow2 HClk
            have HLA := Lib.hid (show LastOk c2 rw' was2 from by have q := LastOk.step HU2.out (raw := rw') (by rw [HN2.out]); rw [HN2.out] at q; exact q)
            have HFIN := Lib.hid (fun (w' : World) (o : Only [bn] wq w') (hb : w'.heap[bn]? = some (.cells (nsV ns2).toArray 22 (0, 0))) => (⟨hb3, HC2.out.off o HNB.out, HU2.out, HGE.out, HNN.out, HBO.out, hb, HLN.out, HNR.out, hq2, hq3, HLA.out, O3.out.trans o HTN.out⟩ : RsS wo w' bn bc0 (j + 1) rw' was2 P3 c2 ns2))
            have m := mm1 hb2; have k := m.out.k
            clear hb2
            go_wp2_with (first | ((with_reducible first | refine cM (HNow2.out _ gO) ?_ | refine cM (HClk.out _ gO) ?_); clear k m; intro w m k) | ((with_reducible refine cU ?_); clear k m; intro w m k) | ((with_reducible refine wU ?_); clear k m; intro w m k) | (go_roundw; (case rel => exact ⟨j + 1, rw', was2, P3, c2, ns2, by omega, rfl, rfl, by first | rfl | rw [HS2.out], by go_num, HFIN.out _ gO gB⟩); (case measure => first | (simp [intOf]; done) | (simp [intOf]; omega))))
          | false =>
           as_aux_lemma =>
            obtain ⟨hd, hhd⟩ : ∃ h : Np, (⟨e0, e1, e2, e3, e4, e5, e6, e7, e8, e9, e10, e11, e12⟩ : Np) = h := ⟨_, rfl⟩
            have HPO := Lib.hid (show npOk hd by rw [← hhd]; exact HAX.out.2.2)
            have HRc := Lib.hid (fun w' (o : Only [bn] wr w') => dRecv (HS.out.cl.off o HNB0.out) HS.out.u.ok rw' hq0 hq1 x2 hd ⟨i1, i2⟩ xh HPO.out)
            rw [HS.out.bc] at HRc
            have hpv : npV hd = npV ⟨e0, e1, e2, e3, e4, e5, e6, e7, e8, e9, e10, e11, e12⟩ := by rw [← hhd]
            rw [hpv] at HRc
            clear hpv
            unfold npV ivV at HRc
            dsimp only at HRc
            have m := mm1 HS.out.hn; have k := m.out.k
            go_wp2_with (first | ((with_reducible refine wpList_wide (b := b) (o := off + j * 21) (cs := [.int .i64 x1, .int .i64 x2, .int .i64 x3, .int .u64 x4, .int .i64 e0, .int .i64 e1, .int .i64 e2, .int .i64 e3, .int .i64 e4, .int .i64 e5, .int .u32 e6, .int .u32 e7, .int .u32 e8, .int .u64 e9, .int .u64 e10, .int .u64 e11, .int .u64 e12, .int .i64 i1, .int .i64 i2, .bool xh, .bool false]) ?_ (HX.out _ gO) Tryz.underlying70 ?_ ?_ ?_ ?_ ?_ ?_ ?_); (· simp [Act.eval]); (· rfl); (· kernel_rfl); (· kernel_rfl); (· rfl); (· intro p; simp [Act.eval, Act.put]); (· intro p; simp [Act.eval, Act.put]); (clear k m; intro w g hg m; have k := m.out.k)) | ((with_reducible first | refine cM (HNow.out _ gO) ?_); clear k m; intro w m k) | ((with_reducible refine cU ?_); clear k m; intro w m k) | ((with_reducible refine wU ?_); clear k m; intro w m k))
            refine (HRc.out _ gO).mono ?_
            rintro e w2 ⟨rfl, hcl2, ho2⟩
            have hb2 := ho2.got (gB (w := w) (b := bn)) HS.out.nb
            have O3 := Lib.hid ((HS.out.only.trans m.out.only HTN0.out).trans ho2 (fun x hx => .inr (HS.out.ge x hx)))
            have hws := m.out.only.size
            clear k m
            obtain ⟨wq, hwq⟩ : ∃ wq : World, wq = w2 := ⟨_, rfl⟩
            subst hwq
            have hsn := recv_now (c := c) (raw := rw') (by rw [hnw]) x2 hd ⟨i1, i2⟩ xh
            rw [hnw] at hsn
            have hus := HS.out.u.recv x2 HPO.out ⟨i1, i2⟩ xh rw'
            generalize clRecv c x2 hd ⟨i1, i2⟩ xh rw' = rr at hcl2 hsn hus ⊢
            obtain ⟨⟨⟨y1, y2, y3⟩, er2⟩, c2⟩ := rr
            dsimp only at hcl2 hsn hus ⊢
            have HC2 := Lib.hid hcl2; have HU2 := Lib.hid hus; have HN2 := Lib.hid hsn.1; have HS2 := Lib.hid hsn.2
            clear hcl2 hsn hus ho2
            obtain ⟨was2, hwas2⟩ : ∃ x, x = was := ⟨_, rfl⟩
            obtain ⟨ns2, hns2⟩ : ∃ x, x = ns := ⟨_, rfl⟩
            obtain ⟨P3, hP3⟩ : ∃ x, x = P2 := ⟨_, rfl⟩
            subst hP3 hwas2 hns2
            have hb3 := HS.out.bc
            have HNB := HNB0; have HGE := Lib.hid HS.out.ge; have HNN := Lib.hid HS.out.nb; have HBO := Lib.hid HS.out.bo; have HLN := Lib.hid HS.out.ln; have HNR := Lib.hid HS.out.nr; have HTN := HTN0
            have HNow2 := Lib.hid (fun w' (o : Only [bn] wq w') => pClNow (HC2.out.off o HNB.out) HU2.out.ok.ck rw' hq0 hq1)
            rw [HN2.out, hb3] at HNow2
            have HClk := Lib.hid (fun w' (o : Only [bn] wq w') => pClClock (HC2.out.off o HNB.out))
            rw [HS2.out, hb3] at HClk
            dsimp only at HNow2 HClk
            have HLA := Lib.hid (show LastOk c2 rw' was2 from by have q := LastOk.step HU2.out (raw := rw') (by rw [HN2.out]); rw [HN2.out] at q; exact q)
            have HFIN := Lib.hid (fun (w' : World) (o : Only [bn] wq w') (hb : w'.heap[bn]? = some (.cells (nsV ns2).toArray 22 (0, 0))) => (⟨hb3, HC2.out.off o HNB.out, HU2.out, HGE.out, HNN.out, HBO.out, hb, HLN.out, HNR.out, hq2, hq3, HLA.out, O3.out.trans o HTN.out⟩ : RsS wo w' bn bc0 (j + 1) rw' was2 P3 c2 ns2))
            have m := mm1 hb2; have k := m.out.k
            clear hb2
            go_wp2_with (first | ((with_reducible first | refine cM (HNow2.out _ gO) ?_ | refine cM (HClk.out _ gO) ?_); clear k m; intro w m k) | ((with_reducible refine cU ?_); clear k m; intro w m k) | ((with_reducible refine wU ?_); clear k m; intro w m k) | (go_roundw; (case rel => exact ⟨j + 1, rw', was2, P3, c2, ns2, by omega, rfl, rfl, by first | rfl | rw [HS2.out], by go_num, HFIN.out _ gO gB⟩); (case measure => first | (simp [intOf]; done) | (simp [intOf]; omega))))
         ·by_cases hk2 : x1 = 2
          ·have kd0 : (x1 == 0) = false := by simpa using hk0
           have kd1 : (x1 == 1) = false := by simpa using hk1
           have kd2 : (x1 == 2) = true := by simpa using hk2
           as_aux_lemma =>
            have HUp := Lib.hid (fun w' (o : Only [bn] wr w') => pUpdate (HS.out.cl.off o HNB0.out) HS.out.u.ok HS.out.u.sv HS.out.u.g HS.out.u.tol HS.out.u.kp HS.out.u.rd rw' hq0 hq1)
            rw [HS.out.bc] at HUp
            have m := mm1 HS.out.hn; have k := m.out.k
            go_wp2_with (first | ((with_reducible refine wpList_wide (b := b) (o := off + j * 21) (cs := [.int .i64 x1, .int .i64 x2, .int .i64 x3, .int .u64 x4, .int .i64 e0, .int .i64 e1, .int .i64 e2, .int .i64 e3, .int .i64 e4, .int .i64 e5, .int .u32 e6, .int .u32 e7, .int .u32 e8, .int .u64 e9, .int .u64 e10, .int .u64 e11, .int .u64 e12, .int .i64 i1, .int .i64 i2, .bool xh, .bool xg]) ?_ (HX.out _ gO) Tryz.underlying70 ?_ ?_ ?_ ?_ ?_ ?_ ?_); (· simp [Act.eval]); (· rfl); (· kernel_rfl); (· kernel_rfl); (· rfl); (· intro p; simp [Act.eval, Act.put]); (· intro p; simp [Act.eval, Act.put]); (clear k m; intro w g hg m; have k := m.out.k)) | ((with_reducible first | refine cM (HNow.out _ gO) ?_); clear k m; intro w m k) | ((with_reducible refine cU ?_); clear k m; intro w m k) | ((with_reducible refine wU ?_); clear k m; intro w m k))
            refine (HUp.out _ gO).mono ?_
            rintro e w2 ⟨⟨ak, av⟩, er2, c2, rfl, hup, ⟨P3, hb3, hcl3, hP3⟩, ho2⟩
            unfold acV
            dsimp only
            have hb2 := ho2.got (gB (w := w) (b := bn)) HS.out.nb
            have O3 := Lib.hid ((HS.out.only.trans m.out.only HTN0.out).trans ho2 (fun x hx => .inr (HS.out.ge x hx)))
            have hws := m.out.only.size
            clear k m
            obtain ⟨wq, hwq⟩ : ∃ wq : World, wq = w2 := ⟨_, rfl⟩
            subst hwq
            have hbl := got_lt HS.out.hn
            have hnn : bn ∉ P3.all := fun hm => by
             rcases hP3 bn hm with q | q
             ·exact HS.out.nb q
             ·omega
            have hge : ∀ b ∈ P3.all, wo.heap.size ≤ b := fun b hb => by
             rcases hP3 b hb with q | q
             ·exact HS.out.ge b q
             ·exact Nat.le_trans (Nat.le_trans HS.out.only.size hws) q
            obtain ⟨hus, hun⟩ := HS.out.u.upd hup
            replace hun := hun (by rw [hnw])
            rw [hnw] at hun
            have HC2 := Lib.hid hcl3; have HU2 := Lib.hid hus
            have HNB := Lib.hid (show ∀ b ∈ P3.all, b ∉ [bn] from fun b hb hm => hnn (List.mem_singleton.1 hm ▸ hb))
            have HGE := Lib.hid hge; have HNN := Lib.hid hnn; have HBO := Lib.hid HS.out.bo; have HLN := Lib.hid HS.out.ln; have HNR := Lib.hid HS.out.nr; have HTN := HTN0
            obtain ⟨ns2, hns2⟩ : ∃ x, x = ns := ⟨_, rfl⟩
            subst hns2
            clear hcl3 hus hup hge hnn hP3 ho2 hws hbl
            by_cases ha : ak = 2
            ·have da : (ak == 2) = true := by simpa using ha
             rw [if_pos ha] at hun
             obtain ⟨was2, hwas2⟩ : ∃ x, was + av = x := ⟨_, rfl⟩
             dsimp only at hun
             rw [hwas2] at hun
             have hbd := clNow_bd (c := c2) (raw := rw') (by rw [hun.1])
             rw [hun.1] at hbd
             have hst := HU2.out.ok.ck
             have hs0 := hst.s0; have hs1 := hst.s1
             have t1 : IntKind.i64.wrap (was + av) = was2 := by rw [hwas2, IntKind.wrap_i64]; dsimp only at hbd; omega
             have t2 : IntKind.i64.wrap (c.ck.steps + 1) = c.ck.steps + 1 := by rw [IntKind.wrap_i64]; have := hun.2; omega
             have HN2 := Lib.hid hun.1; have HS2 := Lib.hid hun.2
             clear hbd hst hs0 hs1 hun ha hwas2
             have HNow2 := Lib.hid (fun w' (o : Only [bn] wq w') => pClNow (HC2.out.off o HNB.out) HU2.out.ok.ck rw' hq0 hq1)
             rw [HN2.out, hb3] at HNow2
             have HClk := Lib.hid (fun w' (o : Only [bn] wq w') => pClClock (HC2.out.off o HNB.out))
             rw [HS2.out, hb3] at HClk
             dsimp only at HNow2 HClk
             have HLA := Lib.hid (show LastOk c2 rw' was2 from by have q := LastOk.step HU2.out (raw := rw') (by rw [HN2.out]); rw [HN2.out] at q; exact q)
             have HFIN := Lib.hid (fun (w' : World) (o : Only [bn] wq w') (hb : w'.heap[bn]? = some (.cells (nsV ns2).toArray 22 (0, 0))) => (⟨hb3, HC2.out.off o HNB.out, HU2.out, HGE.out, HNN.out, HBO.out, hb, HLN.out, HNR.out, hq2, hq3, HLA.out, O3.out.trans o HTN.out⟩ : RsS wo w' bn bc0 (j + 1) rw' was2 P3 c2 ns2))
             have m := mm1 hb2; have k := m.out.k
             clear hb2
             go_wp2_with (first | ((with_reducible first | refine cM (HNow2.out _ gO) ?_ | refine cM (HClk.out _ gO) ?_); clear k m; intro w m k) | ((with_reducible refine cU ?_); clear k m; intro w m k) | ((with_reducible refine wU ?_); clear k m; intro w m k) | (go_roundw; (case rel => exact ⟨j + 1, rw', was2, P3, c2, ns2, by omega, rfl, rfl, by first | rfl | rw [HS2.out], by go_num, HFIN.out _ gO gB⟩); (case measure => first | (simp [intOf]; done) | (simp [intOf]; omega))))
            ·have da : (ak == 2) = false := by simpa using ha
             rw [if_neg ha] at hun
             obtain ⟨was2, hwas2⟩ : ∃ x, x = was := ⟨_, rfl⟩
             subst hwas2
             have HN2 := Lib.hid hun.1; have HS2 := Lib.hid hun.2
             clear hun ha
             have HNow2 := Lib.hid (fun w' (o : Only [bn] wq w') => pClNow (HC2.out.off o HNB.out) HU2.out.ok.ck rw' hq0 hq1)
             rw [HN2.out, hb3] at HNow2
             have HClk := Lib.hid (fun w' (o : Only [bn] wq w') => pClClock (HC2.out.off o HNB.out))
             rw [HS2.out, hb3] at HClk
             dsimp only at HNow2 HClk
             have HLA := Lib.hid (show LastOk c2 rw' was2 from by have q := LastOk.step HU2.out (raw := rw') (by rw [HN2.out]); rw [HN2.out] at q; exact q)
             have HFIN := Lib.hid (fun (w' : World) (o : Only [bn] wq w') (hb : w'.heap[bn]? = some (.cells (nsV ns2).toArray 22 (0, 0))) => (⟨hb3, HC2.out.off o HNB.out, HU2.out, HGE.out, HNN.out, HBO.out, hb, HLN.out, HNR.out, hq2, hq3, HLA.out, O3.out.trans o HTN.out⟩ : RsS wo w' bn bc0 (j + 1) rw' was2 P3 c2 ns2))
             have m := mm1 hb2; have k := m.out.k
             clear hb2
             go_wp2_with (first | ((with_reducible first | refine cM (HNow2.out _ gO) ?_ | refine cM (HClk.out _ gO) ?_); clear k m; intro w m k) | ((with_reducible refine cU ?_); clear k m; intro w m k) | ((with_reducible refine wU ?_); clear k m; intro w m k) | (go_roundw; (case rel => exact ⟨j + 1, rw', was2, P3, c2, ns2, by omega, rfl, rfl, by first | rfl | rw [HS2.out], by go_num, HFIN.out _ gO gB⟩); (case measure => first | (simp [intOf]; done) | (simp [intOf]; omega))))
          ·have kd0 : (x1 == 0) = false := by simpa using hk0
           have kd1 : (x1 == 1) = false := by simpa using hk1
           have kd2 : (x1 == 2) = false := by simpa using hk2
           as_aux_lemma =>
            obtain ⟨wq, hwq⟩ : ∃ wq : World, wq = wr := ⟨_, rfl⟩
            subst hwq
            have O3 := Lib.hid HS.out.only
            have HC2 := Lib.hid HS.out.cl; have HU2 := Lib.hid HS.out.u
            obtain ⟨c2, hc2⟩ : ∃ x, x = c := ⟨_, rfl⟩
            obtain ⟨ns2, hns2⟩ : ∃ x, x = ns := ⟨_, rfl⟩
            obtain ⟨was2, hwas2⟩ : ∃ x, x = was := ⟨_, rfl⟩
            obtain ⟨P3, hP3⟩ : ∃ x, x = P2 := ⟨_, rfl⟩
            subst hP3 hc2 hns2 hwas2
            have HN2 := Lib.hid hnw
            have hb3 := HS.out.bc
            have HNB := HNB0; have HGE := Lib.hid HS.out.ge; have HNN := Lib.hid HS.out.nb; have HBO := Lib.hid HS.out.bo; have HLN := Lib.hid HS.out.ln; have HNR := Lib.hid HS.out.nr; have HTN := HTN0
            have HNow2 := Lib.hid (fun w' (o : Only [bn] wq w') => pClNow (HC2.out.off o HNB.out) HU2.out.ok.ck rw' hq0 hq1)
            rw [HN2.out, hb3] at HNow2
            have HClk := Lib.hid (fun w' (o : Only [bn] wq w') => pClClock (HC2.out.off o HNB.out))
            rw [hb3] at HClk
            dsimp only at HNow2 HClk
            have HLA := Lib.hid (show LastOk c2 rw' was2 from by have q := LastOk.step HU2.out (raw := rw') (by rw [HN2.out]); rw [HN2.out] at q; exact q)
            have HFIN := Lib.hid (fun (w' : World) (o : Only [bn] wq w') (hb : w'.heap[bn]? = some (.cells (nsV ns2).toArray 22 (0, 0))) => (⟨hb3, HC2.out.off o HNB.out, HU2.out, HGE.out, HNN.out, HBO.out, hb, HLN.out, HNR.out, hq2, hq3, HLA.out, O3.out.trans o HTN.out⟩ : RsS wo w' bn bc0 (j + 1) rw' was2 P3 c2 ns2))
            have m := mm1 HS.out.hn; have k := m.out.k
            go_wp2_with (first | ((with_reducible refine wpList_wide (b := b) (o := off + j * 21) (cs := [.int .i64 x1, .int .i64 x2, .int .i64 x3, .int .u64 x4, .int .i64 e0, .int .i64 e1, .int .i64 e2, .int .i64 e3, .int .i64 e4, .int .i64 e5, .int .u32 e6, .int .u32 e7, .int .u32 e8, .int .u64 e9, .int .u64 e10, .int .u64 e11, .int .u64 e12, .int .i64 i1, .int .i64 i2, .bool xh, .bool xg]) ?_ (HX.out _ gO) Tryz.underlying70 ?_ ?_ ?_ ?_ ?_ ?_ ?_); (· simp [Act.eval]); (· rfl); (· kernel_rfl); (· kernel_rfl); (· rfl); (· intro p; simp [Act.eval, Act.put]); (· intro p; simp [Act.eval, Act.put]); (clear k m; intro w g hg m; have k := m.out.k)) | ((with_reducible first | refine cM (HNow2.out _ gO) ?_ | refine cM (HClk.out _ gO) ?_); clear k m; intro w m k) | ((with_reducible refine cU ?_); clear k m; intro w m k) | ((with_reducible refine wU ?_); clear k m; intro w m k) | (go_roundw; (case rel => exact ⟨j + 1, rw', was2, P3, c2, ns2, by omega, rfl, rfl, by first | rfl | rw [HS2.out], by go_num, HFIN.out _ gO gB⟩); (case measure => first | (simp [intOf]; done) | (simp [intOf]; omega))))
       ·have kn0 : decide (0 ≤ x2) = true := decide_eq_true h0
        have kn0' : decide (x2 ≥ 0) = true := decide_eq_true h0
        have kn1 : decide (x2 < 12) = false := decide_eq_false h1
        by_cases hk0 : x1 = 0
        ·have kd0 : (x1 == 0) = true := by simpa using hk0
         as_aux_lemma =>
          have HSnd := Lib.hid (fun w' (o : Only [bn] wr w') => cSend (HS.out.cl.off o HNB0.out) HS.out.u.ok.ck rw' hq0 hq1 x2 x4)
          rw [HS.out.bc] at HSnd
          have m := mm1 HS.out.hn; have k := m.out.k
          go_wp2_with (first | ((with_reducible refine wpList_wide (b := b) (o := off + j * 21) (cs := [.int .i64 x1, .int .i64 x2, .int .i64 x3, .int .u64 x4, .int .i64 e0, .int .i64 e1, .int .i64 e2, .int .i64 e3, .int .i64 e4, .int .i64 e5, .int .u32 e6, .int .u32 e7, .int .u32 e8, .int .u64 e9, .int .u64 e10, .int .u64 e11, .int .u64 e12, .int .i64 i1, .int .i64 i2, .bool xh, .bool xg]) ?_ (HX.out _ gO) Tryz.underlying70 ?_ ?_ ?_ ?_ ?_ ?_ ?_); (· simp [Act.eval]); (· rfl); (· kernel_rfl); (· kernel_rfl); (· rfl); (· intro p; simp [Act.eval, Act.put]); (· intro p; simp [Act.eval, Act.put]); (clear k m; intro w g hg m; have k := m.out.k)) | ((with_reducible first | refine cM (HNow.out _ gO) ?_); clear k m; intro w m k) | ((with_reducible refine cU ?_); clear k m; intro w m k) | ((with_reducible refine wU ?_); clear k m; intro w m k))
          refine (HSnd.out _ gO).mono ?_
          rintro e w2 ⟨rfl, hcl2, ho2⟩
          have hgP : g ∉ P2.all := fun hm => by have := HS.out.cl.lt g hm; omega
          have hgb : g ≠ bn := fun q => by have := got_lt HS.out.hn; omega
          have hb2 := ho2.got (gB (w := w) (b := bn)) HS.out.nb
          have hg2 := ho2.got (gB (w := w) (b := g)) hgP
          have O3 := Lib.hid ((HS.out.only.trans m.out.only HTN0.out).trans ho2 (fun x hx => .inr (HS.out.ge x hx)))
          have hgo : wo.heap.size ≤ g := Nat.le_trans HS.out.only.size hg
          clear k m
          obtain ⟨wq, hwq⟩ : ∃ wq : World, wq = w2 := ⟨_, rfl⟩
          subst hwq
          have hsn := send_now (c := c) (raw := rw') (by rw [hnw]) x2 x4
          rw [hnw] at hsn
          have hus := HS.out.u.send x2 rw' x4
          generalize clSend c x2 rw' x4 = rr at hcl2 hsn hus ⊢
          obtain ⟨⟨⟨p0, p1, p2, p3, p4, p5, p6, p7, p8, p9, p10, p11, p12⟩, er2⟩, c2⟩ := rr
          unfold npV
          dsimp only at hcl2 hsn hus ⊢
          have HC2 := Lib.hid hcl2; have HU2 := Lib.hid hus; have HN2 := Lib.hid hsn.1; have HS2 := Lib.hid hsn.2
          clear hcl2 hsn hus ho2
          obtain ⟨was2, hwas2⟩ : ∃ x, x = was := ⟨_, rfl⟩
          obtain ⟨P3, hP3⟩ : ∃ x, x = P2 := ⟨_, rfl⟩
          subst hP3 hwas2
          have hb3 := HS.out.bc
          have HNB := Lib.hid (show ∀ b ∈ P3.all, b ∉ [g, bn] from fun b hb hm => by
           rcases List.mem_cons.1 hm with q | hm
           ·exact hgP (q ▸ hb)
           ·exact HNB0.out b hb hm)
          have HGE := Lib.hid HS.out.ge; have HNN := Lib.hid HS.out.nb; have HBO := Lib.hid HS.out.bo
          have HTN := Lib.hid (show ∀ x ∈ [g, bn], x ∈ [] ∨ wo.heap.size ≤ x from fun x hx => by
           rcases List.mem_cons.1 hx with q | hx
           ·exact .inr (q ▸ hgo)
           ·exact HTN0.out x hx)
          obtain ⟨ns2, hns2⟩ : ∃ x, x = ns := ⟨_, rfl⟩
          subst hns2
          have HLN := Lib.hid HS.out.ln; have HNR := Lib.hid HS.out.nr
          have HNow2 := Lib.hid (fun w' (o : Only [g, bn] wq w') => pClNow (HC2.out.off o HNB.out) HU2.out.ok.ck rw' hq0 hq1)
          rw [HN2.out, hb3] at HNow2
          have HClk := Lib.hid (fun w' (o : Only [g, bn] wq w') => pClClock (HC2.out.off o HNB.out))
          rw [HS2.out, hb3] at HClk
          dsimp only at HNow2 HClk
          have HLA := Lib.hid (show LastOk c2 rw' was2 from by have q := LastOk.step HU2.out (raw := rw') (by rw [HN2.out]); rw [HN2.out] at q; exact q)
          have HFIN := Lib.hid (fun (w' : World) (o : Only [g, bn] wq w') (hb : w'.heap[bn]? = some (.cells (nsV ns2).toArray 22 (0, 0))) => (⟨hb3, HC2.out.off o HNB.out, HU2.out, HGE.out, HNN.out, HBO.out, hb, HLN.out, HNR.out, hq2, hq3, HLA.out, O3.out.trans o HTN.out⟩ : RsS wo w' bn bc0 (j + 1) rw' was2 P3 c2 ns2))
          have m : Mm wq [g, bn] wq _ := ⟨((Mem.start wq [g, bn]).ext true hb2 (by simp) (by simp)).ext true hg2 (by simpa using hgb) (by simp)⟩
          have k := m.out.k
          clear hb2 hg2
          by_cases hez : er2 = 0
          ·have dz : (er2 == 0) = true := by simpa using hez
           clear hez
           go_wp2_with (first | ((with_reducible first | refine cM (HNow2.out _ gO) ?_ | refine cM (HClk.out _ gO) ?_); clear k m; intro w m k) | ((with_reducible refine cU ?_); clear k m; intro w m k) | ((with_reducible refine wU ?_); clear k m; intro w m k) | (go_roundw; (case rel => exact ⟨j + 1, rw', was2, P3, c2, ns2, by omega, rfl, rfl, by first | rfl | rw [HS2.out], by go_num, HFIN.out _ gO gB⟩); (case measure => first | (simp [intOf]; done) | (simp [intOf]; omega))))
          ·have dz : (er2 == 0) = false := by simpa using hez
           clear hez
           go_wp2_with (first | ((with_reducible first | refine cM (HNow2.out _ gO) ?_ | refine cM (HClk.out _ gO) ?_); clear k m; intro w m k) | ((with_reducible refine cU ?_); clear k m; intro w m k) | ((with_reducible refine wU ?_); clear k m; intro w m k) | (go_roundw; (case rel => exact ⟨j + 1, rw', was2, P3, c2, ns2, by omega, rfl, rfl, by first | rfl | rw [HS2.out], by go_num, HFIN.out _ gO gB⟩); (case measure => first | (simp [intOf]; done) | (simp [intOf]; omega))))
        ·by_cases hk1 : x1 = 1
         ·have kd0 : (x1 == 0) = false := by simpa using hk0
          have kd1 : (x1 == 1) = true := by simpa using hk1
          cases xg with
          | true =>
           as_aux_lemma =>
            obtain ⟨hd, hhd⟩ : ∃ h : Np, (⟨e0, e1, e2, e3, e4, e5, e6, e7, e8, e9, e10, e11, e12⟩ : Np) = h := ⟨_, rfl⟩
            have HPO := Lib.hid (show npOk hd by rw [← hhd]; exact HAX.out.2.2)
            have HRc := Lib.hid (fun w' (o : Only [bn] wr w') => dRecv (HS.out.cl.off o HNB0.out) HS.out.u.ok rw' hq0 hq1 x2 hd ⟨i1, i2⟩ xh HPO.out)
            rw [HS.out.bc] at HRc
            have hpv : npV hd = npV ⟨e0, e1, e2, e3, e4, e5, e6, e7, e8, e9, e10, e11, e12⟩ := by rw [← hhd]
            rw [hpv] at HRc
            clear hpv
            unfold npV ivV at HRc
            dsimp only at HRc
            have m := mm1 HS.out.hn; have k := m.out.k
            go_wp2_with (first | ((with_reducible refine wpList_wide (b := b) (o := off + j * 21) (cs := [.int .i64 x1, .int .i64 x2, .int .i64 x3, .int .u64 x4, .int .i64 e0, .int .i64 e1, .int .i64 e2, .int .i64 e3, .int .i64 e4, .int .i64 e5, .int .u32 e6, .int .u32 e7, .int .u32 e8, .int .u64 e9, .int .u64 e10, .int .u64 e11, .int .u64 e12, .int .i64 i1, .int .i64 i2, .bool xh, .bool true]) ?_ (HX.out _ gO) Tryz.underlying70 ?_ ?_ ?_ ?_ ?_ ?_ ?_); (· simp [Act.eval]); (· rfl); (· kernel_rfl); (· kernel_rfl); (· rfl); (· intro p; simp [Act.eval, Act.put]); (· intro p; simp [Act.eval, Act.put]); (clear k m; intro w g hg m; have k := m.out.k)) | ((with_reducible first | refine cM (HNow.out _ gO) ?_); clear k m; intro w m k) | ((with_reducible refine cU ?_); clear k m; intro w m k) | ((with_reducible refine wU ?_); clear k m; intro w m k))
            refine (HRc.out _ gO).mono ?_
            rintro e w2 ⟨rfl, hcl2, ho2⟩
            have hb2 := ho2.got (gB (w := w) (b := bn)) HS.out.nb
            have O3 := Lib.hid ((HS.out.only.trans m.out.only HTN0.out).trans ho2 (fun x hx => .inr (HS.out.ge x hx)))
            have hws := m.out.only.size
            clear k m
            obtain ⟨wq, hwq⟩ : ∃ wq : World, wq = w2 := ⟨_, rfl⟩
            subst hwq
            have hsn := recv_now (c := c) (raw := rw') (by rw [hnw]) x2 hd ⟨i1, i2⟩ xh
            rw [hnw] at hsn
            have hus := HS.out.u.recv x2 HPO.out ⟨i1, i2⟩ xh rw'
            generalize clRecv c x2 hd ⟨i1, i2⟩ xh rw' = rr at hcl2 hsn hus ⊢
            obtain ⟨⟨⟨y1, y2, y3⟩, er2⟩, c2⟩ := rr
            dsimp only at hcl2 hsn hus ⊢
            have HC2 := Lib.hid hcl2; have HU2 := Lib.hid hus; have HN2 := Lib.hid hsn.1; have HS2 := Lib.hid hsn.2
            clear hcl2 hsn hus ho2
            obtain ⟨was2, hwas2⟩ : ∃ x, x = was := ⟨_, rfl⟩
            obtain ⟨ns2, hns2⟩ : ∃ x, x = ns := ⟨_, rfl⟩
            obtain ⟨P3, hP3⟩ : ∃ x, x = P2 := ⟨_, rfl⟩
            subst hP3 hwas2 hns2
            have hb3 := HS.out.bc
            have HNB := HNB0; have HGE := Lib.hid HS.out.ge; have HNN := Lib.hid HS.out.nb; have HBO := Lib.hid HS.out.bo; have HLN := Lib.hid HS.out.ln; have HNR := Lib.hid HS.out.nr; have HTN := HTN0
            have HNow2 := Lib.hid (fun w' (o : Only [bn] wq w') => pClNow (HC2.out.off o HNB.out) HU2.out.ok.ck rw' hq0 hq1)
            rw [HN2.out, hb3] at HNow2
            have HClk := Lib.hid (fun w' (o : Only [bn] wq w') => pClClock (HC2.out.off o HNB.out))
            rw [HS2.out, hb3] at HClk
            dsimp only at HNow2 HClk
            have HLA := Lib.hid (show LastOk c2 rw' was2 from by have q := LastOk.step HU2.out (raw := rw') (by rw [HN2.out]); rw [HN2.out] at q; exact q)
            have HFIN := Lib.hid (fun (w' : World) (o : Only [bn] wq w') (hb : w'.heap[bn]? = some (.cells (nsV ns2).toArray 22 (0, 0))) => (⟨hb3, HC2.out.off o HNB.out, HU2.out, HGE.out, HNN.out, HBO.out, hb, HLN.out, HNR.out, hq2, hq3, HLA.out, O3.out.trans o HTN.out⟩ : RsS wo w' bn bc0 (j + 1) rw' was2 P3 c2 ns2))
            have m := mm1 hb2; have k := m.out.k
            clear hb2
            go_wp2_with (first | ((with_reducible first | refine cM (HNow2.out _ gO) ?_ | refine cM (HClk.out _ gO) ?_); clear k m; intro w m k) | ((with_reducible refine cU ?_); clear k m; intro w m k) | ((with_reducible refine wU ?_); clear k m; intro w m k) | (go_roundw; (case rel => exact ⟨j + 1, rw', was2, P3, c2, ns2, by omega, rfl, rfl, by first | rfl | rw [HS2.out], by go_num, HFIN.out _ gO gB⟩); (case measure => first | (simp [intOf]; done) | (simp [intOf]; omega))))
          | false =>
           as_aux_lemma =>
            obtain ⟨hd, hhd⟩ : ∃ h : Np, (⟨e0, e1, e2, e3, e4, e5, e6, e7, e8, e9, e10, e11, e12⟩ : Np) = h := ⟨_, rfl⟩
            have HPO := Lib.hid (show npOk hd by rw [← hhd]; exact HAX.out.2.2)
            have HRc := Lib.hid (fun w' (o : Only [bn] wr w') => dRecv (HS.out.cl.off o HNB0.out) HS.out.u.ok rw' hq0 hq1 x2 hd ⟨i1, i2⟩ xh HPO.out)
            rw [HS.out.bc] at HRc
            have hpv : npV hd = npV ⟨e0, e1, e2, e3, e4, e5, e6, e7, e8, e9, e10, e11, e12⟩ := by rw [← hhd]
            rw [hpv] at HRc
            clear hpv
            unfold npV ivV at HRc
            dsimp only at HRc
            have m := mm1 HS.out.hn; have k := m.out.k
            go_wp2_with (first | ((with_reducible refine wpList_wide (b := b) (o := off + j * 21) (cs := [.int .i64 x1, .int .i64 x2, .int .i64 x3, .int .u64 x4, .int .i64 e0, .int .i64 e1, .int .i64 e2, .int .i64 e3, .int .i64 e4, .int .i64 e5, .int .u32 e6, .int .u32 e7, .int .u32 e8, .int .u64 e9, .int .u64 e10, .int .u64 e11, .int .u64 e12, .int .i64 i1, .int .i64 i2, .bool xh, .bool false]) ?_ (HX.out _ gO) Tryz.underlying70 ?_ ?_ ?_ ?_ ?_ ?_ ?_); (· simp [Act.eval]); (· rfl); (· kernel_rfl); (· kernel_rfl); (· rfl); (· intro p; simp [Act.eval, Act.put]); (· intro p; simp [Act.eval, Act.put]); (clear k m; intro w g hg m; have k := m.out.k)) | ((with_reducible first | refine cM (HNow.out _ gO) ?_); clear k m; intro w m k) | ((with_reducible refine cU ?_); clear k m; intro w m k) | ((with_reducible refine wU ?_); clear k m; intro w m k))
            refine (HRc.out _ gO).mono ?_
            rintro e w2 ⟨rfl, hcl2, ho2⟩
            have hb2 := ho2.got (gB (w := w) (b := bn)) HS.out.nb
            have O3 := Lib.hid ((HS.out.only.trans m.out.only HTN0.out).trans ho2 (fun x hx => .inr (HS.out.ge x hx)))
            have hws := m.out.only.size
            clear k m
            obtain ⟨wq, hwq⟩ : ∃ wq : World, wq = w2 := ⟨_, rfl⟩
            subst hwq
            have hsn := recv_now (c := c) (raw := rw') (by rw [hnw]) x2 hd ⟨i1, i2⟩ xh
            rw [hnw] at hsn
            have hus := HS.out.u.recv x2 HPO.out ⟨i1, i2⟩ xh rw'
            generalize clRecv c x2 hd ⟨i1, i2⟩ xh rw' = rr at hcl2 hsn hus ⊢
            obtain ⟨⟨⟨y1, y2, y3⟩, er2⟩, c2⟩ := rr
            dsimp only at hcl2 hsn hus ⊢
            have HC2 := Lib.hid hcl2; have HU2 := Lib.hid hus; have HN2 := Lib.hid hsn.1; have HS2 := Lib.hid hsn.2
            clear hcl2 hsn hus ho2
            obtain ⟨was2, hwas2⟩ : ∃ x, x = was := ⟨_, rfl⟩
            obtain ⟨ns2, hns2⟩ : ∃ x, x = ns := ⟨_, rfl⟩
            obtain ⟨P3, hP3⟩ : ∃ x, x = P2 := ⟨_, rfl⟩
            subst hP3 hwas2 hns2
            have hb3 := HS.out.bc
            have HNB := HNB0; have HGE := Lib.hid HS.out.ge; have HNN := Lib.hid HS.out.nb; have HBO := Lib.hid HS.out.bo; have HLN := Lib.hid HS.out.ln; have HNR := Lib.hid HS.out.nr; have HTN := HTN0
            have HNow2 := Lib.hid (fun w' (o : Only [bn] wq w') => pClNow (HC2.out.off o HNB.out) HU2.out.ok.ck rw' hq0 hq1)
            rw [HN2.out, hb3] at HNow2
            have HClk := Lib.hid (fun w' (o : Only [bn] wq w') => pClClock (HC2.out.off o HNB.out))
            rw [HS2.out, hb3] at HClk
            dsimp only at HNow2 HClk
            have HLA := Lib.hid (show LastOk c2 rw' was2 from by have q := LastOk.step HU2.out (raw := rw') (by rw [HN2.out]); rw [HN2.out] at q; exact q)
            have HFIN := Lib.hid (fun (w' : World) (o : Only [bn] wq w') (hb : w'.heap[bn]? = some (.cells (nsV ns2).toArray 22 (0, 0))) => (⟨hb3, HC2.out.off o HNB.out, HU2.out, HGE.out, HNN.out, HBO.out, hb, HLN.out, HNR.out, hq2, hq3, HLA.out, O3.out.trans o HTN.out⟩ : RsS wo w' bn bc0 (j + 1) rw' was2 P3 c2 ns2))
            have m := mm1 hb2; have k := m.out.k
            clear hb2
            go_wp2_with (first | ((with_reducible first | refine cM (HNow2.out _ gO) ?_ | refine cM (HClk.out _ gO) ?_); clear k m; intro w m k) | ((with_reducible refine cU ?_); clear k m; intro w m k) | ((with_reducible refine wU ?_); clear k m; intro w m k) | (go_roundw; (case rel => exact ⟨j + 1, rw', was2, P3, c2, ns2, by omega, rfl, rfl, by first | rfl | rw [HS2.out], by go_num, HFIN.out _ gO gB⟩); (case measure => first | (simp [intOf]; done) | (simp [intOf]; omega))))
         ·by_cases hk2 : x1 = 2
          ·have kd0 : (x1 == 0) = false := by simpa using hk0
           have kd1 : (x1 == 1) = false := by simpa using hk1
           have kd2 : (x1 == 2) = true := by simpa using hk2
           as_aux_lemma =>
            have HUp := Lib.hid (fun w' (o : Only [bn] wr w') => pUpdate (HS.out.cl.off o HNB0.out) HS.out.u.ok HS.out.u.sv HS.out.u.g HS.out.u.tol HS.out.u.kp HS.out.u.rd rw' hq0 hq1)
            rw [HS.out.bc] at HUp
            have m := mm1 HS.out.hn; have k := m.out.k
            go_wp2_with (first | ((with_reducible refine wpList_wide (b := b) (o := off + j * 21) (cs := [.int .i64 x1, .int .i64 x2, .int .i64 x3, .int .u64 x4, .int .i64 e0, .int .i64 e1, .int .i64 e2, .int .i64 e3, .int .i64 e4, .int .i64 e5, .int .u32 e6, .int .u32 e7, .int .u32 e8, .int .u64 e9, .int .u64 e10, .int .u64 e11, .int .u64 e12, .int .i64 i1, .int .i64 i2, .bool xh, .bool xg]) ?_ (HX.out _ gO) Tryz.underlying70 ?_ ?_ ?_ ?_ ?_ ?_ ?_); (· simp [Act.eval]); (· rfl); (· kernel_rfl); (· kernel_rfl); (· rfl); (· intro p; simp [Act.eval, Act.put]); (· intro p; simp [Act.eval, Act.put]); (clear k m; intro w g hg m; have k := m.out.k)) | ((with_reducible first | refine cM (HNow.out _ gO) ?_); clear k m; intro w m k) | ((with_reducible refine cU ?_); clear k m; intro w m k) | ((with_reducible refine wU ?_); clear k m; intro w m k))
            refine (HUp.out _ gO).mono ?_
            rintro e w2 ⟨⟨ak, av⟩, er2, c2, rfl, hup, ⟨P3, hb3, hcl3, hP3⟩, ho2⟩
            unfold acV
            dsimp only
            have hb2 := ho2.got (gB (w := w) (b := bn)) HS.out.nb
            have O3 := Lib.hid ((HS.out.only.trans m.out.only HTN0.out).trans ho2 (fun x hx => .inr (HS.out.ge x hx)))
            have hws := m.out.only.size
            clear k m
            obtain ⟨wq, hwq⟩ : ∃ wq : World, wq = w2 := ⟨_, rfl⟩
            subst hwq
            have hbl := got_lt HS.out.hn
            have hnn : bn ∉ P3.all := fun hm => by
             rcases hP3 bn hm with q | q
             ·exact HS.out.nb q
             ·omega
            have hge : ∀ b ∈ P3.all, wo.heap.size ≤ b := fun b hb => by
             rcases hP3 b hb with q | q
             ·exact HS.out.ge b q
             ·exact Nat.le_trans (Nat.le_trans HS.out.only.size hws) q
            obtain ⟨hus, hun⟩ := HS.out.u.upd hup
            replace hun := hun (by rw [hnw])
            rw [hnw] at hun
            have HC2 := Lib.hid hcl3; have HU2 := Lib.hid hus
            have HNB := Lib.hid (show ∀ b ∈ P3.all, b ∉ [bn] from fun b hb hm => hnn (List.mem_singleton.1 hm ▸ hb))
            have HGE := Lib.hid hge; have HNN := Lib.hid hnn; have HBO := Lib.hid HS.out.bo; have HLN := Lib.hid HS.out.ln; have HNR := Lib.hid HS.out.nr; have HTN := HTN0
            obtain ⟨ns2, hns2⟩ : ∃ x, x = ns := ⟨_, rfl⟩
            subst hns2
            clear hcl3 hus hup hge hnn hP3 ho2 hws hbl
            by_cases ha : ak = 2
            ·have da : (ak == 2) = true := by simpa using ha
             rw [if_pos ha] at hun
             obtain ⟨was2, hwas2⟩ : ∃ x, was + av = x := ⟨_, rfl⟩
             dsimp only at hun
             rw [hwas2] at hun
             have hbd := clNow_bd (c := c2) (raw := rw') (by rw [hun.1])
             rw [hun.1] at hbd
             have hst := HU2.out.ok.ck
             have hs0 := hst.s0; have hs1 := hst.s1
             have t1 : IntKind.i64.wrap (was + av) = was2 := by rw [hwas2, IntKind.wrap_i64]; dsimp only at hbd; omega
             have t2 : IntKind.i64.wrap (c.ck.steps + 1) = c.ck.steps + 1 := by rw [IntKind.wrap_i64]; have := hun.2; omega
             have HN2 := Lib.hid hun.1; have HS2 := Lib.hid hun.2
             clear hbd hst hs0 hs1 hun ha hwas2
             have HNow2 := Lib.hid (fun w' (o : Only [bn] wq w') => pClNow (HC2.out.off o HNB.out) HU2.out.ok.ck rw' hq0 hq1)
             rw [HN2.out, hb3] at HNow2
             have HClk := Lib.hid (fun w' (o : Only [bn] wq w') => pClClock (HC2.out.off o HNB.out))
             rw [HS2.out, hb3] at HClk
             dsimp only at HNow2 HClk
             have HLA := Lib.hid (show LastOk c2 rw' was2 from by have q := LastOk.step HU2.out (raw := rw') (by rw [HN2.out]); rw [HN2.out] at q; exact q)
             have HFIN := Lib.hid (fun (w' : World) (o : Only [bn] wq w') (hb : w'.heap[bn]? = some (.cells (nsV ns2).toArray 22 (0, 0))) => (⟨hb3, HC2.out.off o HNB.out, HU2.out, HGE.out, HNN.out, HBO.out, hb, HLN.out, HNR.out, hq2, hq3, HLA.out, O3.out.trans o HTN.out⟩ : RsS wo w' bn bc0 (j + 1) rw' was2 P3 c2 ns2))
             have m := mm1 hb2; have k := m.out.k
             clear hb2
             go_wp2_with (first | ((with_reducible first | refine cM (HNow2.out _ gO) ?_ | refine cM (HClk.out _ gO) ?_); clear k m; intro w m k) | ((with_reducible refine cU ?_); clear k m; intro w m k) | ((with_reducible refine wU ?_); clear k m; intro w m k) | (go_roundw; (case rel => exact ⟨j + 1, rw', was2, P3, c2, ns2, by omega, rfl, rfl, by first | rfl | rw [HS2.out], by go_num, HFIN.out _ gO gB⟩); (case measure => first | (simp [intOf]; done) | (simp [intOf]; omega))))
            ·have da : (ak == 2) = false := by simpa using ha
             rw [if_neg ha] at hun
             obtain ⟨was2, hwas2⟩ : ∃ x, x = was := ⟨_, rfl⟩
             subst hwas2
             have HN2 := Lib.hid hun.1; have HS2 := Lib.hid hun.2
             clear hun ha
             have HNow2 := Lib.hid (fun w' (o : Only [bn] wq w') => pClNow (HC2.out.off o HNB.out) HU2.out.ok.ck rw' hq0 hq1)
             rw [HN2.out, hb3] at HNow2
             have HClk := Lib.hid (fun w' (o : Only [bn] wq w') => pClClock (HC2.out.off o HNB.out))
             rw [HS2.out, hb3] at HClk
             dsimp only at HNow2 HClk
             have HLA := Lib.hid (show LastOk c2 rw' was2 from by have q := LastOk.step HU2.out (raw := rw') (by rw [HN2.out]); rw [HN2.out] at q; exact q)
             have HFIN := Lib.hid (fun (w' : World) (o : Only [bn] wq w') (hb : w'.heap[bn]? = some (.cells (nsV ns2).toArray 22 (0, 0))) => (⟨hb3, HC2.out.off o HNB.out, HU2.out, HGE.out, HNN.out, HBO.out, hb, HLN.out, HNR.out, hq2, hq3, HLA.out, O3.out.trans o HTN.out⟩ : RsS wo w' bn bc0 (j + 1) rw' was2 P3 c2 ns2))
             have m := mm1 hb2; have k := m.out.k
             clear hb2
             go_wp2_with (first | ((with_reducible first | refine cM (HNow2.out _ gO) ?_ | refine cM (HClk.out _ gO) ?_); clear k m; intro w m k) | ((with_reducible refine cU ?_); clear k m; intro w m k) | ((with_reducible refine wU ?_); clear k m; intro w m k) | (go_roundw; (case rel => exact ⟨j + 1, rw', was2, P3, c2, ns2, by omega, rfl, rfl, by first | rfl | rw [HS2.out], by go_num, HFIN.out _ gO gB⟩); (case measure => first | (simp [intOf]; done) | (simp [intOf]; omega))))
          ·have kd0 : (x1 == 0) = false := by simpa using hk0
           have kd1 : (x1 == 1) = false := by simpa using hk1
           have kd2 : (x1 == 2) = false := by simpa using hk2
           as_aux_lemma =>
            obtain ⟨wq, hwq⟩ : ∃ wq : World, wq = wr := ⟨_, rfl⟩
            subst hwq
            have O3 := Lib.hid HS.out.only
            have HC2 := Lib.hid HS.out.cl; have HU2 := Lib.hid HS.out.u
            obtain ⟨c2, hc2⟩ : ∃ x, x = c := ⟨_, rfl⟩
            obtain ⟨ns2, hns2⟩ : ∃ x, x = ns := ⟨_, rfl⟩
            obtain ⟨was2, hwas2⟩ : ∃ x, x = was := ⟨_, rfl⟩
            obtain ⟨P3, hP3⟩ : ∃ x, x = P2 := ⟨_, rfl⟩
            subst hP3 hc2 hns2 hwas2
            have HN2 := Lib.hid hnw
            have hb3 := HS.out.bc
            have HNB := HNB0; have HGE := Lib.hid HS.out.ge; have HNN := Lib.hid HS.out.nb; have HBO := Lib.hid HS.out.bo; have HLN := Lib.hid HS.out.ln; have HNR := Lib.hid HS.out.nr; have HTN := HTN0
            have HNow2 := Lib.hid (fun w' (o : Only [bn] wq w') => pClNow (HC2.out.off o HNB.out) HU2.out.ok.ck rw' hq0 hq1)
            rw [HN2.out, hb3] at HNow2
            have HClk := Lib.hid (fun w' (o : Only [bn] wq w') => pClClock (HC2.out.off o HNB.out))
            rw [hb3] at HClk
            dsimp only at HNow2 HClk
            have HLA := Lib.hid (show LastOk c2 rw' was2 from by have q := LastOk.step HU2.out (raw := rw') (by rw [HN2.out]); rw [HN2.out] at q; exact q)
            have HFIN := Lib.hid (fun (w' : World) (o : Only [bn] wq w') (hb : w'.heap[bn]? = some (.cells (nsV ns2).toArray 22 (0, 0))) => (⟨hb3, HC2.out.off o HNB.out, HU2.out, HGE.out, HNN.out, HBO.out, hb, HLN.out, HNR.out, hq2, hq3, HLA.out, O3.out.trans o HTN.out⟩ : RsS wo w' bn bc0 (j + 1) rw' was2 P3 c2 ns2))
            have m := mm1 HS.out.hn; have k := m.out.k
            go_wp2_with (first | ((with_reducible refine wpList_wide (b := b) (o := off + j * 21) (cs := [.int .i64 x1, .int .i64 x2, .int .i64 x3, .int .u64 x4, .int .i64 e0, .int .i64 e1, .int .i64 e2, .int .i64 e3, .int .i64 e4, .int .i64 e5, .int .u32 e6, .int .u32 e7, .int .u32 e8, .int .u64 e9, .int .u64 e10, .int .u64 e11, .int .u64 e12, .int .i64 i1, .int .i64 i2, .bool xh, .bool xg]) ?_ (HX.out _ gO) Tryz.underlying70 ?_ ?_ ?_ ?_ ?_ ?_ ?_); (· simp [Act.eval]); (· rfl); (· kernel_rfl); (· kernel_rfl); (· rfl); (· intro p; simp [Act.eval, Act.put]); (· intro p; simp [Act.eval, Act.put]); (clear k m; intro w g hg m; have k := m.out.k)) | ((with_reducible first | refine cM (HNow2.out _ gO) ?_ | refine cM (HClk.out _ gO) ?_); clear k m; intro w m k) | ((with_reducible refine cU ?_); clear k m; intro w m k) | ((with_reducible refine wU ?_); clear k m; intro w m k) | (go_roundw; (case rel => exact ⟨j + 1, rw', was2, P3, c2, ns2, by omega, rfl, rfl, by first | rfl | rw [HS2.out], by go_num, HFIN.out _ gO gB⟩); (case measure => first | (simp [intOf]; done) | (simp [intOf]; omega))))
      ·have kn0 : decide (0 ≤ x2) = false := decide_eq_false h0
       have kn0' : decide (x2 ≥ 0) = false := decide_eq_false h0
       by_cases hk0 : x1 = 0
       ·have kd0 : (x1 == 0) = true := by simpa using hk0
        as_aux_lemma =>
         have HSnd := Lib.hid (fun w' (o : Only [bn] wr w') => cSend (HS.out.cl.off o HNB0.out) HS.out.u.ok.ck rw' hq0 hq1 x2 x4)
         rw [HS.out.bc] at HSnd
         have m := mm1 HS.out.hn; have k := m.out.k
         go_wp2_with (first | ((with_reducible refine wpList_wide (b := b) (o := off + j * 21) (cs := [.int .i64 x1, .int .i64 x2, .int .i64 x3, .int .u64 x4, .int .i64 e0, .int .i64 e1, .int .i64 e2, .int .i64 e3, .int .i64 e4, .int .i64 e5, .int .u32 e6, .int .u32 e7, .int .u32 e8, .int .u64 e9, .int .u64 e10, .int .u64 e11, .int .u64 e12, .int .i64 i1, .int .i64 i2, .bool xh, .bool xg]) ?_ (HX.out _ gO) Tryz.underlying70 ?_ ?_ ?_ ?_ ?_ ?_ ?_); (· simp [Act.eval]); (· rfl); (· kernel_rfl); (· kernel_rfl); (· rfl); (· intro p; simp [Act.eval, Act.put]); (· intro p; simp [Act.eval, Act.put]); (clear k m; intro w g hg m; have k := m.out.k)) | ((with_reducible first | refine cM (HNow.out _ gO) ?_); clear k m; intro w m k) | ((with_reducible refine cU ?_); clear k m; intro w m k) | ((with_reducible refine wU ?_); clear k m; intro w m k))
         refine (HSnd.out _ gO).mono ?_
         rintro e w2 ⟨rfl, hcl2, ho2⟩
         have hgP : g ∉ P2.all := fun hm => by have := HS.out.cl.lt g hm; omega
         have hgb : g ≠ bn := fun q => by have := got_lt HS.out.hn; omega
         have hb2 := ho2.got (gB (w := w) (b := bn)) HS.out.nb
         have hg2 := ho2.got (gB (w := w) (b := g)) hgP
         have O3 := Lib.hid ((HS.out.only.trans m.out.only HTN0.out).trans ho2 (fun x hx => .inr (HS.out.ge x hx)))
         have hgo : wo.heap.size ≤ g := Nat.le_trans HS.out.only.size hg
         clear k m
         obtain ⟨wq, hwq⟩ : ∃ wq : World, wq = w2 := ⟨_, rfl⟩
         subst hwq
         have hsn := send_now (c := c) (raw := rw') (by rw [hnw]) x2 x4
         rw [hnw] at hsn
         have hus := HS.out.u.send x2 rw' x4
         generalize clSend c x2 rw' x4 = rr at hcl2 hsn hus ⊢
         obtain ⟨⟨⟨p0, p1, p2, p3, p4, p5, p6, p7, p8, p9, p10, p11, p12⟩, er2⟩, c2⟩ := rr
         unfold npV
         dsimp only at hcl2 hsn hus ⊢
         have HC2 := Lib.hid hcl2; have HU2 := Lib.hid hus; have HN2 := Lib.hid hsn.1; have HS2 := Lib.hid hsn.2
         clear hcl2 hsn hus ho2
         obtain ⟨was2, hwas2⟩ : ∃ x, x = was := ⟨_, rfl⟩
         obtain ⟨P3, hP3⟩ : ∃ x, x = P2 := ⟨_, rfl⟩
         subst hP3 hwas2
         have hb3 := HS.out.bc
         have HNB := Lib.hid (show ∀ b ∈ P3.all, b ∉ [g, bn] from fun b hb hm => by
          rcases List.mem_cons.1 hm with q | hm
          ·exact hgP (q ▸ hb)
          ·exact HNB0.out b hb hm)
         have HGE := Lib.hid HS.out.ge; have HNN := Lib.hid HS.out.nb; have HBO := Lib.hid HS.out.bo
         have HTN := Lib.hid (show ∀ x ∈ [g, bn], x ∈ [] ∨ wo.heap.size ≤ x from fun x hx => by
          rcases List.mem_cons.1 hx with q | hx
          ·exact .inr (q ▸ hgo)
          ·exact HTN0.out x hx)
         obtain ⟨ns2, hns2⟩ : ∃ x, x = ns := ⟨_, rfl⟩
         subst hns2
         have HLN := Lib.hid HS.out.ln; have HNR := Lib.hid HS.out.nr
         have HNow2 := Lib.hid (fun w' (o : Only [g, bn] wq w') => pClNow (HC2.out.off o HNB.out) HU2.out.ok.ck rw' hq0 hq1)
         rw [HN2.out, hb3] at HNow2
         have HClk := Lib.hid (fun w' (o : Only [g, bn] wq w') => pClClock (HC2.out.off o HNB.out))
         rw [HS2.out, hb3] at HClk
         dsimp only at HNow2 HClk
         have HLA := Lib.hid (show LastOk c2 rw' was2 from by have q := LastOk.step HU2.out (raw := rw') (by rw [HN2.out]); rw [HN2.out] at q; exact q)
         have HFIN := Lib.hid (fun (w' : World) (o : Only [g, bn] wq w') (hb : w'.heap[bn]? = some (.cells (nsV ns2).toArray 22 (0, 0))) => (⟨hb3, HC2.out.off o HNB.out, HU2.out, HGE.out, HNN.out, HBO.out, hb, HLN.out, HNR.out, hq2, hq3, HLA.out, O3.out.trans o HTN.out⟩ : RsS wo w' bn bc0 (j + 1) rw' was2 P3 c2 ns2))
         have m : Mm wq [g, bn] wq _ := ⟨((Mem.start wq [g, bn]).ext true hb2 (by simp) (by simp)).ext true hg2 (by simpa using hgb) (by simp)⟩
         have k := m.out.k
         clear hb2 hg2
         by_cases hez : er2 = 0
         ·have dz : (er2 == 0) = true := by simpa using hez
          clear hez
          go_wp2_with (first | ((with_reducible first | refine cM (HNow2.out _ gO) ?_ | refine cM (HClk.out _ gO) ?_); clear k m; intro w m k) | ((with_reducible refine cU ?_); clear k m; intro w m k) | ((with_reducible refine wU ?_); clear k m; intro w m k) | (go_roundw; (case rel => exact ⟨j + 1, rw', was2, P3, c2, ns2, by omega, rfl, rfl, by first | rfl | rw [HS2.out], by go_num, HFIN.out _ gO gB⟩); (case measure => first | (simp [intOf]; done) | (simp [intOf]; omega))))
         ·have dz : (er2 == 0) = false := by simpa using hez
          clear hez
          go_wp2_with (first | ((with_reducible first | refine cM (HNow2.out _ gO) ?_ | refine cM (HClk.out _ gO) ?_); clear k m; intro w m k) | ((with_reducible refine cU ?_); clear k m; intro w m k) | ((with_reducible refine wU ?_); clear k m; intro w m k) | (go_roundw; (case rel => exact ⟨j + 1, rw', was2, P3, c2, ns2, by omega, rfl, rfl, by first | rfl | rw [HS2.out], by go_num, HFIN.out _ gO gB⟩); (case measure => first | (simp [intOf]; done) | (simp [intOf]; omega))))
       ·by_cases hk1 : x1 = 1
        ·have kd0 : (x1 == 0) = false := by simpa using hk0
         have kd1 : (x1 == 1) = true := by simpa using hk1
         cases xg with
         | true =>
          as_aux_lemma =>
           obtain ⟨hd, hhd⟩ : ∃ h : Np, (⟨e0, e1, e2, e3, e4, e5, e6, e7, e8, e9, e10, e11, e12⟩ : Np) = h := ⟨_, rfl⟩
           have HPO := Lib.hid (show npOk hd by rw [← hhd]; exact HAX.out.2.2)
           have HRc := Lib.hid (fun w' (o : Only [bn] wr w') => dRecv (HS.out.cl.off o HNB0.out) HS.out.u.ok rw' hq0 hq1 x2 hd ⟨i1, i2⟩ xh HPO.out)
           rw [HS.out.bc] at HRc
           have hpv : npV hd = npV ⟨e0, e1, e2, e3, e4, e5, e6, e7, e8, e9, e10, e11, e12⟩ := by rw [← hhd]
           rw [hpv] at HRc
           clear hpv
           unfold npV ivV at HRc
           dsimp only at HRc
           have m := mm1 HS.out.hn; have k := m.out.k
           go_wp2_with (first | ((with_reducible refine wpList_wide (b := b) (o := off + j * 21) (cs := [.int .i64 x1, .int .i64 x2, .int .i64 x3, .int .u64 x4, .int .i64 e0, .int .i64 e1, .int .i64 e2, .int .i64 e3, .int .i64 e4, .int .i64 e5, .int .u32 e6, .int .u32 e7, .int .u32 e8, .int .u64 e9, .int .u64 e10, .int .u64 e11, .int .u64 e12, .int .i64 i1, .int .i64 i2, .bool xh, .bool true]) ?_ (HX.out _ gO) Tryz.underlying70 ?_ ?_ ?_ ?_ ?_ ?_ ?_); (· simp [Act.eval]); (· rfl); (· kernel_rfl); (· kernel_rfl); (· rfl); (· intro p; simp [Act.eval, Act.put]); (· intro p; simp [Act.eval, Act.put]); (clear k m; intro w g hg m; have k := m.out.k)) | ((with_reducible first | refine cM (HNow.out _ gO) ?_); clear k m; intro w m k) | ((with_reducible refine cU ?_); clear k m; intro w m k) | ((with_reducible refine wU ?_); clear k m; intro w m k))
           refine (HRc.out _ gO).mono ?_
           rintro e w2 ⟨rfl, hcl2, ho2⟩
           have hb2 := ho2.got (gB (w := w) (b := bn)) HS.out.nb
           have O3 := Lib.hid ((HS.out.only.trans m.out.only HTN0.out).trans ho2 (fun x hx => .inr (HS.out.ge x hx)))
           have hws := m.out.only.size
           clear k m
           obtain ⟨wq, hwq⟩ : ∃ wq : World, wq = w2 := ⟨_, rfl⟩
           subst hwq
           have hsn := recv_now (c := c) (raw := rw') (by rw [hnw]) x2 hd ⟨i1, i2⟩ xh
           rw [hnw] at hsn
           have hus := HS.out.u.recv x2 HPO.out ⟨i1, i2⟩ xh rw'
           generalize clRecv c x2 hd ⟨i1, i2⟩ xh rw' = rr at hcl2 hsn hus ⊢
           obtain ⟨⟨⟨y1, y2, y3⟩, er2⟩, c2⟩ := rr
           dsimp only at hcl2 hsn hus ⊢
           have HC2 := Lib.hid hcl2; have HU2 := Lib.hid hus; have HN2 := Lib.hid hsn.1; have HS2 := Lib.hid hsn.2
           clear hcl2 hsn hus ho2
           obtain ⟨was2, hwas2⟩ : ∃ x, x = was := ⟨_, rfl⟩
           obtain ⟨ns2, hns2⟩ : ∃ x, x = ns := ⟨_, rfl⟩
           obtain ⟨P3, hP3⟩ : ∃ x, x = P2 := ⟨_, rfl⟩
           subst hP3 hwas2 hns2
           have hb3 := HS.out.bc
           have HNB := HNB0; have HGE := Lib.hid HS.out.ge; have HNN := Lib.hid HS.out.nb; have HBO := Lib.hid HS.out.bo; have HLN := Lib.hid HS.out.ln; have HNR := Lib.hid HS.out.nr; have HTN := HTN0
           have HNow2 := Lib.hid (fun w' (o : Only [bn] wq w') => pClNow (HC2.out.off o HNB.out) HU2.out.ok.ck rw' hq0 hq1)
           rw [HN2.out, hb3] at HNow2
           have HClk := Lib.hid (fun w' (o : Only [bn] wq w') => pClClock (HC2.out.off o HNB.out))
           rw [HS2.out, hb3] at HClk
           dsimp only at HNow2 HClk
           have HLA := Lib.hid (show LastOk c2 rw' was2 from by have q := LastOk.step HU2.out (raw := rw') (by rw [HN2.out]); rw [HN2.out] at q; exact q)
           have HFIN := Lib.hid (fun (w' : World) (o : Only [bn] wq w') (hb : w'.heap[bn]? = some (.cells (nsV ns2).toArray 22 (0, 0))) => (⟨hb3, HC2.out.off o HNB.out, HU2.out, HGE.out, HNN.out, HBO.out, hb, HLN.out, HNR.out, hq2, hq3, HLA.out, O3.out.trans o HTN.out⟩ : RsS wo w' bn bc0 (j + 1) rw' was2 P3 c2 ns2))
           have m := mm1 hb2; have k := m.out.k
           clear hb2
           go_wp2_with (first | ((with_reducible first | refine cM (HNow2.out _ gO) ?_ | refine cM (HClk.out _ gO) ?_); clear k m; intro w m k) | ((with_reducible refine cU ?_); clear k m; intro w m k) | ((with_reducible refine wU ?_); clear k m; intro w m k) | (go_roundw; (case rel => exact ⟨j + 1, rw', was2, P3, c2, ns2, by omega, rfl, rfl, by first | rfl | rw [HS2.out], by go_num, HFIN.out _ gO gB⟩); (case measure => first | (simp [intOf]; done) | (simp [intOf]; omega))))
         | false =>
          as_aux_lemma =>
           obtain ⟨hd, hhd⟩ : ∃ h : Np, (⟨e0, e1, e2, e3, e4, e5, e6, e7, e8, e9, e10, e11, e12⟩ : Np) = h := ⟨_, rfl⟩
           have HPO := Lib.hid (show npOk hd by rw [← hhd]; exact HAX.out.2.2)
           have HRc := Lib.hid (fun w' (o : Only [bn] wr w') => dRecv (HS.out.cl.off o HNB0.out) HS.out.u.ok rw' hq0 hq1 x2 hd ⟨i1, i2⟩ xh HPO.out)
           rw [HS.out.bc] at HRc
           have hpv : npV hd = npV ⟨e0, e1, e2, e3, e4, e5, e6, e7, e8, e9, e10, e11, e12⟩ := by rw [← hhd]
           rw [hpv] at HRc
           clear hpv
           unfold npV ivV at HRc
           dsimp only at HRc
           have m := mm1 HS.out.hn; have k := m.out.k
           go_wp2_with (first | ((with_reducible refine wpList_wide (b := b) (o := off + j * 21) (cs := [.int .i64 x1, .int .i64 x2, .int .i64 x3, .int .u64 x4, .int .i64 e0, .int .i64 e1, .int .i64 e2, .int .i64 e3, .int .i64 e4, .int .i64 e5, .int .u32 e6, .int .u32 e7, .int .u32 e8, .int .u64 e9, .int .u64 e10, .int .u64 e11, .int .u64 e12, .int .i64 i1, .int .i64 i2, .bool xh, .bool false]) ?_ (HX.out _ gO) Tryz.underlying70 ?_ ?_ ?_ ?_ ?_ ?_ ?_); (· simp [Act.eval]); (· rfl); (· kernel_rfl); (· kernel_rfl); (· rfl); (· intro p; simp [Act.eval, Act.put]); (· intro p; simp [Act.eval, Act.put]); (clear k m; intro w g hg m; have k := m.out.k)) | ((with_reducible first | refine cM (HNow.out _ gO) ?_); clear k m; intro w m k) | ((with_reducible refine cU ?_); clear k m; intro w m k) | ((with_reducible refine wU ?_); clear k m; intro w m k))
           refine (HRc.out _ gO).mono ?_
           rintro e w2 ⟨rfl, hcl2, ho2⟩
           have hb2 := ho2.got (gB (w := w) (b := bn)) HS.out.nb
           have O3 := Lib.hid ((HS.out.only.trans m.out.only HTN0.out).trans ho2 (fun x hx => .inr (HS.out.ge x hx)))
           have hws := m.out.only.size
           clear k m
           obtain ⟨wq, hwq⟩ : ∃ wq : World, wq = w2 := ⟨_, rfl⟩
           subst hwq
           have hsn := recv_now (c := c) (raw := rw') (by rw [hnw]) x2 hd ⟨i1, i2⟩ xh
           rw [hnw] at hsn
           have hus := HS.out.u.recv x2 HPO.out ⟨i1, i2⟩ xh rw'
           generalize clRecv c x2 hd ⟨i1, i2⟩ xh rw' = rr at hcl2 hsn hus ⊢
           obtain ⟨⟨⟨y1, y2, y3⟩, er2⟩, c2⟩ := rr
           dsimp only at hcl2 hsn hus ⊢
           have HC2 := Lib.hid hcl2; have HU2 := Lib.hid hus; have HN2 := Lib.hid hsn.1; have HS2 := Lib.hid hsn.2
           clear hcl2 hsn hus ho2
           obtain ⟨was2, hwas2⟩ : ∃ x, x = was := ⟨_, rfl⟩
           obtain ⟨ns2, hns2⟩ : ∃ x, x = ns := ⟨_, rfl⟩
           obtain ⟨P3, hP3⟩ : ∃ x, x = P2 := ⟨_, rfl⟩
           subst hP3 hwas2 hns2
           have hb3 := HS.out.bc
           have HNB := HNB0; have HGE := Lib.hid HS.out.ge; have HNN := Lib.hid HS.out.nb; have HBO := Lib.hid HS.out.bo; have HLN := Lib.hid HS.out.ln; have HNR := Lib.hid HS.out.nr; have HTN := HTN0
           have HNow2 := Lib.hid (fun w' (o : Only [bn] wq w') => pClNow (HC2.out.off o HNB.out) HU2.out.ok.ck rw' hq0 hq1)
           rw [HN2.out, hb3] at HNow2
           have HClk := Lib.hid (fun w' (o : Only [bn] wq w') => pClClock (HC2.out.off o HNB.out))
           rw [HS2.out, hb3] at HClk
           dsimp only at HNow2 HClk
           have HLA := Lib.hid (show LastOk c2 rw' was2 from by have q := LastOk.step HU2.out (raw := rw') (by rw [HN2.out]); rw [HN2.out] at q; exact q)
           have HFIN := Lib.hid (fun (w' : World) (o : Only [bn] wq w') (hb : w'.heap[bn]? = some (.cells (nsV ns2).toArray 22 (0, 0))) => (⟨hb3, HC2.out.off o HNB.out, HU2.out, HGE.out, HNN.out, HBO.out, hb, HLN.out, HNR.out, hq2, hq3, HLA.out, O3.out.trans o HTN.out⟩ : RsS wo w' bn bc0 (j + 1) rw' was2 P3 c2 ns2))
           have m := mm1 hb2; have k := m.out.k
           clear hb2
           go_wp2_with (first | ((with_reducible first | refine cM (HNow2.out _ gO) ?_ | refine cM (HClk.out _ gO) ?_); clear k m; intro w m k) | ((with_reducible refine cU ?_); clear k m; intro w m k) | ((with_reducible refine wU ?_); clear k m; intro w m k) | (go_roundw; (case rel => exact ⟨j + 1, rw', was2, P3, c2, ns2, by omega, rfl, rfl, by first | rfl | rw [HS2.out], by go_num, HFIN.out _ gO gB⟩); (case measure => first | (simp [intOf]; done) | (simp [intOf]; omega))))
        ·by_cases hk2 : x1 = 2
         ·have kd0 : (x1 == 0) = false := by simpa using hk0
          have kd1 : (x1 == 1) = false := by simpa using hk1
          have kd2 : (x1 == 2) = true := by simpa using hk2
          as_aux_lemma =>
           have HUp := Lib.hid (fun w' (o : Only [bn] wr w') => pUpdate (HS.out.cl.off o HNB0.out) HS.out.u.ok HS.out.u.sv HS.out.u.g HS.out.u.tol HS.out.u.kp HS.out.u.rd rw' hq0 hq1)
           rw [HS.out.bc] at HUp
           have m := mm1 HS.out.hn; have k := m.out.k
           go_wp2_with (first | ((with_reducible refine wpList_wide (b := b) (o := off + j * 21) (cs := [.int .i64 x1, .int .i64 x2, .int .i64 x3, .int .u64 x4, .int .i64 e0, .int .i64 e1, .int .i64 e2, .int .i64 e3, .int .i64 e4, .int .i64 e5, .int .u32 e6, .int .u32 e7, .int .u32 e8, .int .u64 e9, .int .u64 e10, .int .u64 e11, .int .u64 e12, .int .i64 i1, .int .i64 i2, .bool xh, .bool xg]) ?_ (HX.out _ gO) Tryz.underlying70 ?_ ?_ ?_ ?_ ?_ ?_ ?_); (· simp [Act.eval]); (· rfl); (· kernel_rfl); (· kernel_rfl); (· rfl); (· intro p; simp [Act.eval, Act.put]); (· intro p; simp [Act.eval, Act.put]); (clear k m; intro w g hg m; have k := m.out.k)) | ((with_reducible first | refine cM (HNow.out _ gO) ?_); clear k m; intro w m k) | ((with_reducible refine cU ?_); clear k m; intro w m k) | ((with_reducible refine wU ?_); clear k m; intro w m k))
           refine (HUp.out _ gO).mono ?_
           rintro e w2 ⟨⟨ak, av⟩, er2, c2, rfl, hup, ⟨P3, hb3, hcl3, hP3⟩, ho2⟩
           unfold acV
           dsimp only
           have hb2 := ho2.got (gB (w := w) (b := bn)) HS.out.nb
           have O3 := Lib.hid ((HS.out.only.trans m.out.only HTN0.out).trans ho2 (fun x hx => .inr (HS.out.ge x hx)))
           have hws := m.out.only.size
           clear k m
           obtain ⟨wq, hwq⟩ : ∃ wq : World, wq = w2 := ⟨_, rfl⟩
           subst hwq
           have hbl := got_lt HS.out.hn
           have hnn : bn ∉ P3.all := fun hm => by
            rcases hP3 bn hm with q | q
            ·exact HS.out.nb q
            ·omega
           have hge : ∀ b ∈ P3.all, wo.heap.size ≤ b := fun b hb => by
            rcases hP3 b hb with q | q
            ·exact HS.out.ge b q
            ·exact Nat.le_trans (Nat.le_trans HS.out.only.size hws) q
           obtain ⟨hus, hun⟩ := HS.out.u.upd hup
           replace hun := hun (by rw [hnw])
           rw [hnw] at hun
           have HC2 := Lib.hid hcl3; have HU2 := Lib.hid hus
           have HNB := Lib.hid (show ∀ b ∈ P3.all, b ∉ [bn] from fun b hb hm => hnn (List.mem_singleton.1 hm ▸ hb))
           have HGE := Lib.hid hge; have HNN := Lib.hid hnn; have HBO := Lib.hid HS.out.bo; have HLN := Lib.hid HS.out.ln; have HNR := Lib.hid HS.out.nr; have HTN := HTN0
           obtain ⟨ns2, hns2⟩ : ∃ x, x = ns := ⟨_, rfl⟩
           subst hns2
           clear hcl3 hus hup hge hnn hP3 ho2 hws hbl
           by_cases ha : ak = 2
           ·have da : (ak == 2) = true := by simpa using ha
            rw [if_pos ha] at hun
            obtain ⟨was2, hwas2⟩ : ∃ x, was + av = x := ⟨_, rfl⟩
            dsimp only at hun
            rw [hwas2] at hun
            have hbd := clNow_bd (c := c2) (raw := rw') (by rw [hun.1])
            rw [hun.1] at hbd
            have hst := HU2.out.ok.ck
            have hs0 := hst.s0; have hs1 := hst.s1
            have t1 : IntKind.i64.wrap (was + av) = was2 := by rw [hwas2, IntKind.wrap_i64]; dsimp only at hbd; omega
            have t2 : IntKind.i64.wrap (c.ck.steps + 1) = c.ck.steps + 1 := by rw [IntKind.wrap_i64]; have := hun.2; omega
            have HN2 := Lib.hid hun.1; have HS2 := Lib.hid hun.2
            clear hbd hst hs0 hs1 hun ha hwas2
            have HNow2 := Lib.hid (fun w' (o : Only [bn] wq w') => pClNow (HC2.out.off o HNB.out) HU2.out.ok.ck rw' hq0 hq1)
            rw [HN2.out, hb3] at HNow2
            have HClk := Lib.hid (fun w' (o : Only [bn] wq w') => pClClock (HC2.out.off o HNB.out))
            rw [HS2.out, hb3] at HClk
            dsimp only at HNow2 HClk
            have HLA := Lib.hid (show LastOk c2 rw' was2 from by have q := LastOk.step HU2.out (raw := rw') (by rw [HN2.out]); rw [HN2.out] at q; exact q)
            have HFIN := Lib.hid (fun (w' : World) (o : Only [bn] wq w') (hb : w'.heap[bn]? = some (.cells (nsV ns2).toArray 22 (0, 0))) => (⟨hb3, HC2.out.off o HNB.out, HU2.out, HGE.out, HNN.out, HBO.out, hb, HLN.out, HNR.out, hq2, hq3, HLA.out, O3.out.trans o HTN.out⟩ : RsS wo w' bn bc0 (j + 1) rw' was2 P3 c2 ns2))
            have m := mm1 hb2; have k := m.out.k
            clear hb2
            go_wp2_with (first | ((with_reducible first | refine cM (HNow2.out _ gO) ?_ | refine cM (HClk.out _ gO) ?_); clear k m; intro w m k) | ((with_reducible refine cU ?_); clear k m; intro w m k) | ((with_reducible refine wU ?_); clear k m; intro w m k) | (go_roundw; (case rel => exact ⟨j + 1, rw', was2, P3, c2, ns2, by omega, rfl, rfl, by first | rfl | rw [HS2.out], by go_num, HFIN.out _ gO gB⟩); (case measure => first | (simp [intOf]; done) | (simp [intOf]; omega))))
           ·have da : (ak == 2) = false := by simpa using ha
            rw [if_neg ha] at hun
            obtain ⟨was2, hwas2⟩ : ∃ x, x = was := ⟨_, rfl⟩
            subst hwas2
            have HN2 := Lib.hid hun.1; have HS2 := Lib.hid hun.2
            clear hun ha
            have HNow2 := Lib.hid (fun w' (o : Only [bn] wq w') => pClNow (HC2.out.off o HNB.out) HU2.out.ok.ck rw' hq0 hq1)
            rw [HN2.out, hb3] at HNow2
            have HClk := Lib.hid (fun w' (o : Only [bn] wq w') => pClClock (HC2.out.off o HNB.out))
            rw [HS2.out, hb3] at HClk
            dsimp only at HNow2 HClk
            have HLA := Lib.hid (show LastOk c2 rw' was2 from by have q := LastOk.step HU2.out (raw := rw') (by rw [HN2.out]); rw [HN2.out] at q; exact q)
            have HFIN := Lib.hid (fun (w' : World) (o : Only [bn] wq w') (hb : w'.heap[bn]? = some (.cells (nsV ns2).toArray 22 (0, 0))) => (⟨hb3, HC2.out.off o HNB.out, HU2.out, HGE.out, HNN.out, HBO.out, hb, HLN.out, HNR.out, hq2, hq3, HLA.out, O3.out.trans o HTN.out⟩ : RsS wo w' bn bc0 (j + 1) rw' was2 P3 c2 ns2))
            have m := mm1 hb2; have k := m.out.k
            clear hb2
            go_wp2_with (first | ((with_reducible first | refine cM (HNow2.out _ gO) ?_ | refine cM (HClk.out _ gO) ?_); clear k m; intro w m k) | ((with_reducible refine cU ?_); clear k m; intro w m k) | ((with_reducible refine wU ?_); clear k m; intro w m k) | (go_roundw; (case rel => exact ⟨j + 1, rw', was2, P3, c2, ns2, by omega, rfl, rfl, by first | rfl | rw [HS2.out], by go_num, HFIN.out _ gO gB⟩); (case measure => first | (simp [intOf]; done) | (simp [intOf]; omega))))
         ·have kd0 : (x1 == 0) = false := by simpa using hk0
          have kd1 : (x1 == 1) = false := by simpa using hk1
          have kd2 : (x1 == 2) = false := by simpa using hk2
          as_aux_lemma =>
           obtain ⟨wq, hwq⟩ : ∃ wq : World, wq = wr := ⟨_, rfl⟩
           subst hwq
           have O3 := Lib.hid HS.out.only
           have HC2 := Lib.hid HS.out.cl; have HU2 := Lib.hid HS.out.u
           obtain ⟨c2, hc2⟩ : ∃ x, x = c := ⟨_, rfl⟩
           obtain ⟨ns2, hns2⟩ : ∃ x, x = ns := ⟨_, rfl⟩
           obtain ⟨was2, hwas2⟩ : ∃ x, x = was := ⟨_, rfl⟩
           obtain ⟨P3, hP3⟩ : ∃ x, x = P2 := ⟨_, rfl⟩
           subst hP3 hc2 hns2 hwas2
           have HN2 := Lib.hid hnw
           have hb3 := HS.out.bc
           have HNB := HNB0; have HGE := Lib.hid HS.out.ge; have HNN := Lib.hid HS.out.nb; have HBO := Lib.hid HS.out.bo; have HLN := Lib.hid HS.out.ln; have HNR := Lib.hid HS.out.nr; have HTN := HTN0
           have HNow2 := Lib.hid (fun w' (o : Only [bn] wq w') => pClNow (HC2.out.off o HNB.out) HU2.out.ok.ck rw' hq0 hq1)
           rw [HN2.out, hb3] at HNow2
           have HClk := Lib.hid (fun w' (o : Only [bn] wq w') => pClClock (HC2.out.off o HNB.out))
           rw [hb3] at HClk
           dsimp only at HNow2 HClk
           have HLA := Lib.hid (show LastOk c2 rw' was2 from by have q := LastOk.step HU2.out (raw := rw') (by rw [HN2.out]); rw [HN2.out] at q; exact q)
           have HFIN := Lib.hid (fun (w' : World) (o : Only [bn] wq w') (hb : w'.heap[bn]? = some (.cells (nsV ns2).toArray 22 (0, 0))) => (⟨hb3, HC2.out.off o HNB.out, HU2.out, HGE.out, HNN.out, HBO.out, hb, HLN.out, HNR.out, hq2, hq3, HLA.out, O3.out.trans o HTN.out⟩ : RsS wo w' bn bc0 (j + 1) rw' was2 P3 c2 ns2))
           have m := mm1 HS.out.hn; have k := m.out.k
           go_wp2_with (first | ((with_reducible refine wpList_wide (b := b) (o := off + j * 21) (cs := [.int .i64 x1, .int .i64 x2, .int .i64 x3, .int .u64 x4, .int .i64 e0, .int .i64 e1, .int .i64 e2, .int .i64 e3, .int .i64 e4, .int .i64 e5, .int .u32 e6, .int .u32 e7, .int .u32 e8, .int .u64 e9, .int .u64 e10, .int .u64 e11, .int .u64 e12, .int .i64 i1, .int .i64 i2, .bool xh, .bool xg]) ?_ (HX.out _ gO) Tryz.underlying70 ?_ ?_ ?_ ?_ ?_ ?_ ?_); (· simp [Act.eval]); (· rfl); (· kernel_rfl); (· kernel_rfl); (· rfl); (· intro p; simp [Act.eval, Act.put]); (· intro p; simp [Act.eval, Act.put]); (clear k m; intro w g hg m; have k := m.out.k)) | ((with_reducible first | refine cM (HNow2.out _ gO) ?_ | refine cM (HClk.out _ gO) ?_); clear k m; intro w m k) | ((with_reducible refine cU ?_); clear k m; intro w m k) | ((with_reducible refine wU ?_); clear k m; intro w m k) | (go_roundw; (case rel => exact ⟨j + 1, rw', was2, P3, c2, ns2, by omega, rfl, rfl, by first | rfl | rw [HS2.out], by go_num, HFIN.out _ gO gB⟩); (case measure => first | (simp [intOf]; done) | (simp [intOf]; omega))))
end Go.Proofs.YtikjdmbfjkbndaaGreat
