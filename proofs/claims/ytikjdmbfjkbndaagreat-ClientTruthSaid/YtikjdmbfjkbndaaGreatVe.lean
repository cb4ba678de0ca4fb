/- Texts of one chain: D7, D8, D9. Conditions: those named in each theorem. -/
import Derived.Test.YtikjdmbfjkbndaaGreatVd
/- client.New: the walk. Conditions: the configuration is valid. -/
namespace Go.Proofs.YtikjdmbfjkbndaaGreat
open Go.RowKit

/-- what New returns -/
def NewR (w0 : World) (c : Cf) (raw time : Int) (e : Ending) (w : World) : Prop :=
 ((isT raw && isT time) = false ∧ e = .returned (.pointer none)) ∨ ((isT raw && isT time) = true ∧ ∃ P, e = .returned (.pointer (some ⟨P.bc, 0, none⟩)) ∧ ClAt w P (cl0 c raw time) ∧ ∀ b ∈ P.all, w0.heap.size ≤ b)
theorem NwS.done {w : World} {c : Cf} {raw time : Int} {bk bv bc : Nat} {wr : World} {ps : List (Nat × Nat × Nat)} {v : Value} (h : NwS w c raw time bk bv bc wr ps v) (h0 : 0 < ps.length) (hn : ps.length = c.servers.toNat) :
  ∃ P : Pl, P.bc = bc ∧ ClAt wr P (cl0 c raw time) ∧ ∀ b ∈ P.all, w.heap.size ≤ b := by
 obtain ⟨h1, h2, h3, h4, h5, h6, h7, h8⟩ := h
 rcases h4 with ⟨_, he⟩ | ⟨g, cap, rfl, hg, hr⟩
 ·have := congrArg List.length he
  simp at this
  subst this
  simp at h0
 ·have hl : (List.map (fun x => x.1) ps).length = ps.length := by simp
  simp only [Value.ownBlock, Option.toList_some, List.cons_append, List.nil_append] at h6 h7
  refine ⟨⟨bc, bk, bv, g, cap, ps⟩, rfl, ⟨?_, h2, h3, hr, ?_, ?_, h6, fun b hb => (h7 b hb).2⟩, fun b hb => (h7 b hb).1⟩
  ·unfold ClB
   rw [h1, hl]
   rfl
  ·simp [cl0, hn]
  ·intro i hi hi'
   have : (cl0 c raw time).srcs[i] = sr0 c := by simp [cl0]
   rw [this]
   exact h5 _ (List.getElem_mem _)
set_option maxRecDepth 100000 in
set_option maxHeartbeats 4000000 in
theorem pClNew (c : Cf) (raw time : Int) (hc : ccheck c = 0) (hs : svchk c.sv = 0) (h1 : 1 ≤ c.servers ∧ c.servers ≤ 12) (h2 : 0 ≤ c.tol ∧ c.tol ≤ 500000) (w : World) :
  Calls Tryz.prog 9 #[cfV c, .int .i64 raw, .int .i64 time] w fun e w' => NewR w c raw time e w' ∧ Only [] w w' := by
 obtain ⟨sr, tl, pr, kp, ⟨sk, si, sm, sf, sl⟩, ra, mn, mx⟩ := c
 have HCH := Lib.hid (fun w' => pCCheck ⟨sr, tl, pr, kp, ⟨sk, si, sm, sf, sl⟩, ra, mn, mx⟩ w')
 rw [hc] at HCH
 have HSV := Lib.hid (fun w' => pSvNew ⟨sk, si, sm, sf, sl⟩ hs w')
 have HEV := Lib.hid (fun w' => pEvery w')
 have HCN := Lib.hid (fun w' => pCNew raw time w')
 have HAN2 := Lib.hid (fun w' => (pANew w').mono (fun e w'' h => (⟨⟨_, h.1, Nat.le_refl _, h.2.1⟩, h.2.2⟩ : (∃ b, e = .returned (.pointer (some ⟨b, 0, none⟩)) ∧ w'.heap.size ≤ b ∧ AsAt w'' b as4) ∧ Only [] w' w'')))
 have HFN := Lib.hid (fun w' => pFNew tl h2.1 h2.2 w')
 dsimp only at h1 h2
 have HRES : Hid (∀ e w', NewR w ⟨sr, tl, pr, kp, ⟨sk, si, sm, sf, sl⟩, ra, mn, mx⟩ raw time e w' ↔ NewR w ⟨sr, tl, pr, kp, ⟨sk, si, sm, sf, sl⟩, ra, mn, mx⟩ raw time e w') := Lib.hid (fun _ _ => Iff.rfl)
 unfold cfV at HCH ⊢
 unfold scV at HSV
 unfold ivV evI at HEV
 dsimp only at HCH HSV HEV ⊢
 obtain ⟨n, rfl⟩ : ∃ n : Nat, sr = (n : Int) := ⟨sr.toNat, by omega⟩
 go_enter Tryz.func9, Tryz.ntmps9
 go_upto_region 1 with (fail)
 refine alloc_abs (G := fun w0 => Code.wp _ _ _ _ w0) ?_
 intro w1 hb1 ho1 hs1
 obtain ⟨b1, hbe1⟩ : ∃ b, w.heap.size = b := ⟨_, rfl⟩
 rw [hbe1] at hb1
 rw [hbe1]
 have HN : Hid (w.heap.size ≤ b1) := Lib.hid (by omega)
 have B1 := Lib.hid hb1; have OO := Lib.hid ho1
 clear hb1 hs1 hbe1
 clear ho1
 have k1 := c_12 B1.out
 go_wp2_with fail
 refine (HCH.out _).mono ?_
 rintro e w2 ⟨rfl, ho⟩
 clear k1
 replace OO := Lib.hid (OO.out.nil_trans ho); replace B1 := Lib.hid (ho.got B1.out (by simp))
 clear ho
 have k1 := c_12 B1.out
 go_wp2_with fail
 have HWS := Lib.hid OO.out.size
 refine (HCN.out _).mono ?_
 rintro e w3 ⟨hr, ho⟩
 clear k1
 have HR := Lib.hid hr
 replace OO := Lib.hid (OO.out.nil_trans ho); replace B1 := Lib.hid (ho.got B1.out (by simp))
 have HO3 := Lib.hid ho
 clear ho hr
 have k1 := c_12 B1.out
 rcases HR.out with ⟨hb, rfl⟩ | ⟨hb, bk, rfl, hkn, hck⟩
 ·have HB := Lib.hid hb
  clear hb HR
  go_wp2
  go_ret
  exact ⟨.inl ⟨HB.out, rfl⟩, OO.out⟩
 ·have HB := Lib.hid hb; have HCK := Lib.hid hck; have HKN := Lib.hid hkn
  clear hb HR hck hkn
  have hbk := got_lt HCK.out
  go_upto_region 6 with (fail)
  refine wp_region_calm2 [0, 1, 2, 3, 5, 7, 8] [] (OnlyC ([] : List Nat) w3) (by kernel_rfl) (by kernel_rfl) ?_
  simp only [pick, List.map_cons, List.map_nil, List.getD_cons_succ, List.getD_cons_zero]
  iterate 7 (refine wpCalm_step (fun K hK => ?_); go_simp; refine hK _ ?_; clear hK K)
  refine wpCalm_nil ?_
  refine Rest.by (X := Nat × Nat) (fun y a => ((((a.put (some 21) (.pointer (some ⟨y.1, 0, none⟩))).put (some 23) (.agg #[.int .i64 (-4503599627370496), .int .i64 4503599627370496])).put (some 26) (.agg #[.int .i64 (n : Int), .int .i64 tl, .int .i64 pr, .int .i64 kp, .int .i64 sk, .int .i64 si, .int .i64 sm, .int .i64 sf, .int .i64 sl, .int .i64 ra, .int .i64 mn, .int .i64 mx, .pointer (some ⟨bk, 0, none⟩), .pointer (some ⟨y.1, 0, none⟩), .slice none 0 0, .int .i64 raw, .int .i64 (-4503599627370496), .int .i64 4503599627370496, .int .i64 raw, .int .i64 16, .int .i64 0, .int .i64 0, .int .u32 0, .bool false, .int .i64 0])).put (some 27) (.pointer (some ⟨y.2, 0, none⟩))).put (some 8) (.pointer (some ⟨y.2, 0, none⟩))) (fun y w' => SvAt w' y.1 ⟨⟨sk, si, sm, sf, sl⟩, 0, 0, 0⟩ ∧ w'.heap[y.2]? = some (.cells #[.int .i64 (n : Int), .int .i64 tl, .int .i64 pr, .int .i64 kp, .int .i64 sk, .int .i64 si, .int .i64 sm, .int .i64 sf, .int .i64 sl, .int .i64 ra, .int .i64 mn, .int .i64 mx, .pointer (some ⟨bk, 0, none⟩), .pointer (some ⟨y.1, 0, none⟩), .slice none 0 0, .int .i64 raw, .int .i64 (-4503599627370496), .int .i64 4503599627370496, .int .i64 raw, .int .i64 16, .int .i64 0, .int .i64 0, .int .u32 0, .bool false, .int .i64 0] 101 (0, 0)) ∧ w3.heap.size ≤ y.1 ∧ w3.heap.size ≤ y.2 ∧ y.1 ≠ y.2 ∧ Only [] w3 w') ?_ ?_
  rotate_left
  ·have O0 := Lib.hid (Only.refl [] w3).drew
   refine wpAnyC_next [4] (by kernel_rfl) (by simp) (.inr (onlyC O0.out)) ?_
   simp only [List.mem_cons, List.not_mem_nil, or_false, forall_eq]
   refine wpOp_one rfl ?_
   go_wp2_with fail
   refine (HSV.out _).mono ?_
   rintro e x1 ⟨⟨bv, rfl, hvn, hsv⟩, ho⟩
   have HVN : Hid (w3.heap.size ≤ bv) := Lib.hid (Nat.le_trans O0.out.size hvn)
   replace O0 := Lib.hid (O0.out.nil_trans ho)
   have HVA := Lib.hid hsv
   clear ho hvn hsv
   go_wp2
   simp only [nrm]
   refine wpAnyC_next [6] (by kernel_rfl) (by simp) (.inr (onlyC O0.out)) ?_
   simp only [List.mem_cons, List.not_mem_nil, or_false, forall_eq]
   refine wpOp_one rfl ?_
   go_wp2_with fail
   refine (HEV.out _).mono ?_
   rintro e x2 ⟨rfl, ho⟩
   replace O0 := Lib.hid (O0.out.nil_trans ho)
   replace HVA : Hid (SvAt x2 bv ⟨⟨sk, si, sm, sf, sl⟩, 0, 0, 0⟩) := Lib.hid (ho.got HVA.out (by simp))
   clear ho
   go_wp2
   simp only [nrm]
   refine wpAnyC_next [9] (by kernel_rfl) (by simp) (.inr (onlyC O0.out)) ?_
   simp only [List.mem_cons, List.not_mem_nil, or_false, forall_eq]
   refine wpOp_one rfl ?_
   go_wp2
   simp only [nrm]
   refine wpAnyC_next [10] (by kernel_rfl) (by simp) (.inr (onlyC O0.out)) ?_
   simp only [List.mem_cons, List.not_mem_nil, or_false, forall_eq]
   refine wpOp_one rfl ?_
   go_wp2
   simp only [nrm]
   refine alloc_abs (G := fun w0 => wpAnyC _ _ _ _ _ _ _ _ _ w0) ?_
   intro x3 hb0 ho0 _
   obtain ⟨bc, hbc⟩ : ∃ b, x2.heap.size = b := ⟨_, rfl⟩
   rw [hbc] at hb0
   rw [hbc]
   have HBC : Hid (w3.heap.size ≤ bc) := Lib.hid (by rw [← hbc]; exact O0.out.size)
   have HNE : Hid (bv ≠ bc) := Lib.hid (by have := got_lt HVA.out; omega)
   replace HVA : Hid (SvAt x3 bv ⟨⟨sk, si, sm, sf, sl⟩, 0, 0, 0⟩) := Lib.hid (ho0.got HVA.out (by simp))
   replace O0 := Lib.hid (O0.out.nil_trans ho0)
   have HB0 := Lib.hid hb0
   clear hb0 ho0 hbc
   refine wpAnyC_next [11] (by kernel_rfl) (by simp) (.inr (onlyC O0.out)) ?_
   simp only [List.mem_cons, List.not_mem_nil, or_false, forall_eq]
   refine wpOp_one rfl ?_
   go_wp2
   simp only [nrm]
   exact wpAnyC_done (by kernel_rfl) (.inr (onlyC O0.out)) ⟨(bv, bc), by simp [Act.put], HVA.out, HB0.out, HVN.out, HBC.out, HNE.out, O0.out⟩
  rintro ⟨bv, bc⟩ w4 ⟨hsv, hcl, hvn, hcn, hne, ho⟩
  dsimp only at hsv hcl hvn hcn hne
  simp only [Act.put, List.setIfInBounds_toArray, List.set_cons_succ, List.set_cons_zero]
  have HNW : Hid (NwS w ⟨(n : Int), tl, pr, kp, ⟨sk, si, sm, sf, sl⟩, ra, mn, mx⟩ raw time bk bv bc w4 [] (.slice none 0 0)) := Lib.hid ⟨hcl, ho.got HCK.out (by simp), hsv, own_nil _ _, fun p hp => by simp at hp, by
   simp [tri, Value.ownBlock]
   omega, fun b hb => by
   simp only [Value.ownBlock, Option.toList_none, tri, List.flatMap_nil, List.append_nil, List.mem_cons, List.not_mem_nil, or_false] at hb
   have := ho.size; have := got_lt hcl; have := got_lt hsv; have := HKN.out; have := HO3.out.size; have := HWS.out
   rcases hb with rfl | rfl | rfl
   ·exact ⟨by omega, by omega⟩
   ·exact ⟨by omega, by omega⟩
   ·exact ⟨by omega, by omega⟩, OO.out.nil_trans ho⟩
  clear k1
  have B4 := Lib.hid (ho.got B1.out (by simp)); have HBC1 : Hid (b1 ≠ bc) := Lib.hid (by have := got_lt B1.out; omega)
  clear hsv hcl hvn hcn hne ho HCK HKN B1 OO HO3 hbk
  have k1_0 := cell_got B4.out 0; have l1 := got_lt B4.out
  go_wp2_with fail
  clear k1_0 l1
  obtain ⟨wo, hwo⟩ : ∃ wo : World, wo = w4 := ⟨_, rfl⟩
  subst hwo
  go_loopw [30] (fun vi wr => ∃ (k : Nat) (ps : List (Nat × Nat × Nat)) (v : Value), k ≤ n ∧ vi = .int .i64 k ∧ ps.length = k ∧ NwS w ⟨(n : Int), tl, pr, kp, ⟨sk, si, sm, sf, sl⟩, ra, mn, mx⟩ raw time bk bv bc wr ps v ∧ b1 ∉ v.ownBlock.toList ∧ Only [] w wr ∧ wr.heap[b1]? = some (.cells #[.int .i64 (n : Int), .int .i64 tl, .int .i64 pr, .int .i64 kp, .int .i64 sk, .int .i64 si, .int .i64 sm, .int .i64 sf, .int .i64 sl, .int .i64 ra, .int .i64 mn, .int .i64 mx] 29 (0, 0))) (fun vi _ => n - (intOf vi).toNat)
  case atStart => exact ⟨0, [], _, Nat.zero_le _, rfl, rfl, HNW.out, by simp [Value.ownBlock], HNW.out.only, B4.out⟩
  case round =>
   obtain ⟨k, ps, v, hk, rfl, hpl, hnw, hvb, ho, hbx⟩ := hrel
   have HXB := Lib.hid hvb; clear hvb
   have NW := Lib.hid hnw; have BX := Lib.hid hbx; have OW := Lib.hid ho
   clear hnw hbx ho HNW B4
   by_cases hlt : k < n
   ·skip
    obtain ⟨S, hS⟩ : ∃ S, v.ownBlock.toList = S := ⟨_, rfl⟩
    have hbS : bc ∉ S := by
     rw [← hS]
     intro h
     have := NW.out.nd
     simp only [List.nodup_cons, List.mem_cons, List.mem_append, not_or] at this
     exact this.1.2.2.1 h
    have hxS : b1 ∉ S := by rw [← hS]; exact HXB.out
    have HSS := Lib.hid hS
    clear hS
    have hcl := NW.out.cl
    unfold clN at hcl
    have k14 := cell_got hcl 14; have z14 := frozen_got hcl 14; have lc := got_lt hcl
    have q1 := cell_got BX.out 1; have q6 := cell_got BX.out 10; have q7 := cell_got BX.out 11; have lx := got_lt BX.out
    have HL : Hid ((ps.map (·.1)).length = k) := Lib.hid (by rw [List.length_map]; exact hpl)
    have hkb : k + 1 ≤ 12 := by omega
    have HLT := Lib.hid hlt
    clear hcl hlt
    go_upto_region 9 with (fail)
    refine wp_region_calm2 [0, 1, 2, 3, 4, 6, 7, 9, 10, 11, 12, 13, 14, 15] [20, 21, 22] (OnlyC S wr) (by kernel_rfl) (by kernel_rfl) ?_
    simp only [pick, List.map_cons, List.map_nil, List.getD_cons_succ, List.getD_cons_zero]
    iterate 14 (refine wpCalm_step (fun K hK => ?_); go_simp; refine hK _ ?_; clear hK K)
    refine wpCalm_nil ?_
    refine Rest.by (X := Nat × Nat × Nat × Nat × Nat × Nat) (fun y a => (((((((a.put (some 37) (.pointer (some ⟨y.1, 0, none⟩))).put (some 40) (.pointer (some ⟨y.2.1, 0, none⟩))).put (some 48) (.agg #[.pointer (some ⟨y.1, 0, none⟩), .pointer (some ⟨y.2.1, 0, none⟩), .int .i64 0, .int .i64 0, .int .i64 mn, .int .i64 mn, .int .i64 mx, .int .i64 0, .int .i64 0, .int .i64 0, .int .i64 0, .int .i64 0, .int .i64 0, .int .i64 0, .int .i64 0, .int .u32 0, .int .u32 0, .int .u32 0, .int .u64 0, .int .u64 0, .int .u64 0, .int .u64 0, .int .i64 0, .int .i64 0, .int .i64 0, .int .u32 0, .int .i64 0, .int .i64 0, .int .i64 0])).put (some 49) (.pointer (some ⟨y.2.2.1, 0, none⟩))).put (some 50) (.slice (some ⟨y.2.2.2.1, 0, none⟩) 1 1)).put (some 51) (.slice (some ⟨y.2.2.2.2.1, 0, none⟩) ((ps.map (·.1)).length + 1) y.2.2.2.2.2)).put (some 52) (.pointer (some ⟨bc, 0, none⟩))).put (some 53) (.pointer (some ⟨bc, 14, none⟩))) (fun y w' => NwS w ⟨(n : Int), tl, pr, kp, ⟨sk, si, sm, sf, sl⟩, ra, mn, mx⟩ raw time bk bv bc w' (ps ++ [(y.2.2.1, y.1, y.2.1)]) (.slice (some ⟨y.2.2.2.2.1, 0, none⟩) ((ps.map (·.1)).length + 1) y.2.2.2.2.2) ∧ b1 ≠ y.2.2.2.2.1 ∧ w'.heap[b1]? = some (.cells #[.int .i64 (n : Int), .int .i64 tl, .int .i64 pr, .int .i64 kp, .int .i64 sk, .int .i64 si, .int .i64 sm, .int .i64 sf, .int .i64 sl, .int .i64 ra, .int .i64 mn, .int .i64 mx] 29 (0, 0))) ?_ ?_
    rotate_left
    ·have O0 := Lib.hid (Only.refl [] wr).drew
     refine wpAnyC_next [5] (by kernel_rfl) (by simp) (.inr (onlyC (O0.out.weak (by simp)))) ?_
     simp only [List.mem_cons, List.not_mem_nil, or_false, forall_eq]
     refine wpOp_one rfl ?_
     go_wp2_with fail
     refine (HAN2.out _).mono ?_
     rintro e x1 ⟨⟨sa, rfl, han, hsa⟩, ho⟩
     have HAN1 : Hid (wr.heap.size ≤ sa) := Lib.hid (Nat.le_trans O0.out.size han)
     have HSA := Lib.hid hsa
     replace O0 := Lib.hid (O0.out.nil_trans ho)
     clear ho han hsa
     go_wp2
     simp only [nrm]
     refine wpAnyC_next [8] (by kernel_rfl) (by simp) (.inr (onlyC (O0.out.weak (by simp)))) ?_
     simp only [List.mem_cons, List.not_mem_nil, or_false, forall_eq]
     refine wpOp_one rfl ?_
     go_wp2_with fail
     refine (HFN.out _).mono ?_
     rintro e x2 ⟨⟨sf0, rfl, hfn, hsf⟩, ho⟩
     have HFN1 : Hid (wr.heap.size ≤ sf0) := Lib.hid (Nat.le_trans O0.out.size hfn)
     have HSF := Lib.hid hsf
     have HAF : Hid (sa ≠ sf0) := Lib.hid (by have := HSA.out.lt; omega)
     replace HSA := Lib.hid (HSA.out.kept ho (by simp))
     replace O0 := Lib.hid (O0.out.nil_trans ho)
     clear ho hfn hsf
     go_wp2
     simp only [nrm]
     refine wpAnyC_next [16] (by kernel_rfl) (by simp) (.inr (onlyC (O0.out.weak (by simp)))) ?_
     simp only [List.mem_cons, List.not_mem_nil, or_false, forall_eq]
     refine wpOp_one rfl ?_
     go_wp2
     simp only [nrm]
     refine wpAnyC_next [17] (by kernel_rfl) (by simp) (.inr (onlyC (O0.out.weak (by simp)))) ?_
     simp only [List.mem_cons, List.not_mem_nil, or_false, forall_eq]
     refine wpOp_one rfl ?_
     go_wp2
     simp only [nrm]
     refine alloc_abs (G := fun w0 => wpAnyC _ _ _ _ _ _ _ _ _ w0) ?_
     intro x3 hb0 ho0 hz
     clear hz
     obtain ⟨sb, hbc⟩ : ∃ b, x2.heap.size = b := ⟨_, rfl⟩
     rw [hbc] at hb0
     rw [hbc]
     have HSB1 : Hid (wr.heap.size ≤ sb) := Lib.hid (by rw [← hbc]; exact O0.out.size)
     have HBA : Hid (sb ≠ sa) := Lib.hid (by have := HSA.out.lt; omega)
     have HBF : Hid (sb ≠ sf0) := Lib.hid (by have := HSF.out.lt; omega)
     replace HSA := Lib.hid (HSA.out.kept ho0 (by simp)); replace HSF := Lib.hid (HSF.out.kept ho0 (by simp))
     replace O0 := Lib.hid (O0.out.nil_trans ho0)
     have HSB : Hid (SrB x3 sb sa sf0 (sr0 ⟨(n : Int), tl, pr, kp, ⟨sk, si, sm, sf, sl⟩, ra, mn, mx⟩)) := Lib.hid hb0
     clear hb0 ho0 hbc
     refine wpAnyC_next [18] (by kernel_rfl) (by simp) (.inr (onlyC (O0.out.weak (by simp)))) ?_
     simp only [List.mem_cons, List.not_mem_nil, or_false, forall_eq]
     refine wpOp_one rfl ?_
     go_wp2
     simp only [nrm]
     refine alloc_abs (G := fun w0 => wpAnyC _ _ _ _ _ _ _ _ _ w0) ?_
     intro x4 hb0 ho0 hz
     clear hz
     obtain ⟨ad, hbc⟩ : ∃ b, x3.heap.size = b := ⟨_, rfl⟩
     rw [hbc] at hb0
     rw [hbc]
     replace HSA := Lib.hid (HSA.out.kept ho0 (by simp)); replace HSF := Lib.hid (HSF.out.kept ho0 (by simp))
     replace HSB : Hid (SrB x4 sb sa sf0 (sr0 ⟨(n : Int), tl, pr, kp, ⟨sk, si, sm, sf, sl⟩, ra, mn, mx⟩)) := Lib.hid (ho0.got HSB.out (by simp))
     replace O0 := Lib.hid (O0.out.nil_trans ho0)
     have HAD := Lib.hid hb0
     clear hb0 ho0 hbc
     refine wpAnyC_next [19] (by kernel_rfl) (by simp) (.inr (onlyC (O0.out.weak (by simp)))) ?_
     simp only [List.mem_cons, List.not_mem_nil, or_false, forall_eq]
     refine wpOp_one rfl ?_
     refine wpList_append_B (B := w.heap.size) rfl _ _ 99 rfl 102 (.pointer none) 1 8 Tryz.underlying99 (by kernel_rfl) rfl (by decide) ptrC_len ptrC_one (ps.map (·.1)) v rfl (NW.out.own.kept O0.out) ad sb rfl (fun j u hj => by rw [cell_got HAD.out, ← hj]; simp [ptrC]) (by rw [HL.out]; simp [maxLen]; omega) (by rw [HL.out]; omega) (Nat.le_trans NW.out.only.size O0.out.size) ?_
     intro g' cap' x5 hown ho5 hg
     have NX := Lib.hid (NW.out.push O0.out HSB.out HSA.out HSF.out HSB1.out HAN1.out HFN1.out HBA.out HBF.out HAF.out hown ho5 hg)
     have HB1G : Hid (b1 ≠ g') := Lib.hid (by
      rcases hg with hg | hg
      ·intro e; exact HXB.out (by rw [hg, ← e]; simp)
      ·have h1 := got_lt (O0.out.got BX.out (by simp)); omega)
     rw [HSS.out] at ho5
     have hcl5 := ho5.got (O0.out.got NW.out.cl (by simp)) hbS
     unfold clN at hcl5
     have BX5 := Lib.hid (ho5.got (O0.out.got BX.out (by simp)) hxS)
     have HC5 := Lib.hid (onlyC ((O0.out.weak (S' := S) (by simp)).trans ho5 (fun x hx => .inl hx)))
     clear hown ho5 hg k14 z14 lc q1 q6 q7 lx
     have y14 := cell_got hcl5 14; have f14 := frozen_got hcl5 14; have lc5 := got_lt hcl5
     go_wp2
     simp only [nrm]
     refine wpAnyC_next [20] (by kernel_rfl) (by simp) (.inr HC5.out) ?_
     simp only [List.mem_cons, List.not_mem_nil, or_false, forall_eq]
     refine wpOp_one rfl ?_
     go_wp2
     simp only [nrm]
     refine wpAnyC_next [21] (by kernel_rfl) (by simp) (.inr HC5.out) ?_
     simp only [List.mem_cons, List.not_mem_nil, or_false, forall_eq]
     refine wpOp_one rfl ?_
     go_wp2
     simp only [nrm]
     refine wpAnyC_next [22] (by kernel_rfl) (by simp) (.inr HC5.out) ?_
     simp only [List.mem_cons, List.not_mem_nil, or_false, forall_eq]
     refine wpOp_one rfl ?_
     go_wp2
     simp only [nrm]
     exact wpAnyC_done (by kernel_rfl) (.inl (late_of (by kernel_rfl))) ⟨sa, sf0, sb, ad, g', cap', by simp, (by have := NX.out; rw [HL.out] at this; exact this), HB1G.out, setCell_oth _ BX5.out HBC1.out⟩
    rintro ⟨sa, sf0, sb, ad, g', cap'⟩ w5 ⟨hnw, hgb, hbx⟩
    dsimp only at hnw hgb hbx
    simp only [Act.put, List.setIfInBounds_toArray, List.set_cons_succ, List.set_cons_zero]
    have NX := Lib.hid hnw; have HGB := Lib.hid hgb; have BY := Lib.hid hbx
    clear hnw hgb hbx k14 z14 lc q1 q6 q7 lx
    go_wp2
    go_roundw
    case rel => exact ⟨k + 1, _, _, by have := HLT.out; omega, by go_num, by rw [List.length_append, hpl]; rfl, NX.out, by simpa [Value.ownBlock] using HGB.out, NX.out.only, BY.out⟩
    case measure => first | (simp [intOf]; done) | (have := HLT.out; simp [intOf]; omega)
   ·obtain rfl : k = n := by omega
    obtain ⟨P, rfl, hP, hPl⟩ := NW.out.done (by omega) (by rw [hpl]; simp)
    have HP := Lib.hid (And.intro hP hPl)
    clear hP hPl hlt
    go_wp2
    go_ret
    exact ⟨.inr ⟨HB.out, P, rfl, HP.out.1, HP.out.2⟩, OW.out⟩
end Go.Proofs.YtikjdmbfjkbndaaGreat

/- client.enter. Conditions: those named in each theorem. -/
namespace Go.Proofs.YtikjdmbfjkbndaaGreat
open Go.RowKit

def clEnter (c : Cl) (raw : Int) : Int × Int × Cl := if (clNow c raw).2 = 0 then ((clNow c raw).1, 0, { c with last := raw }) else ((clNow c raw).1, (clNow c raw).2, c)
/-- the client's own block has changed -/
theorem ClAt.putB {w w' : World} {P : Pl} {c c' : Cl} (h : ClAt w P c) (ho : Only [P.bc] w w') (hb : ClB w' P c') (h1 : c'.ck = c.ck) (h2 : c'.sv = c.sv) (h3 : c'.srcs = c.srcs) : ClAt w' P c' := by
 have hnd := h.nd
 unfold Pl.all at hnd
 simp only [List.nodup_cons, List.mem_cons, not_or] at hnd
 obtain ⟨⟨n1, n2, n3, n4⟩, _⟩ := hnd
 have key : ∀ i (hi : i < P.ps.length), ∀ x ∈ [P.ps[i].1, P.ps[i].2.1, P.ps[i].2.2], x ∉ [P.bc] := fun i hi x hx hm => by
  simp only [List.mem_cons, List.not_mem_nil, or_false] at hm
  exact n4 (hm ▸ List.mem_flatMap.2 ⟨P.ps[i], List.getElem_mem hi, hx⟩)
 refine ⟨hb, ?_, ?_, h.row.kept ho (by simpa using Ne.symm n3), h3 ▸ h.len, ?_, h.nd, fun b hb => Nat.lt_of_lt_of_le (h.lt b hb) ho.size⟩
 ·rw [h1]; exact ho.got h.ck (by simpa using Ne.symm n1)
 ·rw [h2]; exact ho.got h.sv (by simpa using Ne.symm n2)
 ·rw [h3]
  exact fun i hi hi' => (h.src i hi hi').kept ho (key i hi _ (by simp)) (key i hi _ (by simp)) (key i hi _ (by simp))
set_option maxRecDepth 100000 in
set_option maxHeartbeats 2000000 in
theorem pClEnter {w : World} {P : Pl} {c : Cl} (h : ClAt w P c) (hok : CkOk c.ck) (raw : Int) (h0 : -9223372036854775808 ≤ raw) (h1 : raw ≤ 9223372036854775807) :
  Calls Tryz.prog 38 #[.pointer (some ⟨P.bc, 0, none⟩), .int .i64 raw] w fun e w' => e = .returned (.tuple #[.int .i64 (clEnter c raw).1, .int .i64 (clEnter c raw).2.1]) ∧ ClB w' P (clEnter c raw).2.2 ∧ Only [P.bc] w w' := by
 have HN := Lib.hid (fun w' (ho : Only [] w w') => pClNow (h.kept ho) hok raw h0 h1)
 have hl := h.cl
 unfold ClB at hl
 have HE : Hid (clEnter c raw = if (clNow c raw).2 = 0 then ((clNow c raw).1, 0, { c with last := raw }) else ((clNow c raw).1, (clNow c raw).2, c)) := Lib.hid rfl
 generalize clEnter c raw = res at HE ⊢
 have HXN : Hid (∃ x, x = clNow c raw) := Lib.hid ⟨_, rfl⟩
 generalize clNow c raw = nn at HE HN
 obtain ⟨nv, ne⟩ := nn
 dsimp only at HE HN
 by_cases hz : ne = 0
 ·subst hz
  obtain rfl : res = (nv, 0, { c with last := raw }) := by have := HE.out; simpa using this
  clear HE
  go_enter Tryz.func38, Tryz.ntmps38
  have OO := Lib.hid (Only.refl [P.bc] w)
  have B1 := Lib.hid hl
  have k1 := c_25 B1.out
  go_wp2_with fail
  refine (HN.out _ (Only.refl [] w)).mono ?_
  rintro e w2 ⟨rfl, ho⟩
  clear k1
  replace OO := Lib.hid (OO.out.nil_trans ho); replace B1 := Lib.hid (ho.got B1.out (by simp))
  clear ho
  have k1 := c_25 B1.out
  go_upto_region 4 with (fail)
  refine wabs (G := fun w0 => Code.wp _ _ _ _ w0) (R := fun w3 => w3.heap[P.bc]? = some (.cells #[.int .i64 c.cf.servers, .int .i64 c.cf.tol, .int .i64 c.cf.prec, .int .i64 c.cf.keep, .int .i64 c.cf.sv.kp, .int .i64 c.cf.sv.ki, .int .i64 c.cf.sv.lim, .int .i64 c.cf.sv.sf, .int .i64 c.cf.sv.sl, .int .i64 c.cf.rate, .int .i64 c.cf.mn, .int .i64 c.cf.mx, .pointer (some ⟨P.bk, 0, none⟩), .pointer (some ⟨P.bv, 0, none⟩), .slice (some ⟨P.g, 0, none⟩) P.ps.length P.cap, .int .i64 raw, .int .i64 c.own.lo, .int .i64 c.own.hi, .int .i64 c.owned, .int .i64 c.rt.str, .int .i64 c.rt.dly, .int .i64 c.rt.dsp, .int .u32 c.rt.ref, .bool c.st, .int .i64 c.rd] 101 (0, 0)) ∧ Only [P.bc] w w3) ⟨(setCell_got (o := 15) (.int .i64 raw) B1.out), (OO.out.setCell (.inl (by simp)) _)⟩ ?_
  rintro w3 ⟨g1, ho⟩
  clear k1
  replace B1 := Lib.hid g1; replace OO := Lib.hid ho
  clear ho g1
  have k1 := c_25 B1.out
  go_wp2
  go_ret2
  exact ⟨rfl, B1.out, OO.out⟩
 ·have q1 : (ne == 0) = false := by simpa using hz
  obtain rfl : res = (nv, ne, c) := by have := HE.out; simpa [hz] using this
  clear HE hz
  go_enter Tryz.func38, Tryz.ntmps38
  have OO := Lib.hid (Only.refl [P.bc] w)
  have B1 := Lib.hid hl
  have k1 := c_25 B1.out
  go_wp2_with fail
  refine (HN.out _ (Only.refl [] w)).mono ?_
  rintro e w2 ⟨rfl, ho⟩
  clear k1
  replace OO := Lib.hid (OO.out.nil_trans ho); replace B1 := Lib.hid (ho.got B1.out (by simp))
  clear ho
  have k1 := c_25 B1.out
  go_wp2
  go_ret2
  exact ⟨rfl, B1.out, OO.out⟩
end Go.Proofs.YtikjdmbfjkbndaaGreat

/- client.Send. Conditions: those named in each theorem. -/
namespace Go.Proofs.YtikjdmbfjkbndaaGreat
open Go.RowKit

theorem nodup_of_flat {α β : Type} {f : α → List β} : ∀ {l : List α} {x : α}, (l.flatMap f).Nodup → x ∈ l → (f x).Nodup
 | a :: l, x, h, hx => by
  rw [List.flatMap_cons, List.nodup_append] at h
  rcases List.mem_cons.1 hx with rfl | hx
  ·exact h.1
  ·exact nodup_of_flat h.2.1 hx
def sSend (s : Sr) (raw now nonce : Int) : Np × Int × Sr := if (aSend s.sa now nonce).2.1 = 0 then ({ (aSend s.sa now nonce).1 with poll := (rshift s.rc).poll }, 0, { s with sa := (aSend s.sa now nonce).2.2, sent := raw, rc := rshift s.rc }) else (np0, (aSend s.sa now nonce).2.1, { s with sa := (aSend s.sa now nonce).2.2 })
theorem clEnter_same (c : Cl) (raw : Int) : (clEnter c raw).2.2.ck = c.ck ∧ (clEnter c raw).2.2.sv = c.sv ∧ (clEnter c raw).2.2.srcs = c.srcs := by
 unfold clEnter
 split <;> exact ⟨rfl, rfl, rfl⟩
set_option maxRecDepth 100000 in
set_option maxHeartbeats 4000000 in
theorem pClSend {w : World} {P : Pl} {c : Cl} (h : ClAt w P c) (hok : CkOk c.ck) (raw : Int) (h0 : -9223372036854775808 ≤ raw) (h1 : raw ≤ 9223372036854775807) (nonce : Int) (i : Nat) (hi : i < P.ps.length) (he : (clEnter c raw).2.1 = 0) :
  Calls Tryz.prog 11 #[.pointer (some ⟨P.bc, 0, none⟩), .int .i64 i, .int .i64 raw, .int .u64 nonce] w fun e w' => ∃ (hi' : i < c.srcs.length), e = .returned (.tuple #[npV (sSend c.srcs[i] raw (clEnter c raw).1 nonce).1, .int .i64 (sSend c.srcs[i] raw (clEnter c raw).1 nonce).2.1]) ∧ (ClB w' P (clEnter c raw).2.2 ∧ SrAt w' P.ps[i] (sSend c.srcs[i] raw (clEnter c raw).1 nonce).2.2) ∧ Only [P.bc, P.ps[i].1, P.ps[i].2.1] w w' := by
 obtain ⟨pb, pa, pf, hp⟩ : ∃ pb pa pf, P.ps[i] = (pb, pa, pf) := ⟨_, _, _, rfl⟩
 have hic : i < c.srcs.length := h.len ▸ hi
 obtain ⟨s, hs⟩ : ∃ s, c.srcs[i] = s := ⟨_, rfl⟩
 have hsr := h.src i hi hic
 rw [hp, hs] at hsr
 obtain ⟨hB, hA, hF⟩ := hsr
 dsimp only at hB hA hF
 have HFF := Lib.hid hF
 clear hF
 have hnd := h.nd
 unfold Pl.all at hnd
 simp only [List.nodup_cons, List.mem_cons, not_or] at hnd
 obtain ⟨⟨n1, n2, n3, n4⟩, ⟨n5, n6, n7⟩, ⟨n8, n9⟩, n10, n11⟩ := hnd
 have key : ∀ x ∈ [pb, pa, pf], x ∈ P.ps.flatMap fun p => [p.1, p.2.1, p.2.2] := fun x hx => List.mem_flatMap.2 ⟨P.ps[i], List.getElem_mem hi, by rw [hp]; exact hx⟩
 have h23 : P.bc ≠ pb := fun e => n4 (e ▸ key pb (by simp))
 have h24 : P.bc ≠ pa := fun e => n4 (e ▸ key pa (by simp))
 have h34 : pb ≠ pa := by
  have := nodup_of_flat n11 (List.getElem_mem hi)
  rw [hp] at this
  simp only [List.nodup_cons, List.mem_cons, not_or] at this
  exact this.1.1
 have hpf : pf ∉ [P.bc, pb, pa] := by
  have := nodup_of_flat n11 (List.getElem_mem hi)
  rw [hp] at this
  simp only [List.nodup_cons, List.mem_cons, not_or, List.not_mem_nil, or_false] at this ⊢
  exact ⟨fun e => n4 (e ▸ key pf (by simp)), fun e => this.1.2 e.symm, fun e => this.2.1 e.symm⟩
 have HPF := Lib.hid hpf
 clear hpf
 have HY2_3 := Lib.hid h23; have HY2_4 := Lib.hid h24; have HY3_4 := Lib.hid h34
 clear key n1 n2 n3 n4 n5 n6 n7 n8 n9 n10 n11 h23 h24 h34
 have hl := h.cl
 unfold ClB at hl
 unfold SrB at hB
 obtain ⟨c0, c1, c2, c3, c4, c5, c6, c7, hA⟩ := hA
 have HE1 := Lib.hid (fun (w' : World) (hw : ClAt w' P c) => pClEnter hw hok raw h0 h1)
 have HQ := Lib.hid (clEnter_same c raw)
 generalize clEnter c raw = en at HE1 HQ he ⊢
 obtain ⟨nv, ne, c'⟩ := en
 dsimp only at HE1 HQ he ⊢
 have hlen := h.len
 have hn12 : P.ps.length ≤ 9223372036854775807 := by
  obtain ⟨cur, _, _, g1, g2, _⟩ := h.row
  rw [List.length_map] at g1
  exact Nat.le_trans (Nat.le_trans g1 g2) (by decide)
 have hg0 : w.cell? ⟨P.g, i, none⟩ = some (.pointer (some ⟨pb, 0, none⟩)) := by
  have := h.row.cell ptrC_len (i := i) (j := 0) (x := pb) (by rw [List.getElem?_map, List.getElem?_eq_getElem hi, hp]; rfl) (by decide)
  simpa [ptrC] using this
 have HG := Lib.hid (And.intro hg0 h.row.lt)
 clear hg0
 have HC := Lib.hid h
 have hgb : P.g ∉ [P.bc] := by
  have := h.nd
  unfold Pl.all at this
  simp only [List.nodup_cons, List.mem_cons, not_or] at this
  simpa using Ne.symm this.1.2.2.1
 have HGB := Lib.hid hgb
 clear hgb
 obtain ⟨m, hm⟩ : ∃ m, (P.ps.length : Int) - 1 = m := ⟨_, rfl⟩
 have r1 : IntKind.i64.wrap ((P.ps.length : Int) - 1) = m := by rw [IntKind.wrap_i64]; omega
 have HO := Lib.hid (fun w' => by have := pOutside (i : Int) 0 m w'; rw [show wth (i : Int) 0 m = true from by rw [wth_iff]; omega] at this; exact this)
 clear hm hlen hn12
 have hi0 : decide (i < P.ps.length) = true := decide_eq_true hi
 have hi1 : decide ((i : Int) < (P.ps.length : Int)) = true := decide_eq_true (by omega)
 subst he
 have HA1 := Lib.hid (fun (w' : World) (hw : AsAt w' pa s.sa) => pASend hw nv nonce)
 have HSS : Hid (sSend s raw nv nonce = if (aSend s.sa nv nonce).2.1 = 0 then ({ (aSend s.sa nv nonce).1 with poll := (rshift s.rc).poll }, 0, { s with sa := (aSend s.sa nv nonce).2.2, sent := raw, rc := rshift s.rc }) else (np0, (aSend s.sa nv nonce).2.1, { s with sa := (aSend s.sa nv nonce).2.2 })) := Lib.hid rfl
 suffices HW : Calls Tryz.prog 11 #[.pointer (some ⟨P.bc, 0, none⟩), .int .i64 i, .int .i64 raw, .int .u64 nonce] w fun e w' => e = .returned (.tuple #[npV (sSend s raw nv nonce).1, .int .i64 (sSend s raw nv nonce).2.1]) ∧ (ClB w' P c' ∧ SrB w' pb pa pf (sSend s raw nv nonce).2.2 ∧ AsAt w' pa (sSend s raw nv nonce).2.2.sa) ∧ Only [P.bc, pb, pa] w w' by
  refine HW.mono ?_
  rintro e w' ⟨h1, ⟨h2, h3, h4⟩, h5⟩
  refine ⟨hic, ?_, ⟨h2, ?_⟩, ?_⟩
  ·rw [hs]; exact h1
  ·rw [hs, hp]
   refine ⟨h3, h4, ?_⟩
   have := HFF.out.kept h5 HPF.out
   unfold sSend
   split <;> exact this
  ·rw [hp]; exact h5
 clear HPF HFF hs hp
 generalize sSend s raw nv nonce = res at HSS ⊢
 generalize aSend s.sa nv nonce = asd at HSS HA1
 obtain ⟨⟨n0, n1, n2, n3, n4, n5, n6, n7, n8, n9, n10, n11, n12⟩, ae, sb⟩ := asd
 have HSH := Lib.hid (fun w' => pShift s.rc w')
 generalize rshift s.rc = rc at HSS HSH
 dsimp only at HSS HA1
 unfold npV at HA1
 unfold rcV at HSH
 dsimp only at HA1
 by_cases hz : ae = 0
 ·subst hz
  obtain rfl : res = (⟨n0, n1, n2, n3, rc.poll, n5, n6, n7, n8, n9, n10, n11, n12⟩, 0, { s with sa := sb, sent := raw, rc := rc }) := by have := HSS.out; simpa using this
  clear HSS
  go_enter Tryz.func11, Tryz.ntmps11
  go_upto_region 1 with (fail)
  refine alloc_abs (G := fun w0 => Code.wp _ _ _ _ w0) ?_
  intro w1 hb1 ho1 hs1
  obtain ⟨b1, hbe1⟩ : ∃ b, w.heap.size = b := ⟨_, rfl⟩
  rw [hbe1] at hb1
  rw [hbe1]
  have HN : Hid (w.heap.size ≤ b1) := Lib.hid (by omega)
  have B1 := Lib.hid hb1; have OO := Lib.hid ho1
  clear hb1 hs1 hbe1
  have B2 := Lib.hid (ho1.got hl (by simp)); have HX2 := Lib.hid (got_lt hl)
  have B3 := Lib.hid (ho1.got hB (by simp)); have HX3 := Lib.hid (got_lt hB)
  have B4 := Lib.hid (ho1.got hA (by simp)); have HX4 := Lib.hid (got_lt hA)
  replace OO := Lib.hid (ho1.weak (S' := [P.bc, pb, pa]) (by simp))
  replace HG := Lib.hid (And.intro ((ho1.cell HG.out.2 (by simp)).trans HG.out.1) (Nat.lt_of_lt_of_le HG.out.2 ho1.size))
  replace HC := Lib.hid (HC.out.kept ho1)
  clear ho1
  have k1 := c_13 B1.out; have k2 := c_25 B2.out; have k3 := c_29 B3.out; have k4 := c_13 B4.out
  have cg := HG.out.1; have lg := HG.out.2
  go_wp2_with fail
  refine (HO.out _).mono ?_
  rintro e w2 ⟨rfl, ho⟩
  clear k1 k2 k3 k4 cg lg
  replace OO := Lib.hid (OO.out.nil_trans ho); replace B1 := Lib.hid (ho.got B1.out (by simp)); replace B2 := Lib.hid (ho.got B2.out (by simp)); replace B3 := Lib.hid (ho.got B3.out (by simp)); replace B4 := Lib.hid (ho.got B4.out (by simp))
  replace HG := Lib.hid (And.intro ((ho.cell HG.out.2 (by simp)).trans HG.out.1) (Nat.lt_of_lt_of_le HG.out.2 ho.size))
  replace HC := Lib.hid (HC.out.kept ho)
  clear ho
  have k1 := c_13 B1.out; have k2 := c_25 B2.out; have k3 := c_29 B3.out; have k4 := c_13 B4.out
  have cg := HG.out.1; have lg := HG.out.2
  go_wp2_with fail
  refine (HE1.out _ HC.out).mono ?_
  rintro e w3 ⟨rfl, hcl, ho⟩
  unfold ClB at hcl
  replace HG := Lib.hid (And.intro ((ho.cell HG.out.2 HGB.out).trans HG.out.1) (Nat.lt_of_lt_of_le HG.out.2 ho.size))
  clear HC
  clear k1 k2 k3 k4 cg lg
  replace OO := Lib.hid (OO.out.trans ho (by simp)); replace B1 := Lib.hid (ho.got B1.out (by simp only [List.mem_cons, List.not_mem_nil, or_false]; exact (show b1 ≠ P.bc from (by have e1 := HN.out; have e2 := HX2.out; omega)))); replace B2 := Lib.hid hcl; replace B3 := Lib.hid (ho.got B3.out (by simp only [List.mem_cons, List.not_mem_nil, or_false]; exact HY2_3.out.symm)); replace B4 := Lib.hid (ho.got B4.out (by simp only [List.mem_cons, List.not_mem_nil, or_false]; exact HY2_4.out.symm))
  clear ho
  have k1 := c_13 B1.out; have k2 := c_25 B2.out; have k3 := c_29 B3.out; have k4 := c_13 B4.out
  have cg := HG.out.1; have lg := HG.out.2
  clear HE1
  go_wp2_with fail
  refine (HA1.out _ ⟨c0, c1, c2, c3, c4, c5, c6, c7, B4.out⟩).mono ?_
  rintro e w4 ⟨rfl, ⟨d0, d1, d2, d3, d4, d5, d6, d7, hA⟩, ho⟩
  clear k1 k2 k3 k4 cg lg
  replace OO := Lib.hid (OO.out.trans ho (by simp)); replace B1 := Lib.hid (ho.got B1.out (by simp only [List.mem_cons, List.not_mem_nil, or_false]; exact (show b1 ≠ pa from (by have e1 := HN.out; have e4 := HX4.out; omega)))); replace B2 := Lib.hid (ho.got B2.out (by simp only [List.mem_cons, List.not_mem_nil, or_false]; exact HY2_4.out)); replace B3 := Lib.hid (ho.got B3.out (by simp only [List.mem_cons, List.not_mem_nil, or_false]; exact HY3_4.out)); replace B4 := Lib.hid hA
  clear ho HG
  have k1 := c_13 B1.out; have k2 := c_25 B2.out; have k3 := c_29 B3.out; have k4 := c_13 B4.out
  go_upto_region 10 with (fail)
  refine alloc_abs (G := fun w0 => Code.wp _ _ _ _ w0) ?_
  intro w5 hb ho hs
  obtain ⟨b5, hbe⟩ : ∃ b, w4.heap.size = b := ⟨_, rfl⟩
  rw [hbe] at hb
  rw [hbe]
  have HN5 : Hid (w.heap.size ≤ b5) := Lib.hid (by rw [← hbe]; exact OO.out.size)
  have HM5_1 : Hid (b1 ≠ b5) := Lib.hid (by omega)
  have HM5_2 : Hid (P.bc ≠ b5) := Lib.hid (by omega)
  have HM5_3 : Hid (pb ≠ b5) := Lib.hid (by omega)
  have HM5_4 : Hid (pa ≠ b5) := Lib.hid (by omega)
  clear k1 k2 k3 k4
  replace OO := Lib.hid (OO.out.nil_trans ho); replace B1 := Lib.hid (ho.got B1.out (by simp)); replace B2 := Lib.hid (ho.got B2.out (by simp)); replace B3 := Lib.hid (ho.got B3.out (by simp)); replace B4 := Lib.hid (ho.got B4.out (by simp)); have B5 := Lib.hid hb
  clear hb ho hs hbe
  have k1 := c_13 B1.out; have k2 := c_25 B2.out; have k3 := c_29 B3.out; have k4 := c_13 B4.out; have k5 := c_13 B5.out
  go_upto_region 13 with (fail)
  refine wabs (G := fun w0 => Code.wp _ _ _ _ w0) (R := fun w6 => w6.heap[b1]? = some (.cells #[.int .i64 0, .int .i64 0, .int .i64 0, .int .i64 0, .int .i64 0, .int .i64 0, .int .u32 0, .int .u32 0, .int .u32 0, .int .u64 0, .int .u64 0, .int .u64 0, .int .u64 0] 33 (0, 0)) ∧ w6.heap[P.bc]? = some (.cells #[.int .i64 c'.cf.servers, .int .i64 c'.cf.tol, .int .i64 c'.cf.prec, .int .i64 c'.cf.keep, .int .i64 c'.cf.sv.kp, .int .i64 c'.cf.sv.ki, .int .i64 c'.cf.sv.lim, .int .i64 c'.cf.sv.sf, .int .i64 c'.cf.sv.sl, .int .i64 c'.cf.rate, .int .i64 c'.cf.mn, .int .i64 c'.cf.mx, .pointer (some ⟨P.bk, 0, none⟩), .pointer (some ⟨P.bv, 0, none⟩), .slice (some ⟨P.g, 0, none⟩) P.ps.length P.cap, .int .i64 c'.last, .int .i64 c'.own.lo, .int .i64 c'.own.hi, .int .i64 c'.owned, .int .i64 c'.rt.str, .int .i64 c'.rt.dly, .int .i64 c'.rt.dsp, .int .u32 c'.rt.ref, .bool c'.st, .int .i64 c'.rd] 101 (0, 0)) ∧ w6.heap[pb]? = some (.cells #[.pointer (some ⟨pa, 0, none⟩), .pointer (some ⟨pf, 0, none⟩), .int .i64 (knI s.hr s.hp), .int .i64 s.rc.bits, .int .i64 s.rc.poll, .int .i64 s.rc.mn, .int .i64 s.rc.mx, .int .i64 s.rc.cnt, .int .i64 raw, .int .i64 s.hdr.leap, .int .i64 s.hdr.ver, .int .i64 s.hdr.mode, .int .i64 s.hdr.strat, .int .i64 s.hdr.poll, .int .i64 s.hdr.prec, .int .u32 s.hdr.rdel, .int .u32 s.hdr.rdsp, .int .u32 s.hdr.rid, .int .u64 s.hdr.ref, .int .u64 s.hdr.org, .int .u64 s.hdr.rcv, .int .u64 s.hdr.xmt, .int .i64 s.rt.str, .int .i64 s.rt.dly, .int .i64 s.rt.dsp, .int .u32 s.rt.ref, .int .i64 s.prf.lo, .int .i64 s.prf.hi, .int .i64 s.pat] 108 (0, 0)) ∧ w6.heap[pa]? = some (.cells #[.int .i64 sb.ver, .int .i64 sb.t1, .int .u64 sb.nonce, .bool sb.pend, .int .u64 sb.xmt, .int .i64 d0, .int .i64 d1, .int .i64 d2, .int .i64 d3, .int .i64 d4, .int .i64 d5, .int .i64 d6, .int .i64 d7] 155 (0, 0)) ∧ w6.heap[b5]? = some (.cells #[.int .i64 n0, .int .i64 n1, .int .i64 n2, .int .i64 n3, .int .i64 n4, .int .i64 n5, .int .u32 n6, .int .u32 n7, .int .u32 n8, .int .u64 n9, .int .u64 n10, .int .u64 n11, .int .u64 n12] 33 (0, 0)) ∧ Only [P.bc, pb, pa] w w6) ⟨(setCell_oth (.int .i64 raw) B1.out (show b1 ≠ pb from (by have e1 := HN.out; have e3 := HX3.out; omega))), (setCell_oth (.int .i64 raw) B2.out HY2_3.out), (setCell_got (o := 8) (.int .i64 raw) B3.out), (setCell_oth (.int .i64 raw) B4.out HY3_4.out.symm), (setCell_oth (.int .i64 raw) B5.out HM5_3.out.symm), (OO.out.setCell (.inl (by simp)) _)⟩ ?_
  rintro w6 ⟨g1, g2, g3, g4, g5, ho⟩
  clear k1 k2 k3 k4 k5
  replace B1 := Lib.hid g1; replace B2 := Lib.hid g2; replace B3 := Lib.hid g3; replace B4 := Lib.hid g4; replace B5 := Lib.hid g5; replace OO := Lib.hid ho
  clear ho g1 g2 g3 g4 g5
  have k1 := c_13 B1.out; have k2 := c_25 B2.out; have k3 := c_29 B3.out; have k4 := c_13 B4.out; have k5 := c_13 B5.out
  go_wp2_with fail
  refine (HSH.out _).mono ?_
  rintro e w7 ⟨rfl, ho⟩
  clear k1 k2 k3 k4 k5
  replace OO := Lib.hid (OO.out.nil_trans ho); replace B1 := Lib.hid (ho.got B1.out (by simp)); replace B2 := Lib.hid (ho.got B2.out (by simp)); replace B3 := Lib.hid (ho.got B3.out (by simp)); replace B4 := Lib.hid (ho.got B4.out (by simp)); replace B5 := Lib.hid (ho.got B5.out (by simp))
  clear ho
  have k1 := c_13 B1.out; have k2 := c_25 B2.out; have k3 := c_29 B3.out; have k4 := c_13 B4.out; have k5 := c_13 B5.out
  go_upto_region 14 with (fail)
  refine wabs (G := fun w0 => Code.wp _ _ _ _ w0) (R := fun w8 => w8.heap[b1]? = some (.cells #[.int .i64 0, .int .i64 0, .int .i64 0, .int .i64 0, .int .i64 0, .int .i64 0, .int .u32 0, .int .u32 0, .int .u32 0, .int .u64 0, .int .u64 0, .int .u64 0, .int .u64 0] 33 (0, 0)) ∧ w8.heap[P.bc]? = some (.cells #[.int .i64 c'.cf.servers, .int .i64 c'.cf.tol, .int .i64 c'.cf.prec, .int .i64 c'.cf.keep, .int .i64 c'.cf.sv.kp, .int .i64 c'.cf.sv.ki, .int .i64 c'.cf.sv.lim, .int .i64 c'.cf.sv.sf, .int .i64 c'.cf.sv.sl, .int .i64 c'.cf.rate, .int .i64 c'.cf.mn, .int .i64 c'.cf.mx, .pointer (some ⟨P.bk, 0, none⟩), .pointer (some ⟨P.bv, 0, none⟩), .slice (some ⟨P.g, 0, none⟩) P.ps.length P.cap, .int .i64 c'.last, .int .i64 c'.own.lo, .int .i64 c'.own.hi, .int .i64 c'.owned, .int .i64 c'.rt.str, .int .i64 c'.rt.dly, .int .i64 c'.rt.dsp, .int .u32 c'.rt.ref, .bool c'.st, .int .i64 c'.rd] 101 (0, 0)) ∧ w8.heap[pb]? = some (.cells #[.pointer (some ⟨pa, 0, none⟩), .pointer (some ⟨pf, 0, none⟩), .int .i64 (knI s.hr s.hp), .int .i64 rc.bits, .int .i64 rc.poll, .int .i64 rc.mn, .int .i64 rc.mx, .int .i64 rc.cnt, .int .i64 raw, .int .i64 s.hdr.leap, .int .i64 s.hdr.ver, .int .i64 s.hdr.mode, .int .i64 s.hdr.strat, .int .i64 s.hdr.poll, .int .i64 s.hdr.prec, .int .u32 s.hdr.rdel, .int .u32 s.hdr.rdsp, .int .u32 s.hdr.rid, .int .u64 s.hdr.ref, .int .u64 s.hdr.org, .int .u64 s.hdr.rcv, .int .u64 s.hdr.xmt, .int .i64 s.rt.str, .int .i64 s.rt.dly, .int .i64 s.rt.dsp, .int .u32 s.rt.ref, .int .i64 s.prf.lo, .int .i64 s.prf.hi, .int .i64 s.pat] 108 (0, 0)) ∧ w8.heap[pa]? = some (.cells #[.int .i64 sb.ver, .int .i64 sb.t1, .int .u64 sb.nonce, .bool sb.pend, .int .u64 sb.xmt, .int .i64 d0, .int .i64 d1, .int .i64 d2, .int .i64 d3, .int .i64 d4, .int .i64 d5, .int .i64 d6, .int .i64 d7] 155 (0, 0)) ∧ w8.heap[b5]? = some (.cells #[.int .i64 n0, .int .i64 n1, .int .i64 n2, .int .i64 n3, .int .i64 n4, .int .i64 n5, .int .u32 n6, .int .u32 n7, .int .u32 n8, .int .u64 n9, .int .u64 n10, .int .u64 n11, .int .u64 n12] 33 (0, 0)) ∧ Only [P.bc, pb, pa] w w8) ⟨(setCell_oth (.int .i64 rc.cnt) (setCell_oth (.int .i64 rc.mx) (setCell_oth (.int .i64 rc.mn) (setCell_oth (.int .i64 rc.poll) (setCell_oth (.int .i64 rc.bits) B1.out (show b1 ≠ pb from (by have e1 := HN.out; have e3 := HX3.out; omega))) (show b1 ≠ pb from (by have e1 := HN.out; have e3 := HX3.out; omega))) (show b1 ≠ pb from (by have e1 := HN.out; have e3 := HX3.out; omega))) (show b1 ≠ pb from (by have e1 := HN.out; have e3 := HX3.out; omega))) (show b1 ≠ pb from (by have e1 := HN.out; have e3 := HX3.out; omega))), (setCell_oth (.int .i64 rc.cnt) (setCell_oth (.int .i64 rc.mx) (setCell_oth (.int .i64 rc.mn) (setCell_oth (.int .i64 rc.poll) (setCell_oth (.int .i64 rc.bits) B2.out HY2_3.out) HY2_3.out) HY2_3.out) HY2_3.out) HY2_3.out), (setCell_got (o := 7) (.int .i64 rc.cnt) (setCell_got (o := 6) (.int .i64 rc.mx) (setCell_got (o := 5) (.int .i64 rc.mn) (setCell_got (o := 4) (.int .i64 rc.poll) (setCell_got (o := 3) (.int .i64 rc.bits) B3.out))))), (setCell_oth (.int .i64 rc.cnt) (setCell_oth (.int .i64 rc.mx) (setCell_oth (.int .i64 rc.mn) (setCell_oth (.int .i64 rc.poll) (setCell_oth (.int .i64 rc.bits) B4.out HY3_4.out.symm) HY3_4.out.symm) HY3_4.out.symm) HY3_4.out.symm) HY3_4.out.symm), (setCell_oth (.int .i64 rc.cnt) (setCell_oth (.int .i64 rc.mx) (setCell_oth (.int .i64 rc.mn) (setCell_oth (.int .i64 rc.poll) (setCell_oth (.int .i64 rc.bits) B5.out HM5_3.out.symm) HM5_3.out.symm) HM5_3.out.symm) HM5_3.out.symm) HM5_3.out.symm), (((((OO.out.setCell (.inl (by simp)) _).setCell (.inl (by simp)) _).setCell (.inl (by simp)) _).setCell (.inl (by simp)) _).setCell (.inl (by simp)) _)⟩ ?_
  rintro w8 ⟨g1, g2, g3, g4, g5, ho⟩
  clear k1 k2 k3 k4 k5
  replace B1 := Lib.hid g1; replace B2 := Lib.hid g2; replace B3 := Lib.hid g3; replace B4 := Lib.hid g4; replace B5 := Lib.hid g5; replace OO := Lib.hid ho
  clear ho g1 g2 g3 g4 g5
  have k1 := c_13 B1.out; have k2 := c_25 B2.out; have k3 := c_29 B3.out; have k4 := c_13 B4.out; have k5 := c_13 B5.out
  go_upto_region 15 with (fail)
  refine wabs (G := fun w0 => Code.wp _ _ _ _ w0) (R := fun w9 => w9.heap[b1]? = some (.cells #[.int .i64 0, .int .i64 0, .int .i64 0, .int .i64 0, .int .i64 0, .int .i64 0, .int .u32 0, .int .u32 0, .int .u32 0, .int .u64 0, .int .u64 0, .int .u64 0, .int .u64 0] 33 (0, 0)) ∧ w9.heap[P.bc]? = some (.cells #[.int .i64 c'.cf.servers, .int .i64 c'.cf.tol, .int .i64 c'.cf.prec, .int .i64 c'.cf.keep, .int .i64 c'.cf.sv.kp, .int .i64 c'.cf.sv.ki, .int .i64 c'.cf.sv.lim, .int .i64 c'.cf.sv.sf, .int .i64 c'.cf.sv.sl, .int .i64 c'.cf.rate, .int .i64 c'.cf.mn, .int .i64 c'.cf.mx, .pointer (some ⟨P.bk, 0, none⟩), .pointer (some ⟨P.bv, 0, none⟩), .slice (some ⟨P.g, 0, none⟩) P.ps.length P.cap, .int .i64 c'.last, .int .i64 c'.own.lo, .int .i64 c'.own.hi, .int .i64 c'.owned, .int .i64 c'.rt.str, .int .i64 c'.rt.dly, .int .i64 c'.rt.dsp, .int .u32 c'.rt.ref, .bool c'.st, .int .i64 c'.rd] 101 (0, 0)) ∧ w9.heap[pb]? = some (.cells #[.pointer (some ⟨pa, 0, none⟩), .pointer (some ⟨pf, 0, none⟩), .int .i64 (knI s.hr s.hp), .int .i64 rc.bits, .int .i64 rc.poll, .int .i64 rc.mn, .int .i64 rc.mx, .int .i64 rc.cnt, .int .i64 raw, .int .i64 s.hdr.leap, .int .i64 s.hdr.ver, .int .i64 s.hdr.mode, .int .i64 s.hdr.strat, .int .i64 s.hdr.poll, .int .i64 s.hdr.prec, .int .u32 s.hdr.rdel, .int .u32 s.hdr.rdsp, .int .u32 s.hdr.rid, .int .u64 s.hdr.ref, .int .u64 s.hdr.org, .int .u64 s.hdr.rcv, .int .u64 s.hdr.xmt, .int .i64 s.rt.str, .int .i64 s.rt.dly, .int .i64 s.rt.dsp, .int .u32 s.rt.ref, .int .i64 s.prf.lo, .int .i64 s.prf.hi, .int .i64 s.pat] 108 (0, 0)) ∧ w9.heap[pa]? = some (.cells #[.int .i64 sb.ver, .int .i64 sb.t1, .int .u64 sb.nonce, .bool sb.pend, .int .u64 sb.xmt, .int .i64 d0, .int .i64 d1, .int .i64 d2, .int .i64 d3, .int .i64 d4, .int .i64 d5, .int .i64 d6, .int .i64 d7] 155 (0, 0)) ∧ w9.heap[b5]? = some (.cells #[.int .i64 n0, .int .i64 n1, .int .i64 n2, .int .i64 n3, .int .i64 rc.poll, .int .i64 n5, .int .u32 n6, .int .u32 n7, .int .u32 n8, .int .u64 n9, .int .u64 n10, .int .u64 n11, .int .u64 n12] 33 (0, 0)) ∧ Only [P.bc, pb, pa] w w9) ⟨(setCell_oth (.int .i64 rc.poll) B1.out HM5_1.out), (setCell_oth (.int .i64 rc.poll) B2.out HM5_2.out), (setCell_oth (.int .i64 rc.poll) B3.out HM5_3.out), (setCell_oth (.int .i64 rc.poll) B4.out HM5_4.out), (setCell_got (o := 4) (.int .i64 rc.poll) B5.out), (OO.out.setCell (.inr HN5.out) _)⟩ ?_
  rintro w9 ⟨g1, g2, g3, g4, g5, ho⟩
  clear k1 k2 k3 k4 k5
  replace B1 := Lib.hid g1; replace B2 := Lib.hid g2; replace B3 := Lib.hid g3; replace B4 := Lib.hid g4; replace B5 := Lib.hid g5; replace OO := Lib.hid ho
  clear ho g1 g2 g3 g4 g5
  have k1 := c_13 B1.out; have k2 := c_25 B2.out; have k3 := c_29 B3.out; have k4 := c_13 B4.out; have k5 := c_13 B5.out
  go_wp2
  have HD := setCell_got (o := 12) (.int .u64 n12) (setCell_got (o := 11) (.int .u64 n11) (setCell_got (o := 10) (.int .u64 n10) (setCell_got (o := 9) (.int .u64 n9) (setCell_got (o := 8) (.int .u32 n8) (setCell_got (o := 7) (.int .u32 n7) (setCell_got (o := 6) (.int .u32 n6) (setCell_got (o := 5) (.int .i64 n5) (setCell_got (o := 4) (.int .i64 rc.poll) (setCell_got (o := 3) (.int .i64 n3) (setCell_got (o := 2) (.int .i64 n2) (setCell_got (o := 1) (.int .i64 n1) (setCell_got (o := 0) (.int .i64 n0) (B1.out)))))))))))))
  have e0 := cell_got HD 0; have e1 := cell_got HD 1; have e2 := cell_got HD 2; have e3 := cell_got HD 3; have e4 := cell_got HD 4; have e5 := cell_got HD 5; have e6 := cell_got HD 6; have e7 := cell_got HD 7; have e8 := cell_got HD 8; have e9 := cell_got HD 9; have e10 := cell_got HD 10; have e11 := cell_got HD 11; have e12 := cell_got HD 12; have le := got_lt HD
  refine bodyPost_ret (v := .tuple #[.agg #[.int .i64 n0, .int .i64 n1, .int .i64 n2, .int .i64 n3, .int .i64 rc.poll, .int .i64 n5, .int .u32 n6, .int .u32 n7, .int .u32 n8, .int .u64 n9, .int .u64 n10, .int .u64 n11, .int .u64 n12], .int .i64 0]) (by simp [results, Tryz.results11, go_sem, e0, e1, e2, e3, e4, e5, e6, e7, e8, e9, e10, e11, e12]) rfl ⟨rfl, ⟨(setCell_oth (.int .u64 n12) (setCell_oth (.int .u64 n11) (setCell_oth (.int .u64 n10) (setCell_oth (.int .u64 n9) (setCell_oth (.int .u32 n8) (setCell_oth (.int .u32 n7) (setCell_oth (.int .u32 n6) (setCell_oth (.int .i64 n5) (setCell_oth (.int .i64 rc.poll) (setCell_oth (.int .i64 n3) (setCell_oth (.int .i64 n2) (setCell_oth (.int .i64 n1) (setCell_oth (.int .i64 n0) B2.out (show P.bc ≠ b1 from (by have e2 := HX2.out; have e1 := HN.out; omega))) (show P.bc ≠ b1 from (by have e2 := HX2.out; have e1 := HN.out; omega))) (show P.bc ≠ b1 from (by have e2 := HX2.out; have e1 := HN.out; omega))) (show P.bc ≠ b1 from (by have e2 := HX2.out; have e1 := HN.out; omega))) (show P.bc ≠ b1 from (by have e2 := HX2.out; have e1 := HN.out; omega))) (show P.bc ≠ b1 from (by have e2 := HX2.out; have e1 := HN.out; omega))) (show P.bc ≠ b1 from (by have e2 := HX2.out; have e1 := HN.out; omega))) (show P.bc ≠ b1 from (by have e2 := HX2.out; have e1 := HN.out; omega))) (show P.bc ≠ b1 from (by have e2 := HX2.out; have e1 := HN.out; omega))) (show P.bc ≠ b1 from (by have e2 := HX2.out; have e1 := HN.out; omega))) (show P.bc ≠ b1 from (by have e2 := HX2.out; have e1 := HN.out; omega))) (show P.bc ≠ b1 from (by have e2 := HX2.out; have e1 := HN.out; omega))) (show P.bc ≠ b1 from (by have e2 := HX2.out; have e1 := HN.out; omega))), (setCell_oth (.int .u64 n12) (setCell_oth (.int .u64 n11) (setCell_oth (.int .u64 n10) (setCell_oth (.int .u64 n9) (setCell_oth (.int .u32 n8) (setCell_oth (.int .u32 n7) (setCell_oth (.int .u32 n6) (setCell_oth (.int .i64 n5) (setCell_oth (.int .i64 rc.poll) (setCell_oth (.int .i64 n3) (setCell_oth (.int .i64 n2) (setCell_oth (.int .i64 n1) (setCell_oth (.int .i64 n0) B3.out (show pb ≠ b1 from (by have e3 := HX3.out; have e1 := HN.out; omega))) (show pb ≠ b1 from (by have e3 := HX3.out; have e1 := HN.out; omega))) (show pb ≠ b1 from (by have e3 := HX3.out; have e1 := HN.out; omega))) (show pb ≠ b1 from (by have e3 := HX3.out; have e1 := HN.out; omega))) (show pb ≠ b1 from (by have e3 := HX3.out; have e1 := HN.out; omega))) (show pb ≠ b1 from (by have e3 := HX3.out; have e1 := HN.out; omega))) (show pb ≠ b1 from (by have e3 := HX3.out; have e1 := HN.out; omega))) (show pb ≠ b1 from (by have e3 := HX3.out; have e1 := HN.out; omega))) (show pb ≠ b1 from (by have e3 := HX3.out; have e1 := HN.out; omega))) (show pb ≠ b1 from (by have e3 := HX3.out; have e1 := HN.out; omega))) (show pb ≠ b1 from (by have e3 := HX3.out; have e1 := HN.out; omega))) (show pb ≠ b1 from (by have e3 := HX3.out; have e1 := HN.out; omega))) (show pb ≠ b1 from (by have e3 := HX3.out; have e1 := HN.out; omega))), ⟨d0, d1, d2, d3, d4, d5, d6, d7, (setCell_oth (.int .u64 n12) (setCell_oth (.int .u64 n11) (setCell_oth (.int .u64 n10) (setCell_oth (.int .u64 n9) (setCell_oth (.int .u32 n8) (setCell_oth (.int .u32 n7) (setCell_oth (.int .u32 n6) (setCell_oth (.int .i64 n5) (setCell_oth (.int .i64 rc.poll) (setCell_oth (.int .i64 n3) (setCell_oth (.int .i64 n2) (setCell_oth (.int .i64 n1) (setCell_oth (.int .i64 n0) B4.out (show pa ≠ b1 from (by have e4 := HX4.out; have e1 := HN.out; omega))) (show pa ≠ b1 from (by have e4 := HX4.out; have e1 := HN.out; omega))) (show pa ≠ b1 from (by have e4 := HX4.out; have e1 := HN.out; omega))) (show pa ≠ b1 from (by have e4 := HX4.out; have e1 := HN.out; omega))) (show pa ≠ b1 from (by have e4 := HX4.out; have e1 := HN.out; omega))) (show pa ≠ b1 from (by have e4 := HX4.out; have e1 := HN.out; omega))) (show pa ≠ b1 from (by have e4 := HX4.out; have e1 := HN.out; omega))) (show pa ≠ b1 from (by have e4 := HX4.out; have e1 := HN.out; omega))) (show pa ≠ b1 from (by have e4 := HX4.out; have e1 := HN.out; omega))) (show pa ≠ b1 from (by have e4 := HX4.out; have e1 := HN.out; omega))) (show pa ≠ b1 from (by have e4 := HX4.out; have e1 := HN.out; omega))) (show pa ≠ b1 from (by have e4 := HX4.out; have e1 := HN.out; omega))) (show pa ≠ b1 from (by have e4 := HX4.out; have e1 := HN.out; omega)))⟩⟩, (((((((((((((OO.out.setCell (.inr HN.out) _).setCell (.inr HN.out) _).setCell (.inr HN.out) _).setCell (.inr HN.out) _).setCell (.inr HN.out) _).setCell (.inr HN.out) _).setCell (.inr HN.out) _).setCell (.inr HN.out) _).setCell (.inr HN.out) _).setCell (.inr HN.out) _).setCell (.inr HN.out) _).setCell (.inr HN.out) _).setCell (.inr HN.out) _)⟩
 ·have q1 : (ae != 0) = true := by simpa using hz
  obtain rfl : res = (np0, ae, { s with sa := sb }) := by have := HSS.out; simpa [hz] using this
  clear HSS hz
  go_enter Tryz.func11, Tryz.ntmps11
  go_upto_region 1 with (fail)
  refine alloc_abs (G := fun w0 => Code.wp _ _ _ _ w0) ?_
  intro w1 hb1 ho1 hs1
  obtain ⟨b1, hbe1⟩ : ∃ b, w.heap.size = b := ⟨_, rfl⟩
  rw [hbe1] at hb1
  rw [hbe1]
  have HN : Hid (w.heap.size ≤ b1) := Lib.hid (by omega)
  have B1 := Lib.hid hb1; have OO := Lib.hid ho1
  clear hb1 hs1 hbe1
  have B2 := Lib.hid (ho1.got hl (by simp)); have HX2 := Lib.hid (got_lt hl)
  have B3 := Lib.hid (ho1.got hB (by simp)); have HX3 := Lib.hid (got_lt hB)
  have B4 := Lib.hid (ho1.got hA (by simp)); have HX4 := Lib.hid (got_lt hA)
  replace OO := Lib.hid (ho1.weak (S' := [P.bc, pb, pa]) (by simp))
  replace HG := Lib.hid (And.intro ((ho1.cell HG.out.2 (by simp)).trans HG.out.1) (Nat.lt_of_lt_of_le HG.out.2 ho1.size))
  replace HC := Lib.hid (HC.out.kept ho1)
  clear ho1
  have k1 := c_13 B1.out; have k2 := c_25 B2.out; have k3 := c_29 B3.out; have k4 := c_13 B4.out
  have cg := HG.out.1; have lg := HG.out.2
  go_wp2_with fail
  refine (HO.out _).mono ?_
  rintro e w2 ⟨rfl, ho⟩
  clear k1 k2 k3 k4 cg lg
  replace OO := Lib.hid (OO.out.nil_trans ho); replace B1 := Lib.hid (ho.got B1.out (by simp)); replace B2 := Lib.hid (ho.got B2.out (by simp)); replace B3 := Lib.hid (ho.got B3.out (by simp)); replace B4 := Lib.hid (ho.got B4.out (by simp))
  replace HG := Lib.hid (And.intro ((ho.cell HG.out.2 (by simp)).trans HG.out.1) (Nat.lt_of_lt_of_le HG.out.2 ho.size))
  replace HC := Lib.hid (HC.out.kept ho)
  clear ho
  have k1 := c_13 B1.out; have k2 := c_25 B2.out; have k3 := c_29 B3.out; have k4 := c_13 B4.out
  have cg := HG.out.1; have lg := HG.out.2
  go_wp2_with fail
  refine (HE1.out _ HC.out).mono ?_
  rintro e w3 ⟨rfl, hcl, ho⟩
  unfold ClB at hcl
  replace HG := Lib.hid (And.intro ((ho.cell HG.out.2 HGB.out).trans HG.out.1) (Nat.lt_of_lt_of_le HG.out.2 ho.size))
  clear HC
  clear k1 k2 k3 k4 cg lg
  replace OO := Lib.hid (OO.out.trans ho (by simp)); replace B1 := Lib.hid (ho.got B1.out (by simp only [List.mem_cons, List.not_mem_nil, or_false]; exact (show b1 ≠ P.bc from (by have e1 := HN.out; have e2 := HX2.out; omega)))); replace B2 := Lib.hid hcl; replace B3 := Lib.hid (ho.got B3.out (by simp only [List.mem_cons, List.not_mem_nil, or_false]; exact HY2_3.out.symm)); replace B4 := Lib.hid (ho.got B4.out (by simp only [List.mem_cons, List.not_mem_nil, or_false]; exact HY2_4.out.symm))
  clear ho
  have k1 := c_13 B1.out; have k2 := c_25 B2.out; have k3 := c_29 B3.out; have k4 := c_13 B4.out
  have cg := HG.out.1; have lg := HG.out.2
  clear HE1
  go_wp2_with fail
  refine (HA1.out _ ⟨c0, c1, c2, c3, c4, c5, c6, c7, B4.out⟩).mono ?_
  rintro e w4 ⟨rfl, ⟨d0, d1, d2, d3, d4, d5, d6, d7, hA⟩, ho⟩
  clear k1 k2 k3 k4 cg lg
  replace OO := Lib.hid (OO.out.trans ho (by simp)); replace B1 := Lib.hid (ho.got B1.out (by simp only [List.mem_cons, List.not_mem_nil, or_false]; exact (show b1 ≠ pa from (by have e1 := HN.out; have e4 := HX4.out; omega)))); replace B2 := Lib.hid (ho.got B2.out (by simp only [List.mem_cons, List.not_mem_nil, or_false]; exact HY2_4.out)); replace B3 := Lib.hid (ho.got B3.out (by simp only [List.mem_cons, List.not_mem_nil, or_false]; exact HY3_4.out)); replace B4 := Lib.hid hA
  clear ho HG
  have k1 := c_13 B1.out; have k2 := c_25 B2.out; have k3 := c_29 B3.out; have k4 := c_13 B4.out
  go_upto_region 10 with (fail)
  refine alloc_abs (G := fun w0 => Code.wp _ _ _ _ w0) ?_
  intro w5 hb ho hs
  obtain ⟨b5, hbe⟩ : ∃ b, w4.heap.size = b := ⟨_, rfl⟩
  rw [hbe] at hb
  rw [hbe]
  have HN5 : Hid (w.heap.size ≤ b5) := Lib.hid (by rw [← hbe]; exact OO.out.size)
  have HM5_1 : Hid (b1 ≠ b5) := Lib.hid (by omega)
  have HM5_2 : Hid (P.bc ≠ b5) := Lib.hid (by omega)
  have HM5_3 : Hid (pb ≠ b5) := Lib.hid (by omega)
  have HM5_4 : Hid (pa ≠ b5) := Lib.hid (by omega)
  clear k1 k2 k3 k4
  replace OO := Lib.hid (OO.out.nil_trans ho); replace B1 := Lib.hid (ho.got B1.out (by simp)); replace B2 := Lib.hid (ho.got B2.out (by simp)); replace B3 := Lib.hid (ho.got B3.out (by simp)); replace B4 := Lib.hid (ho.got B4.out (by simp)); have B5 := Lib.hid hb
  clear hb ho hs hbe
  have k1 := c_13 B1.out; have k2 := c_25 B2.out; have k3 := c_29 B3.out; have k4 := c_13 B4.out; have k5 := c_13 B5.out
  go_wp2
  have HD := setCell_got (o := 12) (.int .u64 0) (setCell_got (o := 11) (.int .u64 0) (setCell_got (o := 10) (.int .u64 0) (setCell_got (o := 9) (.int .u64 0) (setCell_got (o := 8) (.int .u32 0) (setCell_got (o := 7) (.int .u32 0) (setCell_got (o := 6) (.int .u32 0) (setCell_got (o := 5) (.int .i64 0) (setCell_got (o := 4) (.int .i64 0) (setCell_got (o := 3) (.int .i64 0) (setCell_got (o := 2) (.int .i64 0) (setCell_got (o := 1) (.int .i64 0) (setCell_got (o := 0) (.int .i64 0) (B1.out)))))))))))))
  have e0 := cell_got HD 0; have e1 := cell_got HD 1; have e2 := cell_got HD 2; have e3 := cell_got HD 3; have e4 := cell_got HD 4; have e5 := cell_got HD 5; have e6 := cell_got HD 6; have e7 := cell_got HD 7; have e8 := cell_got HD 8; have e9 := cell_got HD 9; have e10 := cell_got HD 10; have e11 := cell_got HD 11; have e12 := cell_got HD 12; have le := got_lt HD
  refine bodyPost_ret (v := .tuple #[.agg #[.int .i64 0, .int .i64 0, .int .i64 0, .int .i64 0, .int .i64 0, .int .i64 0, .int .u32 0, .int .u32 0, .int .u32 0, .int .u64 0, .int .u64 0, .int .u64 0, .int .u64 0], .int .i64 ae]) (by simp [results, Tryz.results11, go_sem, e0, e1, e2, e3, e4, e5, e6, e7, e8, e9, e10, e11, e12]) rfl ⟨rfl, ⟨(setCell_oth (.int .u64 0) (setCell_oth (.int .u64 0) (setCell_oth (.int .u64 0) (setCell_oth (.int .u64 0) (setCell_oth (.int .u32 0) (setCell_oth (.int .u32 0) (setCell_oth (.int .u32 0) (setCell_oth (.int .i64 0) (setCell_oth (.int .i64 0) (setCell_oth (.int .i64 0) (setCell_oth (.int .i64 0) (setCell_oth (.int .i64 0) (setCell_oth (.int .i64 0) B2.out (show P.bc ≠ b1 from (by have e2 := HX2.out; have e1 := HN.out; omega))) (show P.bc ≠ b1 from (by have e2 := HX2.out; have e1 := HN.out; omega))) (show P.bc ≠ b1 from (by have e2 := HX2.out; have e1 := HN.out; omega))) (show P.bc ≠ b1 from (by have e2 := HX2.out; have e1 := HN.out; omega))) (show P.bc ≠ b1 from (by have e2 := HX2.out; have e1 := HN.out; omega))) (show P.bc ≠ b1 from (by have e2 := HX2.out; have e1 := HN.out; omega))) (show P.bc ≠ b1 from (by have e2 := HX2.out; have e1 := HN.out; omega))) (show P.bc ≠ b1 from (by have e2 := HX2.out; have e1 := HN.out; omega))) (show P.bc ≠ b1 from (by have e2 := HX2.out; have e1 := HN.out; omega))) (show P.bc ≠ b1 from (by have e2 := HX2.out; have e1 := HN.out; omega))) (show P.bc ≠ b1 from (by have e2 := HX2.out; have e1 := HN.out; omega))) (show P.bc ≠ b1 from (by have e2 := HX2.out; have e1 := HN.out; omega))) (show P.bc ≠ b1 from (by have e2 := HX2.out; have e1 := HN.out; omega))), (setCell_oth (.int .u64 0) (setCell_oth (.int .u64 0) (setCell_oth (.int .u64 0) (setCell_oth (.int .u64 0) (setCell_oth (.int .u32 0) (setCell_oth (.int .u32 0) (setCell_oth (.int .u32 0) (setCell_oth (.int .i64 0) (setCell_oth (.int .i64 0) (setCell_oth (.int .i64 0) (setCell_oth (.int .i64 0) (setCell_oth (.int .i64 0) (setCell_oth (.int .i64 0) B3.out (show pb ≠ b1 from (by have e3 := HX3.out; have e1 := HN.out; omega))) (show pb ≠ b1 from (by have e3 := HX3.out; have e1 := HN.out; omega))) (show pb ≠ b1 from (by have e3 := HX3.out; have e1 := HN.out; omega))) (show pb ≠ b1 from (by have e3 := HX3.out; have e1 := HN.out; omega))) (show pb ≠ b1 from (by have e3 := HX3.out; have e1 := HN.out; omega))) (show pb ≠ b1 from (by have e3 := HX3.out; have e1 := HN.out; omega))) (show pb ≠ b1 from (by have e3 := HX3.out; have e1 := HN.out; omega))) (show pb ≠ b1 from (by have e3 := HX3.out; have e1 := HN.out; omega))) (show pb ≠ b1 from (by have e3 := HX3.out; have e1 := HN.out; omega))) (show pb ≠ b1 from (by have e3 := HX3.out; have e1 := HN.out; omega))) (show pb ≠ b1 from (by have e3 := HX3.out; have e1 := HN.out; omega))) (show pb ≠ b1 from (by have e3 := HX3.out; have e1 := HN.out; omega))) (show pb ≠ b1 from (by have e3 := HX3.out; have e1 := HN.out; omega))), ⟨d0, d1, d2, d3, d4, d5, d6, d7, (setCell_oth (.int .u64 0) (setCell_oth (.int .u64 0) (setCell_oth (.int .u64 0) (setCell_oth (.int .u64 0) (setCell_oth (.int .u32 0) (setCell_oth (.int .u32 0) (setCell_oth (.int .u32 0) (setCell_oth (.int .i64 0) (setCell_oth (.int .i64 0) (setCell_oth (.int .i64 0) (setCell_oth (.int .i64 0) (setCell_oth (.int .i64 0) (setCell_oth (.int .i64 0) B4.out (show pa ≠ b1 from (by have e4 := HX4.out; have e1 := HN.out; omega))) (show pa ≠ b1 from (by have e4 := HX4.out; have e1 := HN.out; omega))) (show pa ≠ b1 from (by have e4 := HX4.out; have e1 := HN.out; omega))) (show pa ≠ b1 from (by have e4 := HX4.out; have e1 := HN.out; omega))) (show pa ≠ b1 from (by have e4 := HX4.out; have e1 := HN.out; omega))) (show pa ≠ b1 from (by have e4 := HX4.out; have e1 := HN.out; omega))) (show pa ≠ b1 from (by have e4 := HX4.out; have e1 := HN.out; omega))) (show pa ≠ b1 from (by have e4 := HX4.out; have e1 := HN.out; omega))) (show pa ≠ b1 from (by have e4 := HX4.out; have e1 := HN.out; omega))) (show pa ≠ b1 from (by have e4 := HX4.out; have e1 := HN.out; omega))) (show pa ≠ b1 from (by have e4 := HX4.out; have e1 := HN.out; omega))) (show pa ≠ b1 from (by have e4 := HX4.out; have e1 := HN.out; omega))) (show pa ≠ b1 from (by have e4 := HX4.out; have e1 := HN.out; omega)))⟩⟩, (((((((((((((OO.out.setCell (.inr HN.out) _).setCell (.inr HN.out) _).setCell (.inr HN.out) _).setCell (.inr HN.out) _).setCell (.inr HN.out) _).setCell (.inr HN.out) _).setCell (.inr HN.out) _).setCell (.inr HN.out) _).setCell (.inr HN.out) _).setCell (.inr HN.out) _).setCell (.inr HN.out) _).setCell (.inr HN.out) _).setCell (.inr HN.out) _)⟩
end Go.Proofs.YtikjdmbfjkbndaaGreat
