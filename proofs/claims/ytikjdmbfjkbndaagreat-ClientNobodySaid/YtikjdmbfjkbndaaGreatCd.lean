/- The walks of assoc.accept and Receive. Conditions: those named in each theorem. -/
import Derived.Test.YtikjdmbfjkbndaaGreatCc
namespace Go.Proofs.YtikjdmbfjkbndaaGreat
open Go.RowKit

set_option maxRecDepth 100000 in
set_option maxHeartbeats 2000000 in
theorem pAccept {w : World} {b : Nat} {a : As} (ha : AsAt w b a) (p : Np) (now : Int) (hp : npOk p) (hn : isT now = true) :
    Calls Tryz.prog 76 #[.pointer (some ⟨b, 0, none⟩), npV p, .int .i64 now] w fun e w' => e = .returned (hdV (aAcc a p now)) ∧ AsAt w' b { a with pend := false, xmt := p.xmt } ∧ Only [b] w w' := by
  obtain ⟨c0, c1, c2, c3, c4, c5, c6, c7, hA⟩ := ha
  obtain ⟨ver, t1, nonce, pend, xmt⟩ := a
  have HK := Lib.hid (fun w' => pKiss p hp.2.2.1 w')
  have HY := Lib.hid (fun w' => pNSync p w')
  have HI2 := Lib.hid (fun w' => pInstant p.rcv now hn w')
  have HI3 := Lib.hid (fun w' => pInstant p.xmt now hn w')
  have HE : Hid (aAcc ⟨ver, t1, nonce, pend, xmt⟩ p now = if (kissP p).2 = true then ⟨4, (kissP p).1, ⟨0, 0, 0, 0⟩⟩ else if nsync p = true then (if (instS p.rcv now).2 = true ∧ (instS p.xmt now).2 = true ∧ ¬ (instS p.xmt now).1 < (instS p.rcv now).1 then ⟨7, ⟨#[]⟩, ⟨t1, (instS p.rcv now).1, (instS p.xmt now).1, now⟩⟩ else hdK 6) else hdK 5) := Lib.hid rfl
  generalize aAcc ⟨ver, t1, nonce, pend, xmt⟩ p now = res at HE ⊢
  generalize kissP p = kk at HK HE
  generalize nsync p = sy at HY HE
  generalize instS p.rcv now = i2 at HI2 HE
  generalize instS p.xmt now = i3 at HI3 HE
  obtain ⟨ks, kb⟩ := kk
  obtain ⟨v2, o2⟩ := i2
  obtain ⟨v3, o3⟩ := i3
  obtain ⟨p1, p2, p3, p4, p5, p6, p7, p8, p9, pa, pb, pc, pd⟩ := p
  unfold npV at HK HY ⊢
  dsimp only at hA HK HY HI2 HI3 HE ⊢
  clear hp hn
  cases kb
  rotate_left
  · obtain rfl : res = ⟨4, ks, ⟨0, 0, 0, 0⟩⟩ := by have := HE.out; simpa using this
    clear HE
    go_enter Tryz.func76, Tryz.ntmps76
    go_upto_region 1 with (fail)
    refine wabs (G := fun w0 => Code.wp _ _ _ _ w0) (R := fun w1 => w1.heap[w.heap.size]? = some (.cells #[.int .i64 p1, .int .i64 p2, .int .i64 p3, .int .i64 p4, .int .i64 p5, .int .i64 p6, .int .u32 p7, .int .u32 p8, .int .u32 p9, .int .u64 pa, .int .u64 pb, .int .u64 pc, .int .u64 pd] 33 (0, 0)) ∧ w1.heap[w.heap.size + 1]? = some (.cells #[.int .i64 0, .string ⟨#[]⟩, .int .i64 0, .int .i64 0, .int .i64 0, .int .i64 0] 41 (0, 0)) ∧ Only [] w w1) ?_ ?_
    · skip
      have k0 := alloc_new w (.cells #[.int .i64 p1, .int .i64 p2, .int .i64 p3, .int .i64 p4, .int .i64 p5, .int .i64 p6, .int .u32 p7, .int .u32 p8, .int .u32 p9, .int .u64 pa, .int .u64 pb, .int .u64 pc, .int .u64 pd] 33)
      have k1 := alloc_new (w.alloc (.cells #[.int .i64 p1, .int .i64 p2, .int .i64 p3, .int .i64 p4, .int .i64 p5, .int .i64 p6, .int .u32 p7, .int .u32 p8, .int .u32 p9, .int .u64 pa, .int .u64 pb, .int .u64 pc, .int .u64 pd] 33)) (.cells #[.int .i64 0, .string ⟨#[]⟩, .int .i64 0, .int .i64 0, .int .i64 0, .int .i64 0] 41)
      simp only [World.size_alloc] at k0 k1
      exact ⟨(alloc_old k0), k1, (((Only.refl [] w).alloc _).alloc _)⟩
    rintro w1 ⟨h1, h2, ho1⟩
    obtain ⟨b1, hb1⟩ : ∃ b, w.heap.size = b := ⟨_, rfl⟩
    obtain ⟨b2, hb2⟩ : ∃ b, w.heap.size + 1 = b := ⟨_, rfl⟩
    have HN : Hid (w.heap.size ≤ b1 ∧ w.heap.size ≤ b2 ∧ b1 ≠ b2 ∧ b2 ≠ b1) := Lib.hid (by omega)
    rw [hb1] at h1
    rw [hb2] at h2
    rw [show w.heap.size + 1 = b2 from hb2, hb1]
    have B1 := Lib.hid h1; have B2 := Lib.hid h2; have OO := Lib.hid ho1
    clear h1 h2 hb1 hb2
    have B3 := Lib.hid (ho1.got hA (by simp)); have HX3 := Lib.hid (got_lt hA)
    replace OO := Lib.hid (ho1.weak (S' := [b]) (by simp))
    clear ho1
    have k1 := c_13 B1.out; have k2 := c_6 B2.out; have k3 := c_13 B3.out
    go_upto_region 3 with (fail)
    refine wabs (G := fun w0 => Code.wp _ _ _ _ w0) (R := fun w2 => w2.heap[b1]? = some (.cells #[.int .i64 p1, .int .i64 p2, .int .i64 p3, .int .i64 p4, .int .i64 p5, .int .i64 p6, .int .u32 p7, .int .u32 p8, .int .u32 p9, .int .u64 pa, .int .u64 pb, .int .u64 pc, .int .u64 pd] 33 (0, 0)) ∧ w2.heap[b2]? = some (.cells #[.int .i64 0, .string ⟨#[]⟩, .int .i64 0, .int .i64 0, .int .i64 0, .int .i64 0] 41 (0, 0)) ∧ w2.heap[b]? = some (.cells #[.int .i64 ver, .int .i64 t1, .int .u64 nonce, .bool false, .int .u64 pd, .int .i64 c0, .int .i64 c1, .int .i64 c2, .int .i64 c3, .int .i64 c4, .int .i64 c5, .int .i64 c6, .int .i64 c7] 155 (0, 0)) ∧ Only [b] w w2) ⟨(setCell_oth (.int .u64 pd) (setCell_oth (.bool false) B1.out (show b1 ≠ b from (by have e1 := HN.out.1; have e3 := HX3.out; omega))) (show b1 ≠ b from (by have e1 := HN.out.1; have e3 := HX3.out; omega))), (setCell_oth (.int .u64 pd) (setCell_oth (.bool false) B2.out (show b2 ≠ b from (by have e2 := HN.out.2.1; have e3 := HX3.out; omega))) (show b2 ≠ b from (by have e2 := HN.out.2.1; have e3 := HX3.out; omega))), (setCell_got (o := 4) (.int .u64 pd) (setCell_got (o := 3) (.bool false) B3.out)), ((OO.out.setCell (.inl (by simp)) _).setCell (.inl (by simp)) _)⟩ ?_
    rintro w2 ⟨g1, g2, g3, ho⟩
    clear k1 k2 k3
    replace B1 := Lib.hid g1; replace B2 := Lib.hid g2; replace B3 := Lib.hid g3; replace OO := Lib.hid ho
    clear ho g1 g2 g3
    have k1 := c_13 B1.out; have k2 := c_6 B2.out; have k3 := c_13 B3.out
    go_wp2_with fail
    refine (HK.out _).mono ?_
    rintro e w3 ⟨rfl, ho⟩
    clear k1 k2 k3
    replace OO := Lib.hid (OO.out.nil_trans ho); replace B1 := Lib.hid (ho.got B1.out (by simp)); replace B2 := Lib.hid (ho.got B2.out (by simp)); replace B3 := Lib.hid (ho.got B3.out (by simp))
    clear ho
    have k1 := c_13 B1.out; have k2 := c_6 B2.out; have k3 := c_13 B3.out
    go_wp2
    have HD := setCell_got (o := 5) (.int .i64 0) (setCell_got (o := 4) (.int .i64 0) (setCell_got (o := 3) (.int .i64 0) (setCell_got (o := 2) (.int .i64 0) (setCell_got (o := 1) (.string ks) (setCell_got (o := 0) (.int .i64 4) (B2.out))))))
    have e0 := cell_got HD 0; have e1 := cell_got HD 1; have e2 := cell_got HD 2; have e3 := cell_got HD 3; have e4 := cell_got HD 4; have e5 := cell_got HD 5; have le := got_lt HD
    refine bodyPost_ret (v := .agg #[.int .i64 4, .string ks, .int .i64 0, .int .i64 0, .int .i64 0, .int .i64 0]) (by simp [results, Tryz.results76, go_sem, e0, e1, e2, e3, e4, e5]) rfl ⟨rfl, ⟨c0, c1, c2, c3, c4, c5, c6, c7, (setCell_oth (.int .i64 0) (setCell_oth (.int .i64 0) (setCell_oth (.int .i64 0) (setCell_oth (.int .i64 0) (setCell_oth (.string ks) (setCell_oth (.int .i64 4) B3.out (show b ≠ b2 from (by have e3 := HX3.out; have e2 := HN.out.2.1; omega))) (show b ≠ b2 from (by have e3 := HX3.out; have e2 := HN.out.2.1; omega))) (show b ≠ b2 from (by have e3 := HX3.out; have e2 := HN.out.2.1; omega))) (show b ≠ b2 from (by have e3 := HX3.out; have e2 := HN.out.2.1; omega))) (show b ≠ b2 from (by have e3 := HX3.out; have e2 := HN.out.2.1; omega))) (show b ≠ b2 from (by have e3 := HX3.out; have e2 := HN.out.2.1; omega)))⟩, ((((((OO.out.setCell (.inr HN.out.2.1) _).setCell (.inr HN.out.2.1) _).setCell (.inr HN.out.2.1) _).setCell (.inr HN.out.2.1) _).setCell (.inr HN.out.2.1) _).setCell (.inr HN.out.2.1) _)⟩
  cases sy
  · obtain rfl : res = hdK 5 := by have := HE.out; simpa using this
    clear HE
    go_enter Tryz.func76, Tryz.ntmps76
    go_upto_region 1 with (fail)
    refine wabs (G := fun w0 => Code.wp _ _ _ _ w0) (R := fun w1 => w1.heap[w.heap.size]? = some (.cells #[.int .i64 p1, .int .i64 p2, .int .i64 p3, .int .i64 p4, .int .i64 p5, .int .i64 p6, .int .u32 p7, .int .u32 p8, .int .u32 p9, .int .u64 pa, .int .u64 pb, .int .u64 pc, .int .u64 pd] 33 (0, 0)) ∧ w1.heap[w.heap.size + 1]? = some (.cells #[.int .i64 0, .string ⟨#[]⟩, .int .i64 0, .int .i64 0, .int .i64 0, .int .i64 0] 41 (0, 0)) ∧ Only [] w w1) ?_ ?_
    · skip
      have k0 := alloc_new w (.cells #[.int .i64 p1, .int .i64 p2, .int .i64 p3, .int .i64 p4, .int .i64 p5, .int .i64 p6, .int .u32 p7, .int .u32 p8, .int .u32 p9, .int .u64 pa, .int .u64 pb, .int .u64 pc, .int .u64 pd] 33)
      have k1 := alloc_new (w.alloc (.cells #[.int .i64 p1, .int .i64 p2, .int .i64 p3, .int .i64 p4, .int .i64 p5, .int .i64 p6, .int .u32 p7, .int .u32 p8, .int .u32 p9, .int .u64 pa, .int .u64 pb, .int .u64 pc, .int .u64 pd] 33)) (.cells #[.int .i64 0, .string ⟨#[]⟩, .int .i64 0, .int .i64 0, .int .i64 0, .int .i64 0] 41)
      simp only [World.size_alloc] at k0 k1
      exact ⟨(alloc_old k0), k1, (((Only.refl [] w).alloc _).alloc _)⟩
    rintro w1 ⟨h1, h2, ho1⟩
    obtain ⟨b1, hb1⟩ : ∃ b, w.heap.size = b := ⟨_, rfl⟩
    obtain ⟨b2, hb2⟩ : ∃ b, w.heap.size + 1 = b := ⟨_, rfl⟩
    have HN : Hid (w.heap.size ≤ b1 ∧ w.heap.size ≤ b2 ∧ b1 ≠ b2 ∧ b2 ≠ b1) := Lib.hid (by omega)
    rw [hb1] at h1
    rw [hb2] at h2
    rw [show w.heap.size + 1 = b2 from hb2, hb1]
    have B1 := Lib.hid h1; have B2 := Lib.hid h2; have OO := Lib.hid ho1
    clear h1 h2 hb1 hb2
    have B3 := Lib.hid (ho1.got hA (by simp)); have HX3 := Lib.hid (got_lt hA)
    replace OO := Lib.hid (ho1.weak (S' := [b]) (by simp))
    clear ho1
    have k1 := c_13 B1.out; have k2 := c_6 B2.out; have k3 := c_13 B3.out
    go_upto_region 3 with (fail)
    refine wabs (G := fun w0 => Code.wp _ _ _ _ w0) (R := fun w2 => w2.heap[b1]? = some (.cells #[.int .i64 p1, .int .i64 p2, .int .i64 p3, .int .i64 p4, .int .i64 p5, .int .i64 p6, .int .u32 p7, .int .u32 p8, .int .u32 p9, .int .u64 pa, .int .u64 pb, .int .u64 pc, .int .u64 pd] 33 (0, 0)) ∧ w2.heap[b2]? = some (.cells #[.int .i64 0, .string ⟨#[]⟩, .int .i64 0, .int .i64 0, .int .i64 0, .int .i64 0] 41 (0, 0)) ∧ w2.heap[b]? = some (.cells #[.int .i64 ver, .int .i64 t1, .int .u64 nonce, .bool false, .int .u64 pd, .int .i64 c0, .int .i64 c1, .int .i64 c2, .int .i64 c3, .int .i64 c4, .int .i64 c5, .int .i64 c6, .int .i64 c7] 155 (0, 0)) ∧ Only [b] w w2) ⟨(setCell_oth (.int .u64 pd) (setCell_oth (.bool false) B1.out (show b1 ≠ b from (by have e1 := HN.out.1; have e3 := HX3.out; omega))) (show b1 ≠ b from (by have e1 := HN.out.1; have e3 := HX3.out; omega))), (setCell_oth (.int .u64 pd) (setCell_oth (.bool false) B2.out (show b2 ≠ b from (by have e2 := HN.out.2.1; have e3 := HX3.out; omega))) (show b2 ≠ b from (by have e2 := HN.out.2.1; have e3 := HX3.out; omega))), (setCell_got (o := 4) (.int .u64 pd) (setCell_got (o := 3) (.bool false) B3.out)), ((OO.out.setCell (.inl (by simp)) _).setCell (.inl (by simp)) _)⟩ ?_
    rintro w2 ⟨g1, g2, g3, ho⟩
    clear k1 k2 k3
    replace B1 := Lib.hid g1; replace B2 := Lib.hid g2; replace B3 := Lib.hid g3; replace OO := Lib.hid ho
    clear ho g1 g2 g3
    have k1 := c_13 B1.out; have k2 := c_6 B2.out; have k3 := c_13 B3.out
    go_wp2_with fail
    refine (HK.out _).mono ?_
    rintro e w3 ⟨rfl, ho⟩
    clear k1 k2 k3
    replace OO := Lib.hid (OO.out.nil_trans ho); replace B1 := Lib.hid (ho.got B1.out (by simp)); replace B2 := Lib.hid (ho.got B2.out (by simp)); replace B3 := Lib.hid (ho.got B3.out (by simp))
    clear ho
    have k1 := c_13 B1.out; have k2 := c_6 B2.out; have k3 := c_13 B3.out
    go_wp2_with fail
    refine (HY.out _).mono ?_
    rintro e w4 ⟨rfl, ho⟩
    clear k1 k2 k3
    replace OO := Lib.hid (OO.out.nil_trans ho); replace B1 := Lib.hid (ho.got B1.out (by simp)); replace B2 := Lib.hid (ho.got B2.out (by simp)); replace B3 := Lib.hid (ho.got B3.out (by simp))
    clear ho
    have k1 := c_13 B1.out; have k2 := c_6 B2.out; have k3 := c_13 B3.out
    go_wp2
    have HD := setCell_got (o := 5) (.int .i64 0) (setCell_got (o := 4) (.int .i64 0) (setCell_got (o := 3) (.int .i64 0) (setCell_got (o := 2) (.int .i64 0) (setCell_got (o := 1) (.string ⟨#[]⟩) (setCell_got (o := 0) (.int .i64 5) (B2.out))))))
    have e0 := cell_got HD 0; have e1 := cell_got HD 1; have e2 := cell_got HD 2; have e3 := cell_got HD 3; have e4 := cell_got HD 4; have e5 := cell_got HD 5; have le := got_lt HD
    refine bodyPost_ret (v := .agg #[.int .i64 5, .string ⟨#[]⟩, .int .i64 0, .int .i64 0, .int .i64 0, .int .i64 0]) (by simp [results, Tryz.results76, go_sem, e0, e1, e2, e3, e4, e5]) rfl ⟨rfl, ⟨c0, c1, c2, c3, c4, c5, c6, c7, (setCell_oth (.int .i64 0) (setCell_oth (.int .i64 0) (setCell_oth (.int .i64 0) (setCell_oth (.int .i64 0) (setCell_oth (.string ⟨#[]⟩) (setCell_oth (.int .i64 5) B3.out (show b ≠ b2 from (by have e3 := HX3.out; have e2 := HN.out.2.1; omega))) (show b ≠ b2 from (by have e3 := HX3.out; have e2 := HN.out.2.1; omega))) (show b ≠ b2 from (by have e3 := HX3.out; have e2 := HN.out.2.1; omega))) (show b ≠ b2 from (by have e3 := HX3.out; have e2 := HN.out.2.1; omega))) (show b ≠ b2 from (by have e3 := HX3.out; have e2 := HN.out.2.1; omega))) (show b ≠ b2 from (by have e3 := HX3.out; have e2 := HN.out.2.1; omega)))⟩, ((((((OO.out.setCell (.inr HN.out.2.1) _).setCell (.inr HN.out.2.1) _).setCell (.inr HN.out.2.1) _).setCell (.inr HN.out.2.1) _).setCell (.inr HN.out.2.1) _).setCell (.inr HN.out.2.1) _)⟩
  · cases o2
    · obtain rfl : res = hdK 6 := by have := HE.out; simpa using this
      clear HE
      go_enter Tryz.func76, Tryz.ntmps76
      go_upto_region 1 with (fail)
      refine wabs (G := fun w0 => Code.wp _ _ _ _ w0) (R := fun w1 => w1.heap[w.heap.size]? = some (.cells #[.int .i64 p1, .int .i64 p2, .int .i64 p3, .int .i64 p4, .int .i64 p5, .int .i64 p6, .int .u32 p7, .int .u32 p8, .int .u32 p9, .int .u64 pa, .int .u64 pb, .int .u64 pc, .int .u64 pd] 33 (0, 0)) ∧ w1.heap[w.heap.size + 1]? = some (.cells #[.int .i64 0, .string ⟨#[]⟩, .int .i64 0, .int .i64 0, .int .i64 0, .int .i64 0] 41 (0, 0)) ∧ Only [] w w1) ?_ ?_
      · skip
        have k0 := alloc_new w (.cells #[.int .i64 p1, .int .i64 p2, .int .i64 p3, .int .i64 p4, .int .i64 p5, .int .i64 p6, .int .u32 p7, .int .u32 p8, .int .u32 p9, .int .u64 pa, .int .u64 pb, .int .u64 pc, .int .u64 pd] 33)
        have k1 := alloc_new (w.alloc (.cells #[.int .i64 p1, .int .i64 p2, .int .i64 p3, .int .i64 p4, .int .i64 p5, .int .i64 p6, .int .u32 p7, .int .u32 p8, .int .u32 p9, .int .u64 pa, .int .u64 pb, .int .u64 pc, .int .u64 pd] 33)) (.cells #[.int .i64 0, .string ⟨#[]⟩, .int .i64 0, .int .i64 0, .int .i64 0, .int .i64 0] 41)
        simp only [World.size_alloc] at k0 k1
        exact ⟨(alloc_old k0), k1, (((Only.refl [] w).alloc _).alloc _)⟩
      rintro w1 ⟨h1, h2, ho1⟩
      obtain ⟨b1, hb1⟩ : ∃ b, w.heap.size = b := ⟨_, rfl⟩
      obtain ⟨b2, hb2⟩ : ∃ b, w.heap.size + 1 = b := ⟨_, rfl⟩
      have HN : Hid (w.heap.size ≤ b1 ∧ w.heap.size ≤ b2 ∧ b1 ≠ b2 ∧ b2 ≠ b1) := Lib.hid (by omega)
      rw [hb1] at h1
      rw [hb2] at h2
      rw [show w.heap.size + 1 = b2 from hb2, hb1]
      have B1 := Lib.hid h1; have B2 := Lib.hid h2; have OO := Lib.hid ho1
      clear h1 h2 hb1 hb2
      have B3 := Lib.hid (ho1.got hA (by simp)); have HX3 := Lib.hid (got_lt hA)
      replace OO := Lib.hid (ho1.weak (S' := [b]) (by simp))
      clear ho1
      have k1 := c_13 B1.out; have k2 := c_6 B2.out; have k3 := c_13 B3.out
      go_upto_region 3 with (fail)
      refine wabs (G := fun w0 => Code.wp _ _ _ _ w0) (R := fun w2 => w2.heap[b1]? = some (.cells #[.int .i64 p1, .int .i64 p2, .int .i64 p3, .int .i64 p4, .int .i64 p5, .int .i64 p6, .int .u32 p7, .int .u32 p8, .int .u32 p9, .int .u64 pa, .int .u64 pb, .int .u64 pc, .int .u64 pd] 33 (0, 0)) ∧ w2.heap[b2]? = some (.cells #[.int .i64 0, .string ⟨#[]⟩, .int .i64 0, .int .i64 0, .int .i64 0, .int .i64 0] 41 (0, 0)) ∧ w2.heap[b]? = some (.cells #[.int .i64 ver, .int .i64 t1, .int .u64 nonce, .bool false, .int .u64 pd, .int .i64 c0, .int .i64 c1, .int .i64 c2, .int .i64 c3, .int .i64 c4, .int .i64 c5, .int .i64 c6, .int .i64 c7] 155 (0, 0)) ∧ Only [b] w w2) ⟨(setCell_oth (.int .u64 pd) (setCell_oth (.bool false) B1.out (show b1 ≠ b from (by have e1 := HN.out.1; have e3 := HX3.out; omega))) (show b1 ≠ b from (by have e1 := HN.out.1; have e3 := HX3.out; omega))), (setCell_oth (.int .u64 pd) (setCell_oth (.bool false) B2.out (show b2 ≠ b from (by have e2 := HN.out.2.1; have e3 := HX3.out; omega))) (show b2 ≠ b from (by have e2 := HN.out.2.1; have e3 := HX3.out; omega))), (setCell_got (o := 4) (.int .u64 pd) (setCell_got (o := 3) (.bool false) B3.out)), ((OO.out.setCell (.inl (by simp)) _).setCell (.inl (by simp)) _)⟩ ?_
      rintro w2 ⟨g1, g2, g3, ho⟩
      clear k1 k2 k3
      replace B1 := Lib.hid g1; replace B2 := Lib.hid g2; replace B3 := Lib.hid g3; replace OO := Lib.hid ho
      clear ho g1 g2 g3
      have k1 := c_13 B1.out; have k2 := c_6 B2.out; have k3 := c_13 B3.out
      go_wp2_with fail
      refine (HK.out _).mono ?_
      rintro e w3 ⟨rfl, ho⟩
      clear k1 k2 k3
      replace OO := Lib.hid (OO.out.nil_trans ho); replace B1 := Lib.hid (ho.got B1.out (by simp)); replace B2 := Lib.hid (ho.got B2.out (by simp)); replace B3 := Lib.hid (ho.got B3.out (by simp))
      clear ho
      have k1 := c_13 B1.out; have k2 := c_6 B2.out; have k3 := c_13 B3.out
      go_wp2_with fail
      refine (HY.out _).mono ?_
      rintro e w4 ⟨rfl, ho⟩
      clear k1 k2 k3
      replace OO := Lib.hid (OO.out.nil_trans ho); replace B1 := Lib.hid (ho.got B1.out (by simp)); replace B2 := Lib.hid (ho.got B2.out (by simp)); replace B3 := Lib.hid (ho.got B3.out (by simp))
      clear ho
      have k1 := c_13 B1.out; have k2 := c_6 B2.out; have k3 := c_13 B3.out
      go_wp2_with fail
      refine (HI2.out _).mono ?_
      rintro e w5 ⟨rfl, ho⟩
      clear k1 k2 k3
      replace OO := Lib.hid (OO.out.nil_trans ho); replace B1 := Lib.hid (ho.got B1.out (by simp)); replace B2 := Lib.hid (ho.got B2.out (by simp)); replace B3 := Lib.hid (ho.got B3.out (by simp))
      clear ho
      have k1 := c_13 B1.out; have k2 := c_6 B2.out; have k3 := c_13 B3.out
      go_wp2_with fail
      refine (HI3.out _).mono ?_
      rintro e w6 ⟨rfl, ho⟩
      clear k1 k2 k3
      replace OO := Lib.hid (OO.out.nil_trans ho); replace B1 := Lib.hid (ho.got B1.out (by simp)); replace B2 := Lib.hid (ho.got B2.out (by simp)); replace B3 := Lib.hid (ho.got B3.out (by simp))
      clear ho
      have k1 := c_13 B1.out; have k2 := c_6 B2.out; have k3 := c_13 B3.out
      go_wp2
      have HD := setCell_got (o := 5) (.int .i64 0) (setCell_got (o := 4) (.int .i64 0) (setCell_got (o := 3) (.int .i64 0) (setCell_got (o := 2) (.int .i64 0) (setCell_got (o := 1) (.string ⟨#[]⟩) (setCell_got (o := 0) (.int .i64 6) (B2.out))))))
      have e0 := cell_got HD 0; have e1 := cell_got HD 1; have e2 := cell_got HD 2; have e3 := cell_got HD 3; have e4 := cell_got HD 4; have e5 := cell_got HD 5; have le := got_lt HD
      refine bodyPost_ret (v := .agg #[.int .i64 6, .string ⟨#[]⟩, .int .i64 0, .int .i64 0, .int .i64 0, .int .i64 0]) (by simp [results, Tryz.results76, go_sem, e0, e1, e2, e3, e4, e5]) rfl ⟨rfl, ⟨c0, c1, c2, c3, c4, c5, c6, c7, (setCell_oth (.int .i64 0) (setCell_oth (.int .i64 0) (setCell_oth (.int .i64 0) (setCell_oth (.int .i64 0) (setCell_oth (.string ⟨#[]⟩) (setCell_oth (.int .i64 6) B3.out (show b ≠ b2 from (by have e3 := HX3.out; have e2 := HN.out.2.1; omega))) (show b ≠ b2 from (by have e3 := HX3.out; have e2 := HN.out.2.1; omega))) (show b ≠ b2 from (by have e3 := HX3.out; have e2 := HN.out.2.1; omega))) (show b ≠ b2 from (by have e3 := HX3.out; have e2 := HN.out.2.1; omega))) (show b ≠ b2 from (by have e3 := HX3.out; have e2 := HN.out.2.1; omega))) (show b ≠ b2 from (by have e3 := HX3.out; have e2 := HN.out.2.1; omega)))⟩, ((((((OO.out.setCell (.inr HN.out.2.1) _).setCell (.inr HN.out.2.1) _).setCell (.inr HN.out.2.1) _).setCell (.inr HN.out.2.1) _).setCell (.inr HN.out.2.1) _).setCell (.inr HN.out.2.1) _)⟩
    · cases o3
      · obtain rfl : res = hdK 6 := by have := HE.out; simpa using this
        clear HE
        go_enter Tryz.func76, Tryz.ntmps76
        go_upto_region 1 with (fail)
        refine wabs (G := fun w0 => Code.wp _ _ _ _ w0) (R := fun w1 => w1.heap[w.heap.size]? = some (.cells #[.int .i64 p1, .int .i64 p2, .int .i64 p3, .int .i64 p4, .int .i64 p5, .int .i64 p6, .int .u32 p7, .int .u32 p8, .int .u32 p9, .int .u64 pa, .int .u64 pb, .int .u64 pc, .int .u64 pd] 33 (0, 0)) ∧ w1.heap[w.heap.size + 1]? = some (.cells #[.int .i64 0, .string ⟨#[]⟩, .int .i64 0, .int .i64 0, .int .i64 0, .int .i64 0] 41 (0, 0)) ∧ Only [] w w1) ?_ ?_
        · skip
          have k0 := alloc_new w (.cells #[.int .i64 p1, .int .i64 p2, .int .i64 p3, .int .i64 p4, .int .i64 p5, .int .i64 p6, .int .u32 p7, .int .u32 p8, .int .u32 p9, .int .u64 pa, .int .u64 pb, .int .u64 pc, .int .u64 pd] 33)
          have k1 := alloc_new (w.alloc (.cells #[.int .i64 p1, .int .i64 p2, .int .i64 p3, .int .i64 p4, .int .i64 p5, .int .i64 p6, .int .u32 p7, .int .u32 p8, .int .u32 p9, .int .u64 pa, .int .u64 pb, .int .u64 pc, .int .u64 pd] 33)) (.cells #[.int .i64 0, .string ⟨#[]⟩, .int .i64 0, .int .i64 0, .int .i64 0, .int .i64 0] 41)
          simp only [World.size_alloc] at k0 k1
          exact ⟨(alloc_old k0), k1, (((Only.refl [] w).alloc _).alloc _)⟩
        rintro w1 ⟨h1, h2, ho1⟩
        obtain ⟨b1, hb1⟩ : ∃ b, w.heap.size = b := ⟨_, rfl⟩
        obtain ⟨b2, hb2⟩ : ∃ b, w.heap.size + 1 = b := ⟨_, rfl⟩
        have HN : Hid (w.heap.size ≤ b1 ∧ w.heap.size ≤ b2 ∧ b1 ≠ b2 ∧ b2 ≠ b1) := Lib.hid (by omega)
        rw [hb1] at h1
        rw [hb2] at h2
        rw [show w.heap.size + 1 = b2 from hb2, hb1]
        have B1 := Lib.hid h1; have B2 := Lib.hid h2; have OO := Lib.hid ho1
        clear h1 h2 hb1 hb2
        have B3 := Lib.hid (ho1.got hA (by simp)); have HX3 := Lib.hid (got_lt hA)
        replace OO := Lib.hid (ho1.weak (S' := [b]) (by simp))
        clear ho1
        have k1 := c_13 B1.out; have k2 := c_6 B2.out; have k3 := c_13 B3.out
        go_upto_region 3 with (fail)
        refine wabs (G := fun w0 => Code.wp _ _ _ _ w0) (R := fun w2 => w2.heap[b1]? = some (.cells #[.int .i64 p1, .int .i64 p2, .int .i64 p3, .int .i64 p4, .int .i64 p5, .int .i64 p6, .int .u32 p7, .int .u32 p8, .int .u32 p9, .int .u64 pa, .int .u64 pb, .int .u64 pc, .int .u64 pd] 33 (0, 0)) ∧ w2.heap[b2]? = some (.cells #[.int .i64 0, .string ⟨#[]⟩, .int .i64 0, .int .i64 0, .int .i64 0, .int .i64 0] 41 (0, 0)) ∧ w2.heap[b]? = some (.cells #[.int .i64 ver, .int .i64 t1, .int .u64 nonce, .bool false, .int .u64 pd, .int .i64 c0, .int .i64 c1, .int .i64 c2, .int .i64 c3, .int .i64 c4, .int .i64 c5, .int .i64 c6, .int .i64 c7] 155 (0, 0)) ∧ Only [b] w w2) ⟨(setCell_oth (.int .u64 pd) (setCell_oth (.bool false) B1.out (show b1 ≠ b from (by have e1 := HN.out.1; have e3 := HX3.out; omega))) (show b1 ≠ b from (by have e1 := HN.out.1; have e3 := HX3.out; omega))), (setCell_oth (.int .u64 pd) (setCell_oth (.bool false) B2.out (show b2 ≠ b from (by have e2 := HN.out.2.1; have e3 := HX3.out; omega))) (show b2 ≠ b from (by have e2 := HN.out.2.1; have e3 := HX3.out; omega))), (setCell_got (o := 4) (.int .u64 pd) (setCell_got (o := 3) (.bool false) B3.out)), ((OO.out.setCell (.inl (by simp)) _).setCell (.inl (by simp)) _)⟩ ?_
        rintro w2 ⟨g1, g2, g3, ho⟩
        clear k1 k2 k3
        replace B1 := Lib.hid g1; replace B2 := Lib.hid g2; replace B3 := Lib.hid g3; replace OO := Lib.hid ho
        clear ho g1 g2 g3
        have k1 := c_13 B1.out; have k2 := c_6 B2.out; have k3 := c_13 B3.out
        go_wp2_with fail
        refine (HK.out _).mono ?_
        rintro e w3 ⟨rfl, ho⟩
        clear k1 k2 k3
        replace OO := Lib.hid (OO.out.nil_trans ho); replace B1 := Lib.hid (ho.got B1.out (by simp)); replace B2 := Lib.hid (ho.got B2.out (by simp)); replace B3 := Lib.hid (ho.got B3.out (by simp))
        clear ho
        have k1 := c_13 B1.out; have k2 := c_6 B2.out; have k3 := c_13 B3.out
        go_wp2_with fail
        refine (HY.out _).mono ?_
        rintro e w4 ⟨rfl, ho⟩
        clear k1 k2 k3
        replace OO := Lib.hid (OO.out.nil_trans ho); replace B1 := Lib.hid (ho.got B1.out (by simp)); replace B2 := Lib.hid (ho.got B2.out (by simp)); replace B3 := Lib.hid (ho.got B3.out (by simp))
        clear ho
        have k1 := c_13 B1.out; have k2 := c_6 B2.out; have k3 := c_13 B3.out
        go_wp2_with fail
        refine (HI2.out _).mono ?_
        rintro e w5 ⟨rfl, ho⟩
        clear k1 k2 k3
        replace OO := Lib.hid (OO.out.nil_trans ho); replace B1 := Lib.hid (ho.got B1.out (by simp)); replace B2 := Lib.hid (ho.got B2.out (by simp)); replace B3 := Lib.hid (ho.got B3.out (by simp))
        clear ho
        have k1 := c_13 B1.out; have k2 := c_6 B2.out; have k3 := c_13 B3.out
        go_wp2_with fail
        refine (HI3.out _).mono ?_
        rintro e w6 ⟨rfl, ho⟩
        clear k1 k2 k3
        replace OO := Lib.hid (OO.out.nil_trans ho); replace B1 := Lib.hid (ho.got B1.out (by simp)); replace B2 := Lib.hid (ho.got B2.out (by simp)); replace B3 := Lib.hid (ho.got B3.out (by simp))
        clear ho
        have k1 := c_13 B1.out; have k2 := c_6 B2.out; have k3 := c_13 B3.out
        go_wp2
        have HD := setCell_got (o := 5) (.int .i64 0) (setCell_got (o := 4) (.int .i64 0) (setCell_got (o := 3) (.int .i64 0) (setCell_got (o := 2) (.int .i64 0) (setCell_got (o := 1) (.string ⟨#[]⟩) (setCell_got (o := 0) (.int .i64 6) (B2.out))))))
        have e0 := cell_got HD 0; have e1 := cell_got HD 1; have e2 := cell_got HD 2; have e3 := cell_got HD 3; have e4 := cell_got HD 4; have e5 := cell_got HD 5; have le := got_lt HD
        refine bodyPost_ret (v := .agg #[.int .i64 6, .string ⟨#[]⟩, .int .i64 0, .int .i64 0, .int .i64 0, .int .i64 0]) (by simp [results, Tryz.results76, go_sem, e0, e1, e2, e3, e4, e5]) rfl ⟨rfl, ⟨c0, c1, c2, c3, c4, c5, c6, c7, (setCell_oth (.int .i64 0) (setCell_oth (.int .i64 0) (setCell_oth (.int .i64 0) (setCell_oth (.int .i64 0) (setCell_oth (.string ⟨#[]⟩) (setCell_oth (.int .i64 6) B3.out (show b ≠ b2 from (by have e3 := HX3.out; have e2 := HN.out.2.1; omega))) (show b ≠ b2 from (by have e3 := HX3.out; have e2 := HN.out.2.1; omega))) (show b ≠ b2 from (by have e3 := HX3.out; have e2 := HN.out.2.1; omega))) (show b ≠ b2 from (by have e3 := HX3.out; have e2 := HN.out.2.1; omega))) (show b ≠ b2 from (by have e3 := HX3.out; have e2 := HN.out.2.1; omega))) (show b ≠ b2 from (by have e3 := HX3.out; have e2 := HN.out.2.1; omega)))⟩, ((((((OO.out.setCell (.inr HN.out.2.1) _).setCell (.inr HN.out.2.1) _).setCell (.inr HN.out.2.1) _).setCell (.inr HN.out.2.1) _).setCell (.inr HN.out.2.1) _).setCell (.inr HN.out.2.1) _)⟩
      · by_cases hlt : v3 < v2
        · have q1 : decide (v3 < v2) = true := decide_eq_true hlt
          obtain rfl : res = hdK 6 := by have := HE.out; simpa [hlt] using this
          clear HE
          go_enter Tryz.func76, Tryz.ntmps76
          go_upto_region 1 with (fail)
          refine wabs (G := fun w0 => Code.wp _ _ _ _ w0) (R := fun w1 => w1.heap[w.heap.size]? = some (.cells #[.int .i64 p1, .int .i64 p2, .int .i64 p3, .int .i64 p4, .int .i64 p5, .int .i64 p6, .int .u32 p7, .int .u32 p8, .int .u32 p9, .int .u64 pa, .int .u64 pb, .int .u64 pc, .int .u64 pd] 33 (0, 0)) ∧ w1.heap[w.heap.size + 1]? = some (.cells #[.int .i64 0, .string ⟨#[]⟩, .int .i64 0, .int .i64 0, .int .i64 0, .int .i64 0] 41 (0, 0)) ∧ Only [] w w1) ?_ ?_
          · skip
            have k0 := alloc_new w (.cells #[.int .i64 p1, .int .i64 p2, .int .i64 p3, .int .i64 p4, .int .i64 p5, .int .i64 p6, .int .u32 p7, .int .u32 p8, .int .u32 p9, .int .u64 pa, .int .u64 pb, .int .u64 pc, .int .u64 pd] 33)
            have k1 := alloc_new (w.alloc (.cells #[.int .i64 p1, .int .i64 p2, .int .i64 p3, .int .i64 p4, .int .i64 p5, .int .i64 p6, .int .u32 p7, .int .u32 p8, .int .u32 p9, .int .u64 pa, .int .u64 pb, .int .u64 pc, .int .u64 pd] 33)) (.cells #[.int .i64 0, .string ⟨#[]⟩, .int .i64 0, .int .i64 0, .int .i64 0, .int .i64 0] 41)
            simp only [World.size_alloc] at k0 k1
            exact ⟨(alloc_old k0), k1, (((Only.refl [] w).alloc _).alloc _)⟩
          rintro w1 ⟨h1, h2, ho1⟩
          obtain ⟨b1, hb1⟩ : ∃ b, w.heap.size = b := ⟨_, rfl⟩
          obtain ⟨b2, hb2⟩ : ∃ b, w.heap.size + 1 = b := ⟨_, rfl⟩
          have HN : Hid (w.heap.size ≤ b1 ∧ w.heap.size ≤ b2 ∧ b1 ≠ b2 ∧ b2 ≠ b1) := Lib.hid (by omega)
          rw [hb1] at h1
          rw [hb2] at h2
          rw [show w.heap.size + 1 = b2 from hb2, hb1]
          have B1 := Lib.hid h1; have B2 := Lib.hid h2; have OO := Lib.hid ho1
          clear h1 h2 hb1 hb2
          have B3 := Lib.hid (ho1.got hA (by simp)); have HX3 := Lib.hid (got_lt hA)
          replace OO := Lib.hid (ho1.weak (S' := [b]) (by simp))
          clear ho1
          have k1 := c_13 B1.out; have k2 := c_6 B2.out; have k3 := c_13 B3.out
          go_upto_region 3 with (fail)
          refine wabs (G := fun w0 => Code.wp _ _ _ _ w0) (R := fun w2 => w2.heap[b1]? = some (.cells #[.int .i64 p1, .int .i64 p2, .int .i64 p3, .int .i64 p4, .int .i64 p5, .int .i64 p6, .int .u32 p7, .int .u32 p8, .int .u32 p9, .int .u64 pa, .int .u64 pb, .int .u64 pc, .int .u64 pd] 33 (0, 0)) ∧ w2.heap[b2]? = some (.cells #[.int .i64 0, .string ⟨#[]⟩, .int .i64 0, .int .i64 0, .int .i64 0, .int .i64 0] 41 (0, 0)) ∧ w2.heap[b]? = some (.cells #[.int .i64 ver, .int .i64 t1, .int .u64 nonce, .bool false, .int .u64 pd, .int .i64 c0, .int .i64 c1, .int .i64 c2, .int .i64 c3, .int .i64 c4, .int .i64 c5, .int .i64 c6, .int .i64 c7] 155 (0, 0)) ∧ Only [b] w w2) ⟨(setCell_oth (.int .u64 pd) (setCell_oth (.bool false) B1.out (show b1 ≠ b from (by have e1 := HN.out.1; have e3 := HX3.out; omega))) (show b1 ≠ b from (by have e1 := HN.out.1; have e3 := HX3.out; omega))), (setCell_oth (.int .u64 pd) (setCell_oth (.bool false) B2.out (show b2 ≠ b from (by have e2 := HN.out.2.1; have e3 := HX3.out; omega))) (show b2 ≠ b from (by have e2 := HN.out.2.1; have e3 := HX3.out; omega))), (setCell_got (o := 4) (.int .u64 pd) (setCell_got (o := 3) (.bool false) B3.out)), ((OO.out.setCell (.inl (by simp)) _).setCell (.inl (by simp)) _)⟩ ?_
          rintro w2 ⟨g1, g2, g3, ho⟩
          clear k1 k2 k3
          replace B1 := Lib.hid g1; replace B2 := Lib.hid g2; replace B3 := Lib.hid g3; replace OO := Lib.hid ho
          clear ho g1 g2 g3
          have k1 := c_13 B1.out; have k2 := c_6 B2.out; have k3 := c_13 B3.out
          go_wp2_with fail
          refine (HK.out _).mono ?_
          rintro e w3 ⟨rfl, ho⟩
          clear k1 k2 k3
          replace OO := Lib.hid (OO.out.nil_trans ho); replace B1 := Lib.hid (ho.got B1.out (by simp)); replace B2 := Lib.hid (ho.got B2.out (by simp)); replace B3 := Lib.hid (ho.got B3.out (by simp))
          clear ho
          have k1 := c_13 B1.out; have k2 := c_6 B2.out; have k3 := c_13 B3.out
          go_wp2_with fail
          refine (HY.out _).mono ?_
          rintro e w4 ⟨rfl, ho⟩
          clear k1 k2 k3
          replace OO := Lib.hid (OO.out.nil_trans ho); replace B1 := Lib.hid (ho.got B1.out (by simp)); replace B2 := Lib.hid (ho.got B2.out (by simp)); replace B3 := Lib.hid (ho.got B3.out (by simp))
          clear ho
          have k1 := c_13 B1.out; have k2 := c_6 B2.out; have k3 := c_13 B3.out
          go_wp2_with fail
          refine (HI2.out _).mono ?_
          rintro e w5 ⟨rfl, ho⟩
          clear k1 k2 k3
          replace OO := Lib.hid (OO.out.nil_trans ho); replace B1 := Lib.hid (ho.got B1.out (by simp)); replace B2 := Lib.hid (ho.got B2.out (by simp)); replace B3 := Lib.hid (ho.got B3.out (by simp))
          clear ho
          have k1 := c_13 B1.out; have k2 := c_6 B2.out; have k3 := c_13 B3.out
          go_wp2_with fail
          refine (HI3.out _).mono ?_
          rintro e w6 ⟨rfl, ho⟩
          clear k1 k2 k3
          replace OO := Lib.hid (OO.out.nil_trans ho); replace B1 := Lib.hid (ho.got B1.out (by simp)); replace B2 := Lib.hid (ho.got B2.out (by simp)); replace B3 := Lib.hid (ho.got B3.out (by simp))
          clear ho
          have k1 := c_13 B1.out; have k2 := c_6 B2.out; have k3 := c_13 B3.out
          go_wp2
          have HD := setCell_got (o := 5) (.int .i64 0) (setCell_got (o := 4) (.int .i64 0) (setCell_got (o := 3) (.int .i64 0) (setCell_got (o := 2) (.int .i64 0) (setCell_got (o := 1) (.string ⟨#[]⟩) (setCell_got (o := 0) (.int .i64 6) (B2.out))))))
          have e0 := cell_got HD 0; have e1 := cell_got HD 1; have e2 := cell_got HD 2; have e3 := cell_got HD 3; have e4 := cell_got HD 4; have e5 := cell_got HD 5; have le := got_lt HD
          refine bodyPost_ret (v := .agg #[.int .i64 6, .string ⟨#[]⟩, .int .i64 0, .int .i64 0, .int .i64 0, .int .i64 0]) (by simp [results, Tryz.results76, go_sem, e0, e1, e2, e3, e4, e5]) rfl ⟨rfl, ⟨c0, c1, c2, c3, c4, c5, c6, c7, (setCell_oth (.int .i64 0) (setCell_oth (.int .i64 0) (setCell_oth (.int .i64 0) (setCell_oth (.int .i64 0) (setCell_oth (.string ⟨#[]⟩) (setCell_oth (.int .i64 6) B3.out (show b ≠ b2 from (by have e3 := HX3.out; have e2 := HN.out.2.1; omega))) (show b ≠ b2 from (by have e3 := HX3.out; have e2 := HN.out.2.1; omega))) (show b ≠ b2 from (by have e3 := HX3.out; have e2 := HN.out.2.1; omega))) (show b ≠ b2 from (by have e3 := HX3.out; have e2 := HN.out.2.1; omega))) (show b ≠ b2 from (by have e3 := HX3.out; have e2 := HN.out.2.1; omega))) (show b ≠ b2 from (by have e3 := HX3.out; have e2 := HN.out.2.1; omega)))⟩, ((((((OO.out.setCell (.inr HN.out.2.1) _).setCell (.inr HN.out.2.1) _).setCell (.inr HN.out.2.1) _).setCell (.inr HN.out.2.1) _).setCell (.inr HN.out.2.1) _).setCell (.inr HN.out.2.1) _)⟩
        · have q1 : decide (v3 < v2) = false := decide_eq_false hlt
          obtain rfl : res = ⟨7, ⟨#[]⟩, ⟨t1, v2, v3, now⟩⟩ := by have := HE.out; simpa [hlt] using this
          clear HE
          go_enter Tryz.func76, Tryz.ntmps76
          go_upto_region 1 with (fail)
          refine wabs (G := fun w0 => Code.wp _ _ _ _ w0) (R := fun w1 => w1.heap[w.heap.size]? = some (.cells #[.int .i64 p1, .int .i64 p2, .int .i64 p3, .int .i64 p4, .int .i64 p5, .int .i64 p6, .int .u32 p7, .int .u32 p8, .int .u32 p9, .int .u64 pa, .int .u64 pb, .int .u64 pc, .int .u64 pd] 33 (0, 0)) ∧ w1.heap[w.heap.size + 1]? = some (.cells #[.int .i64 0, .string ⟨#[]⟩, .int .i64 0, .int .i64 0, .int .i64 0, .int .i64 0] 41 (0, 0)) ∧ Only [] w w1) ?_ ?_
          · skip
            have k0 := alloc_new w (.cells #[.int .i64 p1, .int .i64 p2, .int .i64 p3, .int .i64 p4, .int .i64 p5, .int .i64 p6, .int .u32 p7, .int .u32 p8, .int .u32 p9, .int .u64 pa, .int .u64 pb, .int .u64 pc, .int .u64 pd] 33)
            have k1 := alloc_new (w.alloc (.cells #[.int .i64 p1, .int .i64 p2, .int .i64 p3, .int .i64 p4, .int .i64 p5, .int .i64 p6, .int .u32 p7, .int .u32 p8, .int .u32 p9, .int .u64 pa, .int .u64 pb, .int .u64 pc, .int .u64 pd] 33)) (.cells #[.int .i64 0, .string ⟨#[]⟩, .int .i64 0, .int .i64 0, .int .i64 0, .int .i64 0] 41)
            simp only [World.size_alloc] at k0 k1
            exact ⟨(alloc_old k0), k1, (((Only.refl [] w).alloc _).alloc _)⟩
          rintro w1 ⟨h1, h2, ho1⟩
          obtain ⟨b1, hb1⟩ : ∃ b, w.heap.size = b := ⟨_, rfl⟩
          obtain ⟨b2, hb2⟩ : ∃ b, w.heap.size + 1 = b := ⟨_, rfl⟩
          have HN : Hid (w.heap.size ≤ b1 ∧ w.heap.size ≤ b2 ∧ b1 ≠ b2 ∧ b2 ≠ b1) := Lib.hid (by omega)
          rw [hb1] at h1
          rw [hb2] at h2
          rw [show w.heap.size + 1 = b2 from hb2, hb1]
          have B1 := Lib.hid h1; have B2 := Lib.hid h2; have OO := Lib.hid ho1
          clear h1 h2 hb1 hb2
          have B3 := Lib.hid (ho1.got hA (by simp)); have HX3 := Lib.hid (got_lt hA)
          replace OO := Lib.hid (ho1.weak (S' := [b]) (by simp))
          clear ho1
          have k1 := c_13 B1.out; have k2 := c_6 B2.out; have k3 := c_13 B3.out
          go_upto_region 3 with (fail)
          refine wabs (G := fun w0 => Code.wp _ _ _ _ w0) (R := fun w2 => w2.heap[b1]? = some (.cells #[.int .i64 p1, .int .i64 p2, .int .i64 p3, .int .i64 p4, .int .i64 p5, .int .i64 p6, .int .u32 p7, .int .u32 p8, .int .u32 p9, .int .u64 pa, .int .u64 pb, .int .u64 pc, .int .u64 pd] 33 (0, 0)) ∧ w2.heap[b2]? = some (.cells #[.int .i64 0, .string ⟨#[]⟩, .int .i64 0, .int .i64 0, .int .i64 0, .int .i64 0] 41 (0, 0)) ∧ w2.heap[b]? = some (.cells #[.int .i64 ver, .int .i64 t1, .int .u64 nonce, .bool false, .int .u64 pd, .int .i64 c0, .int .i64 c1, .int .i64 c2, .int .i64 c3, .int .i64 c4, .int .i64 c5, .int .i64 c6, .int .i64 c7] 155 (0, 0)) ∧ Only [b] w w2) ⟨(setCell_oth (.int .u64 pd) (setCell_oth (.bool false) B1.out (show b1 ≠ b from (by have e1 := HN.out.1; have e3 := HX3.out; omega))) (show b1 ≠ b from (by have e1 := HN.out.1; have e3 := HX3.out; omega))), (setCell_oth (.int .u64 pd) (setCell_oth (.bool false) B2.out (show b2 ≠ b from (by have e2 := HN.out.2.1; have e3 := HX3.out; omega))) (show b2 ≠ b from (by have e2 := HN.out.2.1; have e3 := HX3.out; omega))), (setCell_got (o := 4) (.int .u64 pd) (setCell_got (o := 3) (.bool false) B3.out)), ((OO.out.setCell (.inl (by simp)) _).setCell (.inl (by simp)) _)⟩ ?_
          rintro w2 ⟨g1, g2, g3, ho⟩
          clear k1 k2 k3
          replace B1 := Lib.hid g1; replace B2 := Lib.hid g2; replace B3 := Lib.hid g3; replace OO := Lib.hid ho
          clear ho g1 g2 g3
          have k1 := c_13 B1.out; have k2 := c_6 B2.out; have k3 := c_13 B3.out
          go_wp2_with fail
          refine (HK.out _).mono ?_
          rintro e w3 ⟨rfl, ho⟩
          clear k1 k2 k3
          replace OO := Lib.hid (OO.out.nil_trans ho); replace B1 := Lib.hid (ho.got B1.out (by simp)); replace B2 := Lib.hid (ho.got B2.out (by simp)); replace B3 := Lib.hid (ho.got B3.out (by simp))
          clear ho
          have k1 := c_13 B1.out; have k2 := c_6 B2.out; have k3 := c_13 B3.out
          go_wp2_with fail
          refine (HY.out _).mono ?_
          rintro e w4 ⟨rfl, ho⟩
          clear k1 k2 k3
          replace OO := Lib.hid (OO.out.nil_trans ho); replace B1 := Lib.hid (ho.got B1.out (by simp)); replace B2 := Lib.hid (ho.got B2.out (by simp)); replace B3 := Lib.hid (ho.got B3.out (by simp))
          clear ho
          have k1 := c_13 B1.out; have k2 := c_6 B2.out; have k3 := c_13 B3.out
          go_wp2_with fail
          refine (HI2.out _).mono ?_
          rintro e w5 ⟨rfl, ho⟩
          clear k1 k2 k3
          replace OO := Lib.hid (OO.out.nil_trans ho); replace B1 := Lib.hid (ho.got B1.out (by simp)); replace B2 := Lib.hid (ho.got B2.out (by simp)); replace B3 := Lib.hid (ho.got B3.out (by simp))
          clear ho
          have k1 := c_13 B1.out; have k2 := c_6 B2.out; have k3 := c_13 B3.out
          go_wp2_with fail
          refine (HI3.out _).mono ?_
          rintro e w6 ⟨rfl, ho⟩
          clear k1 k2 k3
          replace OO := Lib.hid (OO.out.nil_trans ho); replace B1 := Lib.hid (ho.got B1.out (by simp)); replace B2 := Lib.hid (ho.got B2.out (by simp)); replace B3 := Lib.hid (ho.got B3.out (by simp))
          clear ho
          have k1 := c_13 B1.out; have k2 := c_6 B2.out; have k3 := c_13 B3.out
          go_wp2
          have HD := setCell_got (o := 5) (.int .i64 now) (setCell_got (o := 4) (.int .i64 v3) (setCell_got (o := 3) (.int .i64 v2) (setCell_got (o := 2) (.int .i64 t1) (setCell_got (o := 1) (.string ⟨#[]⟩) (setCell_got (o := 0) (.int .i64 7) (B2.out))))))
          have e0 := cell_got HD 0; have e1 := cell_got HD 1; have e2 := cell_got HD 2; have e3 := cell_got HD 3; have e4 := cell_got HD 4; have e5 := cell_got HD 5; have le := got_lt HD
          refine bodyPost_ret (v := .agg #[.int .i64 7, .string ⟨#[]⟩, .int .i64 t1, .int .i64 v2, .int .i64 v3, .int .i64 now]) (by simp [results, Tryz.results76, go_sem, e0, e1, e2, e3, e4, e5]) rfl ⟨rfl, ⟨c0, c1, c2, c3, c4, c5, c6, c7, (setCell_oth (.int .i64 now) (setCell_oth (.int .i64 v3) (setCell_oth (.int .i64 v2) (setCell_oth (.int .i64 t1) (setCell_oth (.string ⟨#[]⟩) (setCell_oth (.int .i64 7) B3.out (show b ≠ b2 from (by have e3 := HX3.out; have e2 := HN.out.2.1; omega))) (show b ≠ b2 from (by have e3 := HX3.out; have e2 := HN.out.2.1; omega))) (show b ≠ b2 from (by have e3 := HX3.out; have e2 := HN.out.2.1; omega))) (show b ≠ b2 from (by have e3 := HX3.out; have e2 := HN.out.2.1; omega))) (show b ≠ b2 from (by have e3 := HX3.out; have e2 := HN.out.2.1; omega))) (show b ≠ b2 from (by have e3 := HX3.out; have e2 := HN.out.2.1; omega)))⟩, ((((((OO.out.setCell (.inr HN.out.2.1) _).setCell (.inr HN.out.2.1) _).setCell (.inr HN.out.2.1) _).setCell (.inr HN.out.2.1) _).setCell (.inr HN.out.2.1) _).setCell (.inr HN.out.2.1) _)⟩
theorem acc_kind (a : As) (p : Np) (now : Int) : (aAcc a p now).kind = 4 ∨ (aAcc a p now).kind = 5 ∨ (aAcc a p now).kind = 6 ∨ (aAcc a p now).kind = 7 := by
  unfold aAcc hdK
  split
  · simp
  · split
    · split <;> simp
    · simp
theorem ref_kind {a : As} {p : Np} {now k : Int} (h : aRef a p now = some k) : k = 0 ∨ k = 1 ∨ k = 2 ∨ k = 3 := by
  unfold aRef at h
  split at h
  · split at h
    · split at h
      · split at h
        · simp only [Option.some.injEq] at h; omega
        · cases h
      · simp only [Option.some.injEq] at h; omega
    · simp only [Option.some.injEq] at h; omega
  · simp only [Option.some.injEq] at h; omega
theorem ref_time {a : As} {p : Np} {now : Int} (h : aRef a p now = none) : isT now = true := by
  unfold aRef at h
  split at h
  · rename_i hh; exact hh.2.2.1
  · cases h
set_option maxRecDepth 100000 in
set_option maxHeartbeats 2000000 in
theorem pARecv {w : World} {b : Nat} {a : As} (ha : AsAt w b a) (p : Np) (now : Int) (hp : npOk p) :
    Calls Tryz.prog 41 #[.pointer (some ⟨b, 0, none⟩), npV p, .int .i64 now] w fun e w' => e = .returned (hdV (aRecv a p now).1) ∧ AsAt w' b (aRecv a p now).2 ∧ Only [b] w w' := by
  obtain ⟨c0, c1, c2, c3, c4, c5, c6, c7, hA⟩ := ha
  have HR := Lib.hid (fun (w' : World) h => pRefuse (w := w') (b := b) (a := a) h p now)
  have HE : Hid (aRecv a p now = match aRef a p now with
    | some k => (hdK k, a)
    | none => (aAcc a p now, { a with pend := false, xmt := p.xmt })) := Lib.hid rfl
  have HAC := Lib.hid (fun h1 (w' : World) h => pAccept (w := w') (b := b) (a := a) h p now hp h1)
  have hk := acc_kind a p now
  have hrk := fun k h => ref_kind (a := a) (p := p) (now := now) (k := k) h
  have hrt := fun h => ref_time (a := a) (p := p) (now := now) h
  generalize aRecv a p now = res at HE ⊢
  generalize aRef a p now = rr at HR HE hrk hrt
  generalize aAcc a p now = ac at HAC HE hk
  obtain ⟨ver, t1, nonce, pend, xmt⟩ := a
  obtain ⟨p1, p2, p3, p4, p5, p6, p7, p8, p9, pa, pb, pc, pd⟩ := p
  unfold npV at HR HAC ⊢
  dsimp only at hA HR HAC HE ⊢
  clear hp
  cases rr with
  | some k =>
    obtain rfl : res = (hdK k, ⟨ver, t1, nonce, pend, xmt⟩) := by rw [HE.out]
    have hkk := hrk k rfl
    clear HE hrk hrt hk HAC
    rcases hkk with rfl | rfl | rfl | rfl
    · simp only [refV, hdV, hdK] at HR
      go_enter Tryz.func41, Tryz.ntmps41
      go_upto_region 1 with (fail)
      refine wabs (G := fun w0 => Code.wp _ _ _ _ w0) (R := fun w1 => w1.heap[w.heap.size]? = some (.cells #[.int .i64 p1, .int .i64 p2, .int .i64 p3, .int .i64 p4, .int .i64 p5, .int .i64 p6, .int .u32 p7, .int .u32 p8, .int .u32 p9, .int .u64 pa, .int .u64 pb, .int .u64 pc, .int .u64 pd] 33 (0, 0)) ∧ w1.heap[w.heap.size + 1]? = some (.cells #[.int .i64 0, .string ⟨#[]⟩, .int .i64 0, .int .i64 0, .int .i64 0, .int .i64 0] 41 (0, 0)) ∧ Only [] w w1) ?_ ?_
      · skip
        have k0 := alloc_new w (.cells #[.int .i64 p1, .int .i64 p2, .int .i64 p3, .int .i64 p4, .int .i64 p5, .int .i64 p6, .int .u32 p7, .int .u32 p8, .int .u32 p9, .int .u64 pa, .int .u64 pb, .int .u64 pc, .int .u64 pd] 33)
        have k1 := alloc_new (w.alloc (.cells #[.int .i64 p1, .int .i64 p2, .int .i64 p3, .int .i64 p4, .int .i64 p5, .int .i64 p6, .int .u32 p7, .int .u32 p8, .int .u32 p9, .int .u64 pa, .int .u64 pb, .int .u64 pc, .int .u64 pd] 33)) (.cells #[.int .i64 0, .string ⟨#[]⟩, .int .i64 0, .int .i64 0, .int .i64 0, .int .i64 0] 41)
        simp only [World.size_alloc] at k0 k1
        exact ⟨(alloc_old k0), k1, (((Only.refl [] w).alloc _).alloc _)⟩
      rintro w1 ⟨h1, h2, ho1⟩
      obtain ⟨b1, hb1⟩ : ∃ b, w.heap.size = b := ⟨_, rfl⟩
      obtain ⟨b2, hb2⟩ : ∃ b, w.heap.size + 1 = b := ⟨_, rfl⟩
      have HN : Hid (w.heap.size ≤ b1 ∧ w.heap.size ≤ b2 ∧ b1 ≠ b2 ∧ b2 ≠ b1) := Lib.hid (by omega)
      rw [hb1] at h1
      rw [hb2] at h2
      rw [show w.heap.size + 1 = b2 from hb2, hb1]
      have B1 := Lib.hid h1; have B2 := Lib.hid h2; have OO := Lib.hid ho1
      clear h1 h2 hb1 hb2
      have B3 := Lib.hid (ho1.got hA (by simp)); have HX3 := Lib.hid (got_lt hA)
      replace OO := Lib.hid (ho1.weak (S' := [b]) (by simp))
      clear ho1
      have k1 := c_13 B1.out; have k2 := c_6 B2.out; have k3 := c_13 B3.out
      go_wp2_with fail
      refine (HR.out _ ⟨c0, c1, c2, c3, c4, c5, c6, c7, B3.out⟩).mono ?_
      rintro e w2 ⟨rfl, ho⟩
      clear k1 k2 k3
      replace OO := Lib.hid (OO.out.nil_trans ho); replace B1 := Lib.hid (ho.got B1.out (by simp)); replace B2 := Lib.hid (ho.got B2.out (by simp)); replace B3 := Lib.hid (ho.got B3.out (by simp))
      clear ho
      have k1 := c_13 B1.out; have k2 := c_6 B2.out; have k3 := c_13 B3.out
      go_upto_region 4 with (fail)
      refine alloc_abs (G := fun w0 => Code.wp _ _ _ _ w0) ?_
      intro w3 hb ho hs
      obtain ⟨b4, hbe⟩ : ∃ b, w2.heap.size = b := ⟨_, rfl⟩
      rw [hbe] at hb
      rw [hbe]
      have HN4 : Hid (w.heap.size ≤ b4) := Lib.hid (by rw [← hbe]; exact OO.out.size)
      have HM4_1 : Hid (b1 ≠ b4) := Lib.hid (by omega)
      have HM4_2 : Hid (b2 ≠ b4) := Lib.hid (by omega)
      have HM4_3 : Hid (b ≠ b4) := Lib.hid (by omega)
      clear k1 k2 k3
      replace OO := Lib.hid (OO.out.nil_trans ho); replace B1 := Lib.hid (ho.got B1.out (by simp)); replace B2 := Lib.hid (ho.got B2.out (by simp)); replace B3 := Lib.hid (ho.got B3.out (by simp)); have B4 := Lib.hid hb
      clear hb ho hs hbe
      have k1 := c_13 B1.out; have k2 := c_6 B2.out; have k3 := c_13 B3.out; have k4 := c_6 B4.out
      go_upto_region 6 with (fail)
      have hki : IntKind.i64.wrap 0 = 0 := by decide
      obtain ⟨u, hu⟩ : ∃ u, IntKind.i64.wrap (c0 + 1) = u := ⟨_, rfl⟩
      refine wp_region_grown [0, 1, 2, 3, 4, 5, 6, 7, 8, 9, 10] [11] (by kernel_rfl) (by kernel_rfl) ?_
      simp only [pick, List.map_cons, List.map_nil, List.getD_cons_succ, List.getD_cons_zero]
      iterate 11 (refine wpQuiet_step (fun K hK => ?_); go_simp; refine hK _ ?_; clear hK K)
      refine wpQuiet_nil ?_
      intro w4 hw
      have ho := only_of_plus hw
      clear hw
      clear k1 k2 k3 k4
      replace OO := Lib.hid (OO.out.nil_trans ho); replace B1 := Lib.hid (ho.got B1.out (by simp)); replace B2 := Lib.hid (ho.got B2.out (by simp)); replace B3 := Lib.hid (ho.got B3.out (by simp)); replace B4 := Lib.hid (ho.got B4.out (by simp))
      have k1 := c_13 B1.out; have k2 := c_6 B2.out; have k3 := c_13 B3.out; have k4 := c_6 B4.out
      clear ho
      go_upto_region 7 with (fail)
      refine wabs (G := fun w0 => Code.wp _ _ _ _ w0) (R := fun w5 => w5.heap[b1]? = some (.cells #[.int .i64 p1, .int .i64 p2, .int .i64 p3, .int .i64 p4, .int .i64 p5, .int .i64 p6, .int .u32 p7, .int .u32 p8, .int .u32 p9, .int .u64 pa, .int .u64 pb, .int .u64 pc, .int .u64 pd] 33 (0, 0)) ∧ w5.heap[b2]? = some (.cells #[.int .i64 0, .string ⟨#[]⟩, .int .i64 0, .int .i64 0, .int .i64 0, .int .i64 0] 41 (0, 0)) ∧ w5.heap[b]? = some (.cells #[.int .i64 ver, .int .i64 t1, .int .u64 nonce, .bool pend, .int .u64 xmt, .int .i64 u, .int .i64 c1, .int .i64 c2, .int .i64 c3, .int .i64 c4, .int .i64 c5, .int .i64 c6, .int .i64 c7] 155 (0, 0)) ∧ w5.heap[b4]? = some (.cells #[.int .i64 0, .string ⟨#[]⟩, .int .i64 0, .int .i64 0, .int .i64 0, .int .i64 0] 41 (0, 0)) ∧ Only [b] w w5) ⟨(setCell_oth (.int .i64 u) B1.out (show b1 ≠ b from (by have e1 := HN.out.1; have e3 := HX3.out; omega))), (setCell_oth (.int .i64 u) B2.out (show b2 ≠ b from (by have e2 := HN.out.2.1; have e3 := HX3.out; omega))), (setCell_got (o := 5) (.int .i64 u) B3.out), (setCell_oth (.int .i64 u) B4.out HM4_3.out.symm), (OO.out.setCell (.inl (by simp)) _)⟩ ?_
      rintro w5 ⟨g1, g2, g3, g4, ho⟩
      clear k1 k2 k3 k4
      replace B1 := Lib.hid g1; replace B2 := Lib.hid g2; replace B3 := Lib.hid g3; replace B4 := Lib.hid g4; replace OO := Lib.hid ho
      clear ho g1 g2 g3 g4
      have k1 := c_13 B1.out; have k2 := c_6 B2.out; have k3 := c_13 B3.out; have k4 := c_6 B4.out
      go_wp2
      have HD := setCell_got (o := 5) (.int .i64 0) (setCell_got (o := 4) (.int .i64 0) (setCell_got (o := 3) (.int .i64 0) (setCell_got (o := 2) (.int .i64 0) (setCell_got (o := 1) (.string ⟨#[]⟩) (setCell_got (o := 0) (.int .i64 0) (B2.out))))))
      have e0 := cell_got HD 0; have e1 := cell_got HD 1; have e2 := cell_got HD 2; have e3 := cell_got HD 3; have e4 := cell_got HD 4; have e5 := cell_got HD 5; have le := got_lt HD
      refine bodyPost_ret (v := .agg #[.int .i64 0, .string ⟨#[]⟩, .int .i64 0, .int .i64 0, .int .i64 0, .int .i64 0]) (by simp [results, Tryz.results41, go_sem, e0, e1, e2, e3, e4, e5]) rfl ⟨rfl, ⟨_, _, _, _, _, _, _, _, (setCell_oth (.int .i64 0) (setCell_oth (.int .i64 0) (setCell_oth (.int .i64 0) (setCell_oth (.int .i64 0) (setCell_oth (.string ⟨#[]⟩) (setCell_oth (.int .i64 0) B3.out (show b ≠ b2 from (by have e3 := HX3.out; have e2 := HN.out.2.1; omega))) (show b ≠ b2 from (by have e3 := HX3.out; have e2 := HN.out.2.1; omega))) (show b ≠ b2 from (by have e3 := HX3.out; have e2 := HN.out.2.1; omega))) (show b ≠ b2 from (by have e3 := HX3.out; have e2 := HN.out.2.1; omega))) (show b ≠ b2 from (by have e3 := HX3.out; have e2 := HN.out.2.1; omega))) (show b ≠ b2 from (by have e3 := HX3.out; have e2 := HN.out.2.1; omega)))⟩, ((((((OO.out.setCell (.inr HN.out.2.1) _).setCell (.inr HN.out.2.1) _).setCell (.inr HN.out.2.1) _).setCell (.inr HN.out.2.1) _).setCell (.inr HN.out.2.1) _).setCell (.inr HN.out.2.1) _)⟩
    · simp only [refV, hdV, hdK] at HR
      go_enter Tryz.func41, Tryz.ntmps41
      go_upto_region 1 with (fail)
      refine wabs (G := fun w0 => Code.wp _ _ _ _ w0) (R := fun w1 => w1.heap[w.heap.size]? = some (.cells #[.int .i64 p1, .int .i64 p2, .int .i64 p3, .int .i64 p4, .int .i64 p5, .int .i64 p6, .int .u32 p7, .int .u32 p8, .int .u32 p9, .int .u64 pa, .int .u64 pb, .int .u64 pc, .int .u64 pd] 33 (0, 0)) ∧ w1.heap[w.heap.size + 1]? = some (.cells #[.int .i64 0, .string ⟨#[]⟩, .int .i64 0, .int .i64 0, .int .i64 0, .int .i64 0] 41 (0, 0)) ∧ Only [] w w1) ?_ ?_
      · skip
        have k0 := alloc_new w (.cells #[.int .i64 p1, .int .i64 p2, .int .i64 p3, .int .i64 p4, .int .i64 p5, .int .i64 p6, .int .u32 p7, .int .u32 p8, .int .u32 p9, .int .u64 pa, .int .u64 pb, .int .u64 pc, .int .u64 pd] 33)
        have k1 := alloc_new (w.alloc (.cells #[.int .i64 p1, .int .i64 p2, .int .i64 p3, .int .i64 p4, .int .i64 p5, .int .i64 p6, .int .u32 p7, .int .u32 p8, .int .u32 p9, .int .u64 pa, .int .u64 pb, .int .u64 pc, .int .u64 pd] 33)) (.cells #[.int .i64 0, .string ⟨#[]⟩, .int .i64 0, .int .i64 0, .int .i64 0, .int .i64 0] 41)
        simp only [World.size_alloc] at k0 k1
        exact ⟨(alloc_old k0), k1, (((Only.refl [] w).alloc _).alloc _)⟩
      rintro w1 ⟨h1, h2, ho1⟩
      obtain ⟨b1, hb1⟩ : ∃ b, w.heap.size = b := ⟨_, rfl⟩
      obtain ⟨b2, hb2⟩ : ∃ b, w.heap.size + 1 = b := ⟨_, rfl⟩
      have HN : Hid (w.heap.size ≤ b1 ∧ w.heap.size ≤ b2 ∧ b1 ≠ b2 ∧ b2 ≠ b1) := Lib.hid (by omega)
      rw [hb1] at h1
      rw [hb2] at h2
      rw [show w.heap.size + 1 = b2 from hb2, hb1]
      have B1 := Lib.hid h1; have B2 := Lib.hid h2; have OO := Lib.hid ho1
      clear h1 h2 hb1 hb2
      have B3 := Lib.hid (ho1.got hA (by simp)); have HX3 := Lib.hid (got_lt hA)
      replace OO := Lib.hid (ho1.weak (S' := [b]) (by simp))
      clear ho1
      have k1 := c_13 B1.out; have k2 := c_6 B2.out; have k3 := c_13 B3.out
      go_wp2_with fail
      refine (HR.out _ ⟨c0, c1, c2, c3, c4, c5, c6, c7, B3.out⟩).mono ?_
      rintro e w2 ⟨rfl, ho⟩
      clear k1 k2 k3
      replace OO := Lib.hid (OO.out.nil_trans ho); replace B1 := Lib.hid (ho.got B1.out (by simp)); replace B2 := Lib.hid (ho.got B2.out (by simp)); replace B3 := Lib.hid (ho.got B3.out (by simp))
      clear ho
      have k1 := c_13 B1.out; have k2 := c_6 B2.out; have k3 := c_13 B3.out
      go_upto_region 4 with (fail)
      refine alloc_abs (G := fun w0 => Code.wp _ _ _ _ w0) ?_
      intro w3 hb ho hs
      obtain ⟨b4, hbe⟩ : ∃ b, w2.heap.size = b := ⟨_, rfl⟩
      rw [hbe] at hb
      rw [hbe]
      have HN4 : Hid (w.heap.size ≤ b4) := Lib.hid (by rw [← hbe]; exact OO.out.size)
      have HM4_1 : Hid (b1 ≠ b4) := Lib.hid (by omega)
      have HM4_2 : Hid (b2 ≠ b4) := Lib.hid (by omega)
      have HM4_3 : Hid (b ≠ b4) := Lib.hid (by omega)
      clear k1 k2 k3
      replace OO := Lib.hid (OO.out.nil_trans ho); replace B1 := Lib.hid (ho.got B1.out (by simp)); replace B2 := Lib.hid (ho.got B2.out (by simp)); replace B3 := Lib.hid (ho.got B3.out (by simp)); have B4 := Lib.hid hb
      clear hb ho hs hbe
      have k1 := c_13 B1.out; have k2 := c_6 B2.out; have k3 := c_13 B3.out; have k4 := c_6 B4.out
      go_upto_region 6 with (fail)
      have hki : IntKind.i64.wrap 1 = 1 := by decide
      obtain ⟨u, hu⟩ : ∃ u, IntKind.i64.wrap (c1 + 1) = u := ⟨_, rfl⟩
      refine wp_region_grown [0, 1, 2, 3, 4, 5, 6, 7, 8, 9, 10] [11] (by kernel_rfl) (by kernel_rfl) ?_
      simp only [pick, List.map_cons, List.map_nil, List.getD_cons_succ, List.getD_cons_zero]
      iterate 11 (refine wpQuiet_step (fun K hK => ?_); go_simp; refine hK _ ?_; clear hK K)
      refine wpQuiet_nil ?_
      intro w4 hw
      have ho := only_of_plus hw
      clear hw
      clear k1 k2 k3 k4
      replace OO := Lib.hid (OO.out.nil_trans ho); replace B1 := Lib.hid (ho.got B1.out (by simp)); replace B2 := Lib.hid (ho.got B2.out (by simp)); replace B3 := Lib.hid (ho.got B3.out (by simp)); replace B4 := Lib.hid (ho.got B4.out (by simp))
      have k1 := c_13 B1.out; have k2 := c_6 B2.out; have k3 := c_13 B3.out; have k4 := c_6 B4.out
      clear ho
      go_upto_region 7 with (fail)
      refine wabs (G := fun w0 => Code.wp _ _ _ _ w0) (R := fun w5 => w5.heap[b1]? = some (.cells #[.int .i64 p1, .int .i64 p2, .int .i64 p3, .int .i64 p4, .int .i64 p5, .int .i64 p6, .int .u32 p7, .int .u32 p8, .int .u32 p9, .int .u64 pa, .int .u64 pb, .int .u64 pc, .int .u64 pd] 33 (0, 0)) ∧ w5.heap[b2]? = some (.cells #[.int .i64 0, .string ⟨#[]⟩, .int .i64 0, .int .i64 0, .int .i64 0, .int .i64 0] 41 (0, 0)) ∧ w5.heap[b]? = some (.cells #[.int .i64 ver, .int .i64 t1, .int .u64 nonce, .bool pend, .int .u64 xmt, .int .i64 c0, .int .i64 u, .int .i64 c2, .int .i64 c3, .int .i64 c4, .int .i64 c5, .int .i64 c6, .int .i64 c7] 155 (0, 0)) ∧ w5.heap[b4]? = some (.cells #[.int .i64 1, .string ⟨#[]⟩, .int .i64 0, .int .i64 0, .int .i64 0, .int .i64 0] 41 (0, 0)) ∧ Only [b] w w5) ⟨(setCell_oth (.int .i64 u) B1.out (show b1 ≠ b from (by have e1 := HN.out.1; have e3 := HX3.out; omega))), (setCell_oth (.int .i64 u) B2.out (show b2 ≠ b from (by have e2 := HN.out.2.1; have e3 := HX3.out; omega))), (setCell_got (o := 6) (.int .i64 u) B3.out), (setCell_oth (.int .i64 u) B4.out HM4_3.out.symm), (OO.out.setCell (.inl (by simp)) _)⟩ ?_
      rintro w5 ⟨g1, g2, g3, g4, ho⟩
      clear k1 k2 k3 k4
      replace B1 := Lib.hid g1; replace B2 := Lib.hid g2; replace B3 := Lib.hid g3; replace B4 := Lib.hid g4; replace OO := Lib.hid ho
      clear ho g1 g2 g3 g4
      have k1 := c_13 B1.out; have k2 := c_6 B2.out; have k3 := c_13 B3.out; have k4 := c_6 B4.out
      go_wp2
      have HD := setCell_got (o := 5) (.int .i64 0) (setCell_got (o := 4) (.int .i64 0) (setCell_got (o := 3) (.int .i64 0) (setCell_got (o := 2) (.int .i64 0) (setCell_got (o := 1) (.string ⟨#[]⟩) (setCell_got (o := 0) (.int .i64 1) (B2.out))))))
      have e0 := cell_got HD 0; have e1 := cell_got HD 1; have e2 := cell_got HD 2; have e3 := cell_got HD 3; have e4 := cell_got HD 4; have e5 := cell_got HD 5; have le := got_lt HD
      refine bodyPost_ret (v := .agg #[.int .i64 1, .string ⟨#[]⟩, .int .i64 0, .int .i64 0, .int .i64 0, .int .i64 0]) (by simp [results, Tryz.results41, go_sem, e0, e1, e2, e3, e4, e5]) rfl ⟨rfl, ⟨_, _, _, _, _, _, _, _, (setCell_oth (.int .i64 0) (setCell_oth (.int .i64 0) (setCell_oth (.int .i64 0) (setCell_oth (.int .i64 0) (setCell_oth (.string ⟨#[]⟩) (setCell_oth (.int .i64 1) B3.out (show b ≠ b2 from (by have e3 := HX3.out; have e2 := HN.out.2.1; omega))) (show b ≠ b2 from (by have e3 := HX3.out; have e2 := HN.out.2.1; omega))) (show b ≠ b2 from (by have e3 := HX3.out; have e2 := HN.out.2.1; omega))) (show b ≠ b2 from (by have e3 := HX3.out; have e2 := HN.out.2.1; omega))) (show b ≠ b2 from (by have e3 := HX3.out; have e2 := HN.out.2.1; omega))) (show b ≠ b2 from (by have e3 := HX3.out; have e2 := HN.out.2.1; omega)))⟩, ((((((OO.out.setCell (.inr HN.out.2.1) _).setCell (.inr HN.out.2.1) _).setCell (.inr HN.out.2.1) _).setCell (.inr HN.out.2.1) _).setCell (.inr HN.out.2.1) _).setCell (.inr HN.out.2.1) _)⟩
    · simp only [refV, hdV, hdK] at HR
      go_enter Tryz.func41, Tryz.ntmps41
      go_upto_region 1 with (fail)
      refine wabs (G := fun w0 => Code.wp _ _ _ _ w0) (R := fun w1 => w1.heap[w.heap.size]? = some (.cells #[.int .i64 p1, .int .i64 p2, .int .i64 p3, .int .i64 p4, .int .i64 p5, .int .i64 p6, .int .u32 p7, .int .u32 p8, .int .u32 p9, .int .u64 pa, .int .u64 pb, .int .u64 pc, .int .u64 pd] 33 (0, 0)) ∧ w1.heap[w.heap.size + 1]? = some (.cells #[.int .i64 0, .string ⟨#[]⟩, .int .i64 0, .int .i64 0, .int .i64 0, .int .i64 0] 41 (0, 0)) ∧ Only [] w w1) ?_ ?_
      · skip
        have k0 := alloc_new w (.cells #[.int .i64 p1, .int .i64 p2, .int .i64 p3, .int .i64 p4, .int .i64 p5, .int .i64 p6, .int .u32 p7, .int .u32 p8, .int .u32 p9, .int .u64 pa, .int .u64 pb, .int .u64 pc, .int .u64 pd] 33)
        have k1 := alloc_new (w.alloc (.cells #[.int .i64 p1, .int .i64 p2, .int .i64 p3, .int .i64 p4, .int .i64 p5, .int .i64 p6, .int .u32 p7, .int .u32 p8, .int .u32 p9, .int .u64 pa, .int .u64 pb, .int .u64 pc, .int .u64 pd] 33)) (.cells #[.int .i64 0, .string ⟨#[]⟩, .int .i64 0, .int .i64 0, .int .i64 0, .int .i64 0] 41)
        simp only [World.size_alloc] at k0 k1
        exact ⟨(alloc_old k0), k1, (((Only.refl [] w).alloc _).alloc _)⟩
      rintro w1 ⟨h1, h2, ho1⟩
      obtain ⟨b1, hb1⟩ : ∃ b, w.heap.size = b := ⟨_, rfl⟩
      obtain ⟨b2, hb2⟩ : ∃ b, w.heap.size + 1 = b := ⟨_, rfl⟩
      have HN : Hid (w.heap.size ≤ b1 ∧ w.heap.size ≤ b2 ∧ b1 ≠ b2 ∧ b2 ≠ b1) := Lib.hid (by omega)
      rw [hb1] at h1
      rw [hb2] at h2
      rw [show w.heap.size + 1 = b2 from hb2, hb1]
      have B1 := Lib.hid h1; have B2 := Lib.hid h2; have OO := Lib.hid ho1
      clear h1 h2 hb1 hb2
      have B3 := Lib.hid (ho1.got hA (by simp)); have HX3 := Lib.hid (got_lt hA)
      replace OO := Lib.hid (ho1.weak (S' := [b]) (by simp))
      clear ho1
      have k1 := c_13 B1.out; have k2 := c_6 B2.out; have k3 := c_13 B3.out
      go_wp2_with fail
      refine (HR.out _ ⟨c0, c1, c2, c3, c4, c5, c6, c7, B3.out⟩).mono ?_
      rintro e w2 ⟨rfl, ho⟩
      clear k1 k2 k3
      replace OO := Lib.hid (OO.out.nil_trans ho); replace B1 := Lib.hid (ho.got B1.out (by simp)); replace B2 := Lib.hid (ho.got B2.out (by simp)); replace B3 := Lib.hid (ho.got B3.out (by simp))
      clear ho
      have k1 := c_13 B1.out; have k2 := c_6 B2.out; have k3 := c_13 B3.out
      go_upto_region 4 with (fail)
      refine alloc_abs (G := fun w0 => Code.wp _ _ _ _ w0) ?_
      intro w3 hb ho hs
      obtain ⟨b4, hbe⟩ : ∃ b, w2.heap.size = b := ⟨_, rfl⟩
      rw [hbe] at hb
      rw [hbe]
      have HN4 : Hid (w.heap.size ≤ b4) := Lib.hid (by rw [← hbe]; exact OO.out.size)
      have HM4_1 : Hid (b1 ≠ b4) := Lib.hid (by omega)
      have HM4_2 : Hid (b2 ≠ b4) := Lib.hid (by omega)
      have HM4_3 : Hid (b ≠ b4) := Lib.hid (by omega)
      clear k1 k2 k3
      replace OO := Lib.hid (OO.out.nil_trans ho); replace B1 := Lib.hid (ho.got B1.out (by simp)); replace B2 := Lib.hid (ho.got B2.out (by simp)); replace B3 := Lib.hid (ho.got B3.out (by simp)); have B4 := Lib.hid hb
      clear hb ho hs hbe
      have k1 := c_13 B1.out; have k2 := c_6 B2.out; have k3 := c_13 B3.out; have k4 := c_6 B4.out
      go_upto_region 6 with (fail)
      have hki : IntKind.i64.wrap 2 = 2 := by decide
      obtain ⟨u, hu⟩ : ∃ u, IntKind.i64.wrap (c2 + 1) = u := ⟨_, rfl⟩
      refine wp_region_grown [0, 1, 2, 3, 4, 5, 6, 7, 8, 9, 10] [11] (by kernel_rfl) (by kernel_rfl) ?_
      simp only [pick, List.map_cons, List.map_nil, List.getD_cons_succ, List.getD_cons_zero]
      iterate 11 (refine wpQuiet_step (fun K hK => ?_); go_simp; refine hK _ ?_; clear hK K)
      refine wpQuiet_nil ?_
      intro w4 hw
      have ho := only_of_plus hw
      clear hw
      clear k1 k2 k3 k4
      replace OO := Lib.hid (OO.out.nil_trans ho); replace B1 := Lib.hid (ho.got B1.out (by simp)); replace B2 := Lib.hid (ho.got B2.out (by simp)); replace B3 := Lib.hid (ho.got B3.out (by simp)); replace B4 := Lib.hid (ho.got B4.out (by simp))
      have k1 := c_13 B1.out; have k2 := c_6 B2.out; have k3 := c_13 B3.out; have k4 := c_6 B4.out
      clear ho
      go_upto_region 7 with (fail)
      refine wabs (G := fun w0 => Code.wp _ _ _ _ w0) (R := fun w5 => w5.heap[b1]? = some (.cells #[.int .i64 p1, .int .i64 p2, .int .i64 p3, .int .i64 p4, .int .i64 p5, .int .i64 p6, .int .u32 p7, .int .u32 p8, .int .u32 p9, .int .u64 pa, .int .u64 pb, .int .u64 pc, .int .u64 pd] 33 (0, 0)) ∧ w5.heap[b2]? = some (.cells #[.int .i64 0, .string ⟨#[]⟩, .int .i64 0, .int .i64 0, .int .i64 0, .int .i64 0] 41 (0, 0)) ∧ w5.heap[b]? = some (.cells #[.int .i64 ver, .int .i64 t1, .int .u64 nonce, .bool pend, .int .u64 xmt, .int .i64 c0, .int .i64 c1, .int .i64 u, .int .i64 c3, .int .i64 c4, .int .i64 c5, .int .i64 c6, .int .i64 c7] 155 (0, 0)) ∧ w5.heap[b4]? = some (.cells #[.int .i64 2, .string ⟨#[]⟩, .int .i64 0, .int .i64 0, .int .i64 0, .int .i64 0] 41 (0, 0)) ∧ Only [b] w w5) ⟨(setCell_oth (.int .i64 u) B1.out (show b1 ≠ b from (by have e1 := HN.out.1; have e3 := HX3.out; omega))), (setCell_oth (.int .i64 u) B2.out (show b2 ≠ b from (by have e2 := HN.out.2.1; have e3 := HX3.out; omega))), (setCell_got (o := 7) (.int .i64 u) B3.out), (setCell_oth (.int .i64 u) B4.out HM4_3.out.symm), (OO.out.setCell (.inl (by simp)) _)⟩ ?_
      rintro w5 ⟨g1, g2, g3, g4, ho⟩
      clear k1 k2 k3 k4
      replace B1 := Lib.hid g1; replace B2 := Lib.hid g2; replace B3 := Lib.hid g3; replace B4 := Lib.hid g4; replace OO := Lib.hid ho
      clear ho g1 g2 g3 g4
      have k1 := c_13 B1.out; have k2 := c_6 B2.out; have k3 := c_13 B3.out; have k4 := c_6 B4.out
      go_wp2
      have HD := setCell_got (o := 5) (.int .i64 0) (setCell_got (o := 4) (.int .i64 0) (setCell_got (o := 3) (.int .i64 0) (setCell_got (o := 2) (.int .i64 0) (setCell_got (o := 1) (.string ⟨#[]⟩) (setCell_got (o := 0) (.int .i64 2) (B2.out))))))
      have e0 := cell_got HD 0; have e1 := cell_got HD 1; have e2 := cell_got HD 2; have e3 := cell_got HD 3; have e4 := cell_got HD 4; have e5 := cell_got HD 5; have le := got_lt HD
      refine bodyPost_ret (v := .agg #[.int .i64 2, .string ⟨#[]⟩, .int .i64 0, .int .i64 0, .int .i64 0, .int .i64 0]) (by simp [results, Tryz.results41, go_sem, e0, e1, e2, e3, e4, e5]) rfl ⟨rfl, ⟨_, _, _, _, _, _, _, _, (setCell_oth (.int .i64 0) (setCell_oth (.int .i64 0) (setCell_oth (.int .i64 0) (setCell_oth (.int .i64 0) (setCell_oth (.string ⟨#[]⟩) (setCell_oth (.int .i64 2) B3.out (show b ≠ b2 from (by have e3 := HX3.out; have e2 := HN.out.2.1; omega))) (show b ≠ b2 from (by have e3 := HX3.out; have e2 := HN.out.2.1; omega))) (show b ≠ b2 from (by have e3 := HX3.out; have e2 := HN.out.2.1; omega))) (show b ≠ b2 from (by have e3 := HX3.out; have e2 := HN.out.2.1; omega))) (show b ≠ b2 from (by have e3 := HX3.out; have e2 := HN.out.2.1; omega))) (show b ≠ b2 from (by have e3 := HX3.out; have e2 := HN.out.2.1; omega)))⟩, ((((((OO.out.setCell (.inr HN.out.2.1) _).setCell (.inr HN.out.2.1) _).setCell (.inr HN.out.2.1) _).setCell (.inr HN.out.2.1) _).setCell (.inr HN.out.2.1) _).setCell (.inr HN.out.2.1) _)⟩
    · simp only [refV, hdV, hdK] at HR
      go_enter Tryz.func41, Tryz.ntmps41
      go_upto_region 1 with (fail)
      refine wabs (G := fun w0 => Code.wp _ _ _ _ w0) (R := fun w1 => w1.heap[w.heap.size]? = some (.cells #[.int .i64 p1, .int .i64 p2, .int .i64 p3, .int .i64 p4, .int .i64 p5, .int .i64 p6, .int .u32 p7, .int .u32 p8, .int .u32 p9, .int .u64 pa, .int .u64 pb, .int .u64 pc, .int .u64 pd] 33 (0, 0)) ∧ w1.heap[w.heap.size + 1]? = some (.cells #[.int .i64 0, .string ⟨#[]⟩, .int .i64 0, .int .i64 0, .int .i64 0, .int .i64 0] 41 (0, 0)) ∧ Only [] w w1) ?_ ?_
      · skip
        have k0 := alloc_new w (.cells #[.int .i64 p1, .int .i64 p2, .int .i64 p3, .int .i64 p4, .int .i64 p5, .int .i64 p6, .int .u32 p7, .int .u32 p8, .int .u32 p9, .int .u64 pa, .int .u64 pb, .int .u64 pc, .int .u64 pd] 33)
        have k1 := alloc_new (w.alloc (.cells #[.int .i64 p1, .int .i64 p2, .int .i64 p3, .int .i64 p4, .int .i64 p5, .int .i64 p6, .int .u32 p7, .int .u32 p8, .int .u32 p9, .int .u64 pa, .int .u64 pb, .int .u64 pc, .int .u64 pd] 33)) (.cells #[.int .i64 0, .string ⟨#[]⟩, .int .i64 0, .int .i64 0, .int .i64 0, .int .i64 0] 41)
        simp only [World.size_alloc] at k0 k1
        exact ⟨(alloc_old k0), k1, (((Only.refl [] w).alloc _).alloc _)⟩
      rintro w1 ⟨h1, h2, ho1⟩
      obtain ⟨b1, hb1⟩ : ∃ b, w.heap.size = b := ⟨_, rfl⟩
      obtain ⟨b2, hb2⟩ : ∃ b, w.heap.size + 1 = b := ⟨_, rfl⟩
      have HN : Hid (w.heap.size ≤ b1 ∧ w.heap.size ≤ b2 ∧ b1 ≠ b2 ∧ b2 ≠ b1) := Lib.hid (by omega)
      rw [hb1] at h1
      rw [hb2] at h2
      rw [show w.heap.size + 1 = b2 from hb2, hb1]
      have B1 := Lib.hid h1; have B2 := Lib.hid h2; have OO := Lib.hid ho1
      clear h1 h2 hb1 hb2
      have B3 := Lib.hid (ho1.got hA (by simp)); have HX3 := Lib.hid (got_lt hA)
      replace OO := Lib.hid (ho1.weak (S' := [b]) (by simp))
      clear ho1
      have k1 := c_13 B1.out; have k2 := c_6 B2.out; have k3 := c_13 B3.out
      go_wp2_with fail
      refine (HR.out _ ⟨c0, c1, c2, c3, c4, c5, c6, c7, B3.out⟩).mono ?_
      rintro e w2 ⟨rfl, ho⟩
      clear k1 k2 k3
      replace OO := Lib.hid (OO.out.nil_trans ho); replace B1 := Lib.hid (ho.got B1.out (by simp)); replace B2 := Lib.hid (ho.got B2.out (by simp)); replace B3 := Lib.hid (ho.got B3.out (by simp))
      clear ho
      have k1 := c_13 B1.out; have k2 := c_6 B2.out; have k3 := c_13 B3.out
      go_upto_region 4 with (fail)
      refine alloc_abs (G := fun w0 => Code.wp _ _ _ _ w0) ?_
      intro w3 hb ho hs
      obtain ⟨b4, hbe⟩ : ∃ b, w2.heap.size = b := ⟨_, rfl⟩
      rw [hbe] at hb
      rw [hbe]
      have HN4 : Hid (w.heap.size ≤ b4) := Lib.hid (by rw [← hbe]; exact OO.out.size)
      have HM4_1 : Hid (b1 ≠ b4) := Lib.hid (by omega)
      have HM4_2 : Hid (b2 ≠ b4) := Lib.hid (by omega)
      have HM4_3 : Hid (b ≠ b4) := Lib.hid (by omega)
      clear k1 k2 k3
      replace OO := Lib.hid (OO.out.nil_trans ho); replace B1 := Lib.hid (ho.got B1.out (by simp)); replace B2 := Lib.hid (ho.got B2.out (by simp)); replace B3 := Lib.hid (ho.got B3.out (by simp)); have B4 := Lib.hid hb
      clear hb ho hs hbe
      have k1 := c_13 B1.out; have k2 := c_6 B2.out; have k3 := c_13 B3.out; have k4 := c_6 B4.out
      go_upto_region 6 with (fail)
      have hki : IntKind.i64.wrap 3 = 3 := by decide
      obtain ⟨u, hu⟩ : ∃ u, IntKind.i64.wrap (c3 + 1) = u := ⟨_, rfl⟩
      refine wp_region_grown [0, 1, 2, 3, 4, 5, 6, 7, 8, 9, 10] [11] (by kernel_rfl) (by kernel_rfl) ?_
      simp only [pick, List.map_cons, List.map_nil, List.getD_cons_succ, List.getD_cons_zero]
      iterate 11 (refine wpQuiet_step (fun K hK => ?_); go_simp; refine hK _ ?_; clear hK K)
      refine wpQuiet_nil ?_
      intro w4 hw
      have ho := only_of_plus hw
      clear hw
      clear k1 k2 k3 k4
      replace OO := Lib.hid (OO.out.nil_trans ho); replace B1 := Lib.hid (ho.got B1.out (by simp)); replace B2 := Lib.hid (ho.got B2.out (by simp)); replace B3 := Lib.hid (ho.got B3.out (by simp)); replace B4 := Lib.hid (ho.got B4.out (by simp))
      have k1 := c_13 B1.out; have k2 := c_6 B2.out; have k3 := c_13 B3.out; have k4 := c_6 B4.out
      clear ho
      go_upto_region 7 with (fail)
      refine wabs (G := fun w0 => Code.wp _ _ _ _ w0) (R := fun w5 => w5.heap[b1]? = some (.cells #[.int .i64 p1, .int .i64 p2, .int .i64 p3, .int .i64 p4, .int .i64 p5, .int .i64 p6, .int .u32 p7, .int .u32 p8, .int .u32 p9, .int .u64 pa, .int .u64 pb, .int .u64 pc, .int .u64 pd] 33 (0, 0)) ∧ w5.heap[b2]? = some (.cells #[.int .i64 0, .string ⟨#[]⟩, .int .i64 0, .int .i64 0, .int .i64 0, .int .i64 0] 41 (0, 0)) ∧ w5.heap[b]? = some (.cells #[.int .i64 ver, .int .i64 t1, .int .u64 nonce, .bool pend, .int .u64 xmt, .int .i64 c0, .int .i64 c1, .int .i64 c2, .int .i64 u, .int .i64 c4, .int .i64 c5, .int .i64 c6, .int .i64 c7] 155 (0, 0)) ∧ w5.heap[b4]? = some (.cells #[.int .i64 3, .string ⟨#[]⟩, .int .i64 0, .int .i64 0, .int .i64 0, .int .i64 0] 41 (0, 0)) ∧ Only [b] w w5) ⟨(setCell_oth (.int .i64 u) B1.out (show b1 ≠ b from (by have e1 := HN.out.1; have e3 := HX3.out; omega))), (setCell_oth (.int .i64 u) B2.out (show b2 ≠ b from (by have e2 := HN.out.2.1; have e3 := HX3.out; omega))), (setCell_got (o := 8) (.int .i64 u) B3.out), (setCell_oth (.int .i64 u) B4.out HM4_3.out.symm), (OO.out.setCell (.inl (by simp)) _)⟩ ?_
      rintro w5 ⟨g1, g2, g3, g4, ho⟩
      clear k1 k2 k3 k4
      replace B1 := Lib.hid g1; replace B2 := Lib.hid g2; replace B3 := Lib.hid g3; replace B4 := Lib.hid g4; replace OO := Lib.hid ho
      clear ho g1 g2 g3 g4
      have k1 := c_13 B1.out; have k2 := c_6 B2.out; have k3 := c_13 B3.out; have k4 := c_6 B4.out
      go_wp2
      have HD := setCell_got (o := 5) (.int .i64 0) (setCell_got (o := 4) (.int .i64 0) (setCell_got (o := 3) (.int .i64 0) (setCell_got (o := 2) (.int .i64 0) (setCell_got (o := 1) (.string ⟨#[]⟩) (setCell_got (o := 0) (.int .i64 3) (B2.out))))))
      have e0 := cell_got HD 0; have e1 := cell_got HD 1; have e2 := cell_got HD 2; have e3 := cell_got HD 3; have e4 := cell_got HD 4; have e5 := cell_got HD 5; have le := got_lt HD
      refine bodyPost_ret (v := .agg #[.int .i64 3, .string ⟨#[]⟩, .int .i64 0, .int .i64 0, .int .i64 0, .int .i64 0]) (by simp [results, Tryz.results41, go_sem, e0, e1, e2, e3, e4, e5]) rfl ⟨rfl, ⟨_, _, _, _, _, _, _, _, (setCell_oth (.int .i64 0) (setCell_oth (.int .i64 0) (setCell_oth (.int .i64 0) (setCell_oth (.int .i64 0) (setCell_oth (.string ⟨#[]⟩) (setCell_oth (.int .i64 3) B3.out (show b ≠ b2 from (by have e3 := HX3.out; have e2 := HN.out.2.1; omega))) (show b ≠ b2 from (by have e3 := HX3.out; have e2 := HN.out.2.1; omega))) (show b ≠ b2 from (by have e3 := HX3.out; have e2 := HN.out.2.1; omega))) (show b ≠ b2 from (by have e3 := HX3.out; have e2 := HN.out.2.1; omega))) (show b ≠ b2 from (by have e3 := HX3.out; have e2 := HN.out.2.1; omega))) (show b ≠ b2 from (by have e3 := HX3.out; have e2 := HN.out.2.1; omega)))⟩, ((((((OO.out.setCell (.inr HN.out.2.1) _).setCell (.inr HN.out.2.1) _).setCell (.inr HN.out.2.1) _).setCell (.inr HN.out.2.1) _).setCell (.inr HN.out.2.1) _).setCell (.inr HN.out.2.1) _)⟩
  | none =>
    obtain rfl : res = (ac, ⟨ver, t1, nonce, false, pd⟩) := by rw [HE.out]
    have HA2 := Lib.hid (HAC.out (hrt rfl))
    clear HE hrk hrt HAC
    obtain ⟨kd, cd, q1, q2, q3, q4⟩ := ac
    unfold hdV at HA2 ⊢
    dsimp only at HA2 hk ⊢
    rcases hk with rfl | rfl | rfl | rfl
    · simp only [refV, hdV, hdK] at HR
      go_enter Tryz.func41, Tryz.ntmps41
      go_upto_region 1 with (fail)
      refine wabs (G := fun w0 => Code.wp _ _ _ _ w0) (R := fun w1 => w1.heap[w.heap.size]? = some (.cells #[.int .i64 p1, .int .i64 p2, .int .i64 p3, .int .i64 p4, .int .i64 p5, .int .i64 p6, .int .u32 p7, .int .u32 p8, .int .u32 p9, .int .u64 pa, .int .u64 pb, .int .u64 pc, .int .u64 pd] 33 (0, 0)) ∧ w1.heap[w.heap.size + 1]? = some (.cells #[.int .i64 0, .string ⟨#[]⟩, .int .i64 0, .int .i64 0, .int .i64 0, .int .i64 0] 41 (0, 0)) ∧ Only [] w w1) ?_ ?_
      · skip
        have k0 := alloc_new w (.cells #[.int .i64 p1, .int .i64 p2, .int .i64 p3, .int .i64 p4, .int .i64 p5, .int .i64 p6, .int .u32 p7, .int .u32 p8, .int .u32 p9, .int .u64 pa, .int .u64 pb, .int .u64 pc, .int .u64 pd] 33)
        have k1 := alloc_new (w.alloc (.cells #[.int .i64 p1, .int .i64 p2, .int .i64 p3, .int .i64 p4, .int .i64 p5, .int .i64 p6, .int .u32 p7, .int .u32 p8, .int .u32 p9, .int .u64 pa, .int .u64 pb, .int .u64 pc, .int .u64 pd] 33)) (.cells #[.int .i64 0, .string ⟨#[]⟩, .int .i64 0, .int .i64 0, .int .i64 0, .int .i64 0] 41)
        simp only [World.size_alloc] at k0 k1
        exact ⟨(alloc_old k0), k1, (((Only.refl [] w).alloc _).alloc _)⟩
      rintro w1 ⟨h1, h2, ho1⟩
      obtain ⟨b1, hb1⟩ : ∃ b, w.heap.size = b := ⟨_, rfl⟩
      obtain ⟨b2, hb2⟩ : ∃ b, w.heap.size + 1 = b := ⟨_, rfl⟩
      have HN : Hid (w.heap.size ≤ b1 ∧ w.heap.size ≤ b2 ∧ b1 ≠ b2 ∧ b2 ≠ b1) := Lib.hid (by omega)
      rw [hb1] at h1
      rw [hb2] at h2
      rw [show w.heap.size + 1 = b2 from hb2, hb1]
      have B1 := Lib.hid h1; have B2 := Lib.hid h2; have OO := Lib.hid ho1
      clear h1 h2 hb1 hb2
      have B3 := Lib.hid (ho1.got hA (by simp)); have HX3 := Lib.hid (got_lt hA)
      replace OO := Lib.hid (ho1.weak (S' := [b]) (by simp))
      clear ho1
      have k1 := c_13 B1.out; have k2 := c_6 B2.out; have k3 := c_13 B3.out
      go_wp2_with fail
      refine (HR.out _ ⟨c0, c1, c2, c3, c4, c5, c6, c7, B3.out⟩).mono ?_
      rintro e w2 ⟨rfl, ho⟩
      clear k1 k2 k3
      replace OO := Lib.hid (OO.out.nil_trans ho); replace B1 := Lib.hid (ho.got B1.out (by simp)); replace B2 := Lib.hid (ho.got B2.out (by simp)); replace B3 := Lib.hid (ho.got B3.out (by simp))
      clear ho
      have k1 := c_13 B1.out; have k2 := c_6 B2.out; have k3 := c_13 B3.out
      go_upto_region 4 with (fail)
      refine alloc_abs (G := fun w0 => Code.wp _ _ _ _ w0) ?_
      intro w3 hb ho hs
      obtain ⟨b4, hbe⟩ : ∃ b, w2.heap.size = b := ⟨_, rfl⟩
      rw [hbe] at hb
      rw [hbe]
      have HN4 : Hid (w.heap.size ≤ b4) := Lib.hid (by rw [← hbe]; exact OO.out.size)
      have HM4_1 : Hid (b1 ≠ b4) := Lib.hid (by omega)
      have HM4_2 : Hid (b2 ≠ b4) := Lib.hid (by omega)
      have HM4_3 : Hid (b ≠ b4) := Lib.hid (by omega)
      clear k1 k2 k3
      replace OO := Lib.hid (OO.out.nil_trans ho); replace B1 := Lib.hid (ho.got B1.out (by simp)); replace B2 := Lib.hid (ho.got B2.out (by simp)); replace B3 := Lib.hid (ho.got B3.out (by simp)); have B4 := Lib.hid hb
      clear hb ho hs hbe
      have k1 := c_13 B1.out; have k2 := c_6 B2.out; have k3 := c_13 B3.out; have k4 := c_6 B4.out
      go_wp2_with fail
      refine (HA2.out _ ⟨c0, c1, c2, c3, c4, c5, c6, c7, B3.out⟩).mono ?_
      rintro e w4 ⟨rfl, ⟨d0, d1, d2, d3, d4, d5, d6, d7, hA2⟩, ho⟩
      clear k1 k2 k3 k4
      replace OO := Lib.hid (OO.out.trans ho (by simp)); replace B1 := Lib.hid (ho.got B1.out (by simp only [List.mem_cons, List.not_mem_nil, or_false]; exact (show b1 ≠ b from (by have e1 := HN.out.1; have e3 := HX3.out; omega)))); replace B2 := Lib.hid (ho.got B2.out (by simp only [List.mem_cons, List.not_mem_nil, or_false]; exact (show b2 ≠ b from (by have e2 := HN.out.2.1; have e3 := HX3.out; omega)))); replace B3 := Lib.hid hA2; replace B4 := Lib.hid (ho.got B4.out (by simp only [List.mem_cons, List.not_mem_nil, or_false]; exact HM4_3.out.symm))
      clear ho
      have k1 := c_13 B1.out; have k2 := c_6 B2.out; have k3 := c_13 B3.out; have k4 := c_6 B4.out
      go_upto_region 6 with (fail)
      refine wabs (G := fun w0 => Code.wp _ _ _ _ w0) (R := fun w5 => w5.heap[b1]? = some (.cells #[.int .i64 p1, .int .i64 p2, .int .i64 p3, .int .i64 p4, .int .i64 p5, .int .i64 p6, .int .u32 p7, .int .u32 p8, .int .u32 p9, .int .u64 pa, .int .u64 pb, .int .u64 pc, .int .u64 pd] 33 (0, 0)) ∧ w5.heap[b2]? = some (.cells #[.int .i64 0, .string ⟨#[]⟩, .int .i64 0, .int .i64 0, .int .i64 0, .int .i64 0] 41 (0, 0)) ∧ w5.heap[b]? = some (.cells #[.int .i64 ver, .int .i64 t1, .int .u64 nonce, .bool false, .int .u64 pd, .int .i64 d0, .int .i64 d1, .int .i64 d2, .int .i64 d3, .int .i64 d4, .int .i64 d5, .int .i64 d6, .int .i64 d7] 155 (0, 0)) ∧ w5.heap[b4]? = some (.cells #[.int .i64 4, .string cd, .int .i64 q1, .int .i64 q2, .int .i64 q3, .int .i64 q4] 41 (0, 0)) ∧ Only [b] w w5) ⟨(setCell_oth (.int .i64 q4) (setCell_oth (.int .i64 q3) (setCell_oth (.int .i64 q2) (setCell_oth (.int .i64 q1) (setCell_oth (.string cd) (setCell_oth (.int .i64 4) B1.out HM4_1.out) HM4_1.out) HM4_1.out) HM4_1.out) HM4_1.out) HM4_1.out), (setCell_oth (.int .i64 q4) (setCell_oth (.int .i64 q3) (setCell_oth (.int .i64 q2) (setCell_oth (.int .i64 q1) (setCell_oth (.string cd) (setCell_oth (.int .i64 4) B2.out HM4_2.out) HM4_2.out) HM4_2.out) HM4_2.out) HM4_2.out) HM4_2.out), (setCell_oth (.int .i64 q4) (setCell_oth (.int .i64 q3) (setCell_oth (.int .i64 q2) (setCell_oth (.int .i64 q1) (setCell_oth (.string cd) (setCell_oth (.int .i64 4) B3.out HM4_3.out) HM4_3.out) HM4_3.out) HM4_3.out) HM4_3.out) HM4_3.out), (setCell_got (o := 5) (.int .i64 q4) (setCell_got (o := 4) (.int .i64 q3) (setCell_got (o := 3) (.int .i64 q2) (setCell_got (o := 2) (.int .i64 q1) (setCell_got (o := 1) (.string cd) (setCell_got (o := 0) (.int .i64 4) B4.out)))))), ((((((OO.out.setCell (.inr HN4.out) _).setCell (.inr HN4.out) _).setCell (.inr HN4.out) _).setCell (.inr HN4.out) _).setCell (.inr HN4.out) _).setCell (.inr HN4.out) _)⟩ ?_
      rintro w5 ⟨g1, g2, g3, g4, ho⟩
      clear k1 k2 k3 k4
      replace B1 := Lib.hid g1; replace B2 := Lib.hid g2; replace B3 := Lib.hid g3; replace B4 := Lib.hid g4; replace OO := Lib.hid ho
      clear ho g1 g2 g3 g4
      have k1 := c_13 B1.out; have k2 := c_6 B2.out; have k3 := c_13 B3.out; have k4 := c_6 B4.out
      have hki : IntKind.i64.wrap 4 = 4 := by decide
      obtain ⟨u, hu⟩ : ∃ u, IntKind.i64.wrap (d4 + 1) = u := ⟨_, rfl⟩
      refine wp_region_grown [0, 1, 2, 3, 4, 5, 6, 7, 8, 9, 10] [11] (by kernel_rfl) (by kernel_rfl) ?_
      simp only [pick, List.map_cons, List.map_nil, List.getD_cons_succ, List.getD_cons_zero]
      iterate 11 (refine wpQuiet_step (fun K hK => ?_); go_simp; refine hK _ ?_; clear hK K)
      refine wpQuiet_nil ?_
      intro w6 hw
      have ho := only_of_plus hw
      clear hw
      clear k1 k2 k3 k4
      replace OO := Lib.hid (OO.out.nil_trans ho); replace B1 := Lib.hid (ho.got B1.out (by simp)); replace B2 := Lib.hid (ho.got B2.out (by simp)); replace B3 := Lib.hid (ho.got B3.out (by simp)); replace B4 := Lib.hid (ho.got B4.out (by simp))
      have k1 := c_13 B1.out; have k2 := c_6 B2.out; have k3 := c_13 B3.out; have k4 := c_6 B4.out
      clear ho
      go_upto_region 7 with (fail)
      refine wabs (G := fun w0 => Code.wp _ _ _ _ w0) (R := fun w7 => w7.heap[b1]? = some (.cells #[.int .i64 p1, .int .i64 p2, .int .i64 p3, .int .i64 p4, .int .i64 p5, .int .i64 p6, .int .u32 p7, .int .u32 p8, .int .u32 p9, .int .u64 pa, .int .u64 pb, .int .u64 pc, .int .u64 pd] 33 (0, 0)) ∧ w7.heap[b2]? = some (.cells #[.int .i64 0, .string ⟨#[]⟩, .int .i64 0, .int .i64 0, .int .i64 0, .int .i64 0] 41 (0, 0)) ∧ w7.heap[b]? = some (.cells #[.int .i64 ver, .int .i64 t1, .int .u64 nonce, .bool false, .int .u64 pd, .int .i64 d0, .int .i64 d1, .int .i64 d2, .int .i64 d3, .int .i64 u, .int .i64 d5, .int .i64 d6, .int .i64 d7] 155 (0, 0)) ∧ w7.heap[b4]? = some (.cells #[.int .i64 4, .string cd, .int .i64 q1, .int .i64 q2, .int .i64 q3, .int .i64 q4] 41 (0, 0)) ∧ Only [b] w w7) ⟨(setCell_oth (.int .i64 u) B1.out (show b1 ≠ b from (by have e1 := HN.out.1; have e3 := HX3.out; omega))), (setCell_oth (.int .i64 u) B2.out (show b2 ≠ b from (by have e2 := HN.out.2.1; have e3 := HX3.out; omega))), (setCell_got (o := 9) (.int .i64 u) B3.out), (setCell_oth (.int .i64 u) B4.out HM4_3.out.symm), (OO.out.setCell (.inl (by simp)) _)⟩ ?_
      rintro w7 ⟨g1, g2, g3, g4, ho⟩
      clear k1 k2 k3 k4
      replace B1 := Lib.hid g1; replace B2 := Lib.hid g2; replace B3 := Lib.hid g3; replace B4 := Lib.hid g4; replace OO := Lib.hid ho
      clear ho g1 g2 g3 g4
      have k1 := c_13 B1.out; have k2 := c_6 B2.out; have k3 := c_13 B3.out; have k4 := c_6 B4.out
      go_wp2
      have HD := setCell_got (o := 5) (.int .i64 q4) (setCell_got (o := 4) (.int .i64 q3) (setCell_got (o := 3) (.int .i64 q2) (setCell_got (o := 2) (.int .i64 q1) (setCell_got (o := 1) (.string cd) (setCell_got (o := 0) (.int .i64 4) (B2.out))))))
      have e0 := cell_got HD 0; have e1 := cell_got HD 1; have e2 := cell_got HD 2; have e3 := cell_got HD 3; have e4 := cell_got HD 4; have e5 := cell_got HD 5; have le := got_lt HD
      refine bodyPost_ret (v := .agg #[.int .i64 4, .string cd, .int .i64 q1, .int .i64 q2, .int .i64 q3, .int .i64 q4]) (by simp [results, Tryz.results41, go_sem, e0, e1, e2, e3, e4, e5]) rfl ⟨rfl, ⟨_, _, _, _, _, _, _, _, (setCell_oth (.int .i64 q4) (setCell_oth (.int .i64 q3) (setCell_oth (.int .i64 q2) (setCell_oth (.int .i64 q1) (setCell_oth (.string cd) (setCell_oth (.int .i64 4) B3.out (show b ≠ b2 from (by have e3 := HX3.out; have e2 := HN.out.2.1; omega))) (show b ≠ b2 from (by have e3 := HX3.out; have e2 := HN.out.2.1; omega))) (show b ≠ b2 from (by have e3 := HX3.out; have e2 := HN.out.2.1; omega))) (show b ≠ b2 from (by have e3 := HX3.out; have e2 := HN.out.2.1; omega))) (show b ≠ b2 from (by have e3 := HX3.out; have e2 := HN.out.2.1; omega))) (show b ≠ b2 from (by have e3 := HX3.out; have e2 := HN.out.2.1; omega)))⟩, ((((((OO.out.setCell (.inr HN.out.2.1) _).setCell (.inr HN.out.2.1) _).setCell (.inr HN.out.2.1) _).setCell (.inr HN.out.2.1) _).setCell (.inr HN.out.2.1) _).setCell (.inr HN.out.2.1) _)⟩
    · simp only [refV, hdV, hdK] at HR
      go_enter Tryz.func41, Tryz.ntmps41
      go_upto_region 1 with (fail)
      refine wabs (G := fun w0 => Code.wp _ _ _ _ w0) (R := fun w1 => w1.heap[w.heap.size]? = some (.cells #[.int .i64 p1, .int .i64 p2, .int .i64 p3, .int .i64 p4, .int .i64 p5, .int .i64 p6, .int .u32 p7, .int .u32 p8, .int .u32 p9, .int .u64 pa, .int .u64 pb, .int .u64 pc, .int .u64 pd] 33 (0, 0)) ∧ w1.heap[w.heap.size + 1]? = some (.cells #[.int .i64 0, .string ⟨#[]⟩, .int .i64 0, .int .i64 0, .int .i64 0, .int .i64 0] 41 (0, 0)) ∧ Only [] w w1) ?_ ?_
      · skip
        have k0 := alloc_new w (.cells #[.int .i64 p1, .int .i64 p2, .int .i64 p3, .int .i64 p4, .int .i64 p5, .int .i64 p6, .int .u32 p7, .int .u32 p8, .int .u32 p9, .int .u64 pa, .int .u64 pb, .int .u64 pc, .int .u64 pd] 33)
        have k1 := alloc_new (w.alloc (.cells #[.int .i64 p1, .int .i64 p2, .int .i64 p3, .int .i64 p4, .int .i64 p5, .int .i64 p6, .int .u32 p7, .int .u32 p8, .int .u32 p9, .int .u64 pa, .int .u64 pb, .int .u64 pc, .int .u64 pd] 33)) (.cells #[.int .i64 0, .string ⟨#[]⟩, .int .i64 0, .int .i64 0, .int .i64 0, .int .i64 0] 41)
        simp only [World.size_alloc] at k0 k1
        exact ⟨(alloc_old k0), k1, (((Only.refl [] w).alloc _).alloc _)⟩
      rintro w1 ⟨h1, h2, ho1⟩
      obtain ⟨b1, hb1⟩ : ∃ b, w.heap.size = b := ⟨_, rfl⟩
      obtain ⟨b2, hb2⟩ : ∃ b, w.heap.size + 1 = b := ⟨_, rfl⟩
      have HN : Hid (w.heap.size ≤ b1 ∧ w.heap.size ≤ b2 ∧ b1 ≠ b2 ∧ b2 ≠ b1) := Lib.hid (by omega)
      rw [hb1] at h1
      rw [hb2] at h2
      rw [show w.heap.size + 1 = b2 from hb2, hb1]
      have B1 := Lib.hid h1; have B2 := Lib.hid h2; have OO := Lib.hid ho1
      clear h1 h2 hb1 hb2
      have B3 := Lib.hid (ho1.got hA (by simp)); have HX3 := Lib.hid (got_lt hA)
      replace OO := Lib.hid (ho1.weak (S' := [b]) (by simp))
      clear ho1
      have k1 := c_13 B1.out; have k2 := c_6 B2.out; have k3 := c_13 B3.out
      go_wp2_with fail
      refine (HR.out _ ⟨c0, c1, c2, c3, c4, c5, c6, c7, B3.out⟩).mono ?_
      rintro e w2 ⟨rfl, ho⟩
      clear k1 k2 k3
      replace OO := Lib.hid (OO.out.nil_trans ho); replace B1 := Lib.hid (ho.got B1.out (by simp)); replace B2 := Lib.hid (ho.got B2.out (by simp)); replace B3 := Lib.hid (ho.got B3.out (by simp))
      clear ho
      have k1 := c_13 B1.out; have k2 := c_6 B2.out; have k3 := c_13 B3.out
      go_upto_region 4 with (fail)
      refine alloc_abs (G := fun w0 => Code.wp _ _ _ _ w0) ?_
      intro w3 hb ho hs
      obtain ⟨b4, hbe⟩ : ∃ b, w2.heap.size = b := ⟨_, rfl⟩
      rw [hbe] at hb
      rw [hbe]
      have HN4 : Hid (w.heap.size ≤ b4) := Lib.hid (by rw [← hbe]; exact OO.out.size)
      have HM4_1 : Hid (b1 ≠ b4) := Lib.hid (by omega)
      have HM4_2 : Hid (b2 ≠ b4) := Lib.hid (by omega)
      have HM4_3 : Hid (b ≠ b4) := Lib.hid (by omega)
      clear k1 k2 k3
      replace OO := Lib.hid (OO.out.nil_trans ho); replace B1 := Lib.hid (ho.got B1.out (by simp)); replace B2 := Lib.hid (ho.got B2.out (by simp)); replace B3 := Lib.hid (ho.got B3.out (by simp)); have B4 := Lib.hid hb
      clear hb ho hs hbe
      have k1 := c_13 B1.out; have k2 := c_6 B2.out; have k3 := c_13 B3.out; have k4 := c_6 B4.out
      go_wp2_with fail
      refine (HA2.out _ ⟨c0, c1, c2, c3, c4, c5, c6, c7, B3.out⟩).mono ?_
      rintro e w4 ⟨rfl, ⟨d0, d1, d2, d3, d4, d5, d6, d7, hA2⟩, ho⟩
      clear k1 k2 k3 k4
      replace OO := Lib.hid (OO.out.trans ho (by simp)); replace B1 := Lib.hid (ho.got B1.out (by simp only [List.mem_cons, List.not_mem_nil, or_false]; exact (show b1 ≠ b from (by have e1 := HN.out.1; have e3 := HX3.out; omega)))); replace B2 := Lib.hid (ho.got B2.out (by simp only [List.mem_cons, List.not_mem_nil, or_false]; exact (show b2 ≠ b from (by have e2 := HN.out.2.1; have e3 := HX3.out; omega)))); replace B3 := Lib.hid hA2; replace B4 := Lib.hid (ho.got B4.out (by simp only [List.mem_cons, List.not_mem_nil, or_false]; exact HM4_3.out.symm))
      clear ho
      have k1 := c_13 B1.out; have k2 := c_6 B2.out; have k3 := c_13 B3.out; have k4 := c_6 B4.out
      go_upto_region 6 with (fail)
      refine wabs (G := fun w0 => Code.wp _ _ _ _ w0) (R := fun w5 => w5.heap[b1]? = some (.cells #[.int .i64 p1, .int .i64 p2, .int .i64 p3, .int .i64 p4, .int .i64 p5, .int .i64 p6, .int .u32 p7, .int .u32 p8, .int .u32 p9, .int .u64 pa, .int .u64 pb, .int .u64 pc, .int .u64 pd] 33 (0, 0)) ∧ w5.heap[b2]? = some (.cells #[.int .i64 0, .string ⟨#[]⟩, .int .i64 0, .int .i64 0, .int .i64 0, .int .i64 0] 41 (0, 0)) ∧ w5.heap[b]? = some (.cells #[.int .i64 ver, .int .i64 t1, .int .u64 nonce, .bool false, .int .u64 pd, .int .i64 d0, .int .i64 d1, .int .i64 d2, .int .i64 d3, .int .i64 d4, .int .i64 d5, .int .i64 d6, .int .i64 d7] 155 (0, 0)) ∧ w5.heap[b4]? = some (.cells #[.int .i64 5, .string cd, .int .i64 q1, .int .i64 q2, .int .i64 q3, .int .i64 q4] 41 (0, 0)) ∧ Only [b] w w5) ⟨(setCell_oth (.int .i64 q4) (setCell_oth (.int .i64 q3) (setCell_oth (.int .i64 q2) (setCell_oth (.int .i64 q1) (setCell_oth (.string cd) (setCell_oth (.int .i64 5) B1.out HM4_1.out) HM4_1.out) HM4_1.out) HM4_1.out) HM4_1.out) HM4_1.out), (setCell_oth (.int .i64 q4) (setCell_oth (.int .i64 q3) (setCell_oth (.int .i64 q2) (setCell_oth (.int .i64 q1) (setCell_oth (.string cd) (setCell_oth (.int .i64 5) B2.out HM4_2.out) HM4_2.out) HM4_2.out) HM4_2.out) HM4_2.out) HM4_2.out), (setCell_oth (.int .i64 q4) (setCell_oth (.int .i64 q3) (setCell_oth (.int .i64 q2) (setCell_oth (.int .i64 q1) (setCell_oth (.string cd) (setCell_oth (.int .i64 5) B3.out HM4_3.out) HM4_3.out) HM4_3.out) HM4_3.out) HM4_3.out) HM4_3.out), (setCell_got (o := 5) (.int .i64 q4) (setCell_got (o := 4) (.int .i64 q3) (setCell_got (o := 3) (.int .i64 q2) (setCell_got (o := 2) (.int .i64 q1) (setCell_got (o := 1) (.string cd) (setCell_got (o := 0) (.int .i64 5) B4.out)))))), ((((((OO.out.setCell (.inr HN4.out) _).setCell (.inr HN4.out) _).setCell (.inr HN4.out) _).setCell (.inr HN4.out) _).setCell (.inr HN4.out) _).setCell (.inr HN4.out) _)⟩ ?_
      rintro w5 ⟨g1, g2, g3, g4, ho⟩
      clear k1 k2 k3 k4
      replace B1 := Lib.hid g1; replace B2 := Lib.hid g2; replace B3 := Lib.hid g3; replace B4 := Lib.hid g4; replace OO := Lib.hid ho
      clear ho g1 g2 g3 g4
      have k1 := c_13 B1.out; have k2 := c_6 B2.out; have k3 := c_13 B3.out; have k4 := c_6 B4.out
      have hki : IntKind.i64.wrap 5 = 5 := by decide
      obtain ⟨u, hu⟩ : ∃ u, IntKind.i64.wrap (d5 + 1) = u := ⟨_, rfl⟩
      refine wp_region_grown [0, 1, 2, 3, 4, 5, 6, 7, 8, 9, 10] [11] (by kernel_rfl) (by kernel_rfl) ?_
      simp only [pick, List.map_cons, List.map_nil, List.getD_cons_succ, List.getD_cons_zero]
      iterate 11 (refine wpQuiet_step (fun K hK => ?_); go_simp; refine hK _ ?_; clear hK K)
      refine wpQuiet_nil ?_
      intro w6 hw
      have ho := only_of_plus hw
      clear hw
      clear k1 k2 k3 k4
      replace OO := Lib.hid (OO.out.nil_trans ho); replace B1 := Lib.hid (ho.got B1.out (by simp)); replace B2 := Lib.hid (ho.got B2.out (by simp)); replace B3 := Lib.hid (ho.got B3.out (by simp)); replace B4 := Lib.hid (ho.got B4.out (by simp))
      have k1 := c_13 B1.out; have k2 := c_6 B2.out; have k3 := c_13 B3.out; have k4 := c_6 B4.out
      clear ho
      go_upto_region 7 with (fail)
      refine wabs (G := fun w0 => Code.wp _ _ _ _ w0) (R := fun w7 => w7.heap[b1]? = some (.cells #[.int .i64 p1, .int .i64 p2, .int .i64 p3, .int .i64 p4, .int .i64 p5, .int .i64 p6, .int .u32 p7, .int .u32 p8, .int .u32 p9, .int .u64 pa, .int .u64 pb, .int .u64 pc, .int .u64 pd] 33 (0, 0)) ∧ w7.heap[b2]? = some (.cells #[.int .i64 0, .string ⟨#[]⟩, .int .i64 0, .int .i64 0, .int .i64 0, .int .i64 0] 41 (0, 0)) ∧ w7.heap[b]? = some (.cells #[.int .i64 ver, .int .i64 t1, .int .u64 nonce, .bool false, .int .u64 pd, .int .i64 d0, .int .i64 d1, .int .i64 d2, .int .i64 d3, .int .i64 d4, .int .i64 u, .int .i64 d6, .int .i64 d7] 155 (0, 0)) ∧ w7.heap[b4]? = some (.cells #[.int .i64 5, .string cd, .int .i64 q1, .int .i64 q2, .int .i64 q3, .int .i64 q4] 41 (0, 0)) ∧ Only [b] w w7) ⟨(setCell_oth (.int .i64 u) B1.out (show b1 ≠ b from (by have e1 := HN.out.1; have e3 := HX3.out; omega))), (setCell_oth (.int .i64 u) B2.out (show b2 ≠ b from (by have e2 := HN.out.2.1; have e3 := HX3.out; omega))), (setCell_got (o := 10) (.int .i64 u) B3.out), (setCell_oth (.int .i64 u) B4.out HM4_3.out.symm), (OO.out.setCell (.inl (by simp)) _)⟩ ?_
      rintro w7 ⟨g1, g2, g3, g4, ho⟩
      clear k1 k2 k3 k4
      replace B1 := Lib.hid g1; replace B2 := Lib.hid g2; replace B3 := Lib.hid g3; replace B4 := Lib.hid g4; replace OO := Lib.hid ho
      clear ho g1 g2 g3 g4
      have k1 := c_13 B1.out; have k2 := c_6 B2.out; have k3 := c_13 B3.out; have k4 := c_6 B4.out
      go_wp2
      have HD := setCell_got (o := 5) (.int .i64 q4) (setCell_got (o := 4) (.int .i64 q3) (setCell_got (o := 3) (.int .i64 q2) (setCell_got (o := 2) (.int .i64 q1) (setCell_got (o := 1) (.string cd) (setCell_got (o := 0) (.int .i64 5) (B2.out))))))
      have e0 := cell_got HD 0; have e1 := cell_got HD 1; have e2 := cell_got HD 2; have e3 := cell_got HD 3; have e4 := cell_got HD 4; have e5 := cell_got HD 5; have le := got_lt HD
      refine bodyPost_ret (v := .agg #[.int .i64 5, .string cd, .int .i64 q1, .int .i64 q2, .int .i64 q3, .int .i64 q4]) (by simp [results, Tryz.results41, go_sem, e0, e1, e2, e3, e4, e5]) rfl ⟨rfl, ⟨_, _, _, _, _, _, _, _, (setCell_oth (.int .i64 q4) (setCell_oth (.int .i64 q3) (setCell_oth (.int .i64 q2) (setCell_oth (.int .i64 q1) (setCell_oth (.string cd) (setCell_oth (.int .i64 5) B3.out (show b ≠ b2 from (by have e3 := HX3.out; have e2 := HN.out.2.1; omega))) (show b ≠ b2 from (by have e3 := HX3.out; have e2 := HN.out.2.1; omega))) (show b ≠ b2 from (by have e3 := HX3.out; have e2 := HN.out.2.1; omega))) (show b ≠ b2 from (by have e3 := HX3.out; have e2 := HN.out.2.1; omega))) (show b ≠ b2 from (by have e3 := HX3.out; have e2 := HN.out.2.1; omega))) (show b ≠ b2 from (by have e3 := HX3.out; have e2 := HN.out.2.1; omega)))⟩, ((((((OO.out.setCell (.inr HN.out.2.1) _).setCell (.inr HN.out.2.1) _).setCell (.inr HN.out.2.1) _).setCell (.inr HN.out.2.1) _).setCell (.inr HN.out.2.1) _).setCell (.inr HN.out.2.1) _)⟩
    · simp only [refV, hdV, hdK] at HR
      go_enter Tryz.func41, Tryz.ntmps41
      go_upto_region 1 with (fail)
      refine wabs (G := fun w0 => Code.wp _ _ _ _ w0) (R := fun w1 => w1.heap[w.heap.size]? = some (.cells #[.int .i64 p1, .int .i64 p2, .int .i64 p3, .int .i64 p4, .int .i64 p5, .int .i64 p6, .int .u32 p7, .int .u32 p8, .int .u32 p9, .int .u64 pa, .int .u64 pb, .int .u64 pc, .int .u64 pd] 33 (0, 0)) ∧ w1.heap[w.heap.size + 1]? = some (.cells #[.int .i64 0, .string ⟨#[]⟩, .int .i64 0, .int .i64 0, .int .i64 0, .int .i64 0] 41 (0, 0)) ∧ Only [] w w1) ?_ ?_
      · skip
        have k0 := alloc_new w (.cells #[.int .i64 p1, .int .i64 p2, .int .i64 p3, .int .i64 p4, .int .i64 p5, .int .i64 p6, .int .u32 p7, .int .u32 p8, .int .u32 p9, .int .u64 pa, .int .u64 pb, .int .u64 pc, .int .u64 pd] 33)
        have k1 := alloc_new (w.alloc (.cells #[.int .i64 p1, .int .i64 p2, .int .i64 p3, .int .i64 p4, .int .i64 p5, .int .i64 p6, .int .u32 p7, .int .u32 p8, .int .u32 p9, .int .u64 pa, .int .u64 pb, .int .u64 pc, .int .u64 pd] 33)) (.cells #[.int .i64 0, .string ⟨#[]⟩, .int .i64 0, .int .i64 0, .int .i64 0, .int .i64 0] 41)
        simp only [World.size_alloc] at k0 k1
        exact ⟨(alloc_old k0), k1, (((Only.refl [] w).alloc _).alloc _)⟩
      rintro w1 ⟨h1, h2, ho1⟩
      obtain ⟨b1, hb1⟩ : ∃ b, w.heap.size = b := ⟨_, rfl⟩
      obtain ⟨b2, hb2⟩ : ∃ b, w.heap.size + 1 = b := ⟨_, rfl⟩
      have HN : Hid (w.heap.size ≤ b1 ∧ w.heap.size ≤ b2 ∧ b1 ≠ b2 ∧ b2 ≠ b1) := Lib.hid (by omega)
      rw [hb1] at h1
      rw [hb2] at h2
      rw [show w.heap.size + 1 = b2 from hb2, hb1]
      have B1 := Lib.hid h1; have B2 := Lib.hid h2; have OO := Lib.hid ho1
      clear h1 h2 hb1 hb2
      have B3 := Lib.hid (ho1.got hA (by simp)); have HX3 := Lib.hid (got_lt hA)
      replace OO := Lib.hid (ho1.weak (S' := [b]) (by simp))
      clear ho1
      have k1 := c_13 B1.out; have k2 := c_6 B2.out; have k3 := c_13 B3.out
      go_wp2_with fail
      refine (HR.out _ ⟨c0, c1, c2, c3, c4, c5, c6, c7, B3.out⟩).mono ?_
      rintro e w2 ⟨rfl, ho⟩
      clear k1 k2 k3
      replace OO := Lib.hid (OO.out.nil_trans ho); replace B1 := Lib.hid (ho.got B1.out (by simp)); replace B2 := Lib.hid (ho.got B2.out (by simp)); replace B3 := Lib.hid (ho.got B3.out (by simp))
      clear ho
      have k1 := c_13 B1.out; have k2 := c_6 B2.out; have k3 := c_13 B3.out
      go_upto_region 4 with (fail)
      refine alloc_abs (G := fun w0 => Code.wp _ _ _ _ w0) ?_
      intro w3 hb ho hs
      obtain ⟨b4, hbe⟩ : ∃ b, w2.heap.size = b := ⟨_, rfl⟩
      rw [hbe] at hb
      rw [hbe]
      have HN4 : Hid (w.heap.size ≤ b4) := Lib.hid (by rw [← hbe]; exact OO.out.size)
      have HM4_1 : Hid (b1 ≠ b4) := Lib.hid (by omega)
      have HM4_2 : Hid (b2 ≠ b4) := Lib.hid (by omega)
      have HM4_3 : Hid (b ≠ b4) := Lib.hid (by omega)
      clear k1 k2 k3
      replace OO := Lib.hid (OO.out.nil_trans ho); replace B1 := Lib.hid (ho.got B1.out (by simp)); replace B2 := Lib.hid (ho.got B2.out (by simp)); replace B3 := Lib.hid (ho.got B3.out (by simp)); have B4 := Lib.hid hb
      clear hb ho hs hbe
      have k1 := c_13 B1.out; have k2 := c_6 B2.out; have k3 := c_13 B3.out; have k4 := c_6 B4.out
      go_wp2_with fail
      refine (HA2.out _ ⟨c0, c1, c2, c3, c4, c5, c6, c7, B3.out⟩).mono ?_
      rintro e w4 ⟨rfl, ⟨d0, d1, d2, d3, d4, d5, d6, d7, hA2⟩, ho⟩
      clear k1 k2 k3 k4
      replace OO := Lib.hid (OO.out.trans ho (by simp)); replace B1 := Lib.hid (ho.got B1.out (by simp only [List.mem_cons, List.not_mem_nil, or_false]; exact (show b1 ≠ b from (by have e1 := HN.out.1; have e3 := HX3.out; omega)))); replace B2 := Lib.hid (ho.got B2.out (by simp only [List.mem_cons, List.not_mem_nil, or_false]; exact (show b2 ≠ b from (by have e2 := HN.out.2.1; have e3 := HX3.out; omega)))); replace B3 := Lib.hid hA2; replace B4 := Lib.hid (ho.got B4.out (by simp only [List.mem_cons, List.not_mem_nil, or_false]; exact HM4_3.out.symm))
      clear ho
      have k1 := c_13 B1.out; have k2 := c_6 B2.out; have k3 := c_13 B3.out; have k4 := c_6 B4.out
      go_upto_region 6 with (fail)
      refine wabs (G := fun w0 => Code.wp _ _ _ _ w0) (R := fun w5 => w5.heap[b1]? = some (.cells #[.int .i64 p1, .int .i64 p2, .int .i64 p3, .int .i64 p4, .int .i64 p5, .int .i64 p6, .int .u32 p7, .int .u32 p8, .int .u32 p9, .int .u64 pa, .int .u64 pb, .int .u64 pc, .int .u64 pd] 33 (0, 0)) ∧ w5.heap[b2]? = some (.cells #[.int .i64 0, .string ⟨#[]⟩, .int .i64 0, .int .i64 0, .int .i64 0, .int .i64 0] 41 (0, 0)) ∧ w5.heap[b]? = some (.cells #[.int .i64 ver, .int .i64 t1, .int .u64 nonce, .bool false, .int .u64 pd, .int .i64 d0, .int .i64 d1, .int .i64 d2, .int .i64 d3, .int .i64 d4, .int .i64 d5, .int .i64 d6, .int .i64 d7] 155 (0, 0)) ∧ w5.heap[b4]? = some (.cells #[.int .i64 6, .string cd, .int .i64 q1, .int .i64 q2, .int .i64 q3, .int .i64 q4] 41 (0, 0)) ∧ Only [b] w w5) ⟨(setCell_oth (.int .i64 q4) (setCell_oth (.int .i64 q3) (setCell_oth (.int .i64 q2) (setCell_oth (.int .i64 q1) (setCell_oth (.string cd) (setCell_oth (.int .i64 6) B1.out HM4_1.out) HM4_1.out) HM4_1.out) HM4_1.out) HM4_1.out) HM4_1.out), (setCell_oth (.int .i64 q4) (setCell_oth (.int .i64 q3) (setCell_oth (.int .i64 q2) (setCell_oth (.int .i64 q1) (setCell_oth (.string cd) (setCell_oth (.int .i64 6) B2.out HM4_2.out) HM4_2.out) HM4_2.out) HM4_2.out) HM4_2.out) HM4_2.out), (setCell_oth (.int .i64 q4) (setCell_oth (.int .i64 q3) (setCell_oth (.int .i64 q2) (setCell_oth (.int .i64 q1) (setCell_oth (.string cd) (setCell_oth (.int .i64 6) B3.out HM4_3.out) HM4_3.out) HM4_3.out) HM4_3.out) HM4_3.out) HM4_3.out), (setCell_got (o := 5) (.int .i64 q4) (setCell_got (o := 4) (.int .i64 q3) (setCell_got (o := 3) (.int .i64 q2) (setCell_got (o := 2) (.int .i64 q1) (setCell_got (o := 1) (.string cd) (setCell_got (o := 0) (.int .i64 6) B4.out)))))), ((((((OO.out.setCell (.inr HN4.out) _).setCell (.inr HN4.out) _).setCell (.inr HN4.out) _).setCell (.inr HN4.out) _).setCell (.inr HN4.out) _).setCell (.inr HN4.out) _)⟩ ?_
      rintro w5 ⟨g1, g2, g3, g4, ho⟩
      clear k1 k2 k3 k4
      replace B1 := Lib.hid g1; replace B2 := Lib.hid g2; replace B3 := Lib.hid g3; replace B4 := Lib.hid g4; replace OO := Lib.hid ho
      clear ho g1 g2 g3 g4
      have k1 := c_13 B1.out; have k2 := c_6 B2.out; have k3 := c_13 B3.out; have k4 := c_6 B4.out
      have hki : IntKind.i64.wrap 6 = 6 := by decide
      obtain ⟨u, hu⟩ : ∃ u, IntKind.i64.wrap (d6 + 1) = u := ⟨_, rfl⟩
      refine wp_region_grown [0, 1, 2, 3, 4, 5, 6, 7, 8, 9, 10] [11] (by kernel_rfl) (by kernel_rfl) ?_
      simp only [pick, List.map_cons, List.map_nil, List.getD_cons_succ, List.getD_cons_zero]
      iterate 11 (refine wpQuiet_step (fun K hK => ?_); go_simp; refine hK _ ?_; clear hK K)
      refine wpQuiet_nil ?_
      intro w6 hw
      have ho := only_of_plus hw
      clear hw
      clear k1 k2 k3 k4
      replace OO := Lib.hid (OO.out.nil_trans ho); replace B1 := Lib.hid (ho.got B1.out (by simp)); replace B2 := Lib.hid (ho.got B2.out (by simp)); replace B3 := Lib.hid (ho.got B3.out (by simp)); replace B4 := Lib.hid (ho.got B4.out (by simp))
      have k1 := c_13 B1.out; have k2 := c_6 B2.out; have k3 := c_13 B3.out; have k4 := c_6 B4.out
      clear ho
      go_upto_region 7 with (fail)
      refine wabs (G := fun w0 => Code.wp _ _ _ _ w0) (R := fun w7 => w7.heap[b1]? = some (.cells #[.int .i64 p1, .int .i64 p2, .int .i64 p3, .int .i64 p4, .int .i64 p5, .int .i64 p6, .int .u32 p7, .int .u32 p8, .int .u32 p9, .int .u64 pa, .int .u64 pb, .int .u64 pc, .int .u64 pd] 33 (0, 0)) ∧ w7.heap[b2]? = some (.cells #[.int .i64 0, .string ⟨#[]⟩, .int .i64 0, .int .i64 0, .int .i64 0, .int .i64 0] 41 (0, 0)) ∧ w7.heap[b]? = some (.cells #[.int .i64 ver, .int .i64 t1, .int .u64 nonce, .bool false, .int .u64 pd, .int .i64 d0, .int .i64 d1, .int .i64 d2, .int .i64 d3, .int .i64 d4, .int .i64 d5, .int .i64 u, .int .i64 d7] 155 (0, 0)) ∧ w7.heap[b4]? = some (.cells #[.int .i64 6, .string cd, .int .i64 q1, .int .i64 q2, .int .i64 q3, .int .i64 q4] 41 (0, 0)) ∧ Only [b] w w7) ⟨(setCell_oth (.int .i64 u) B1.out (show b1 ≠ b from (by have e1 := HN.out.1; have e3 := HX3.out; omega))), (setCell_oth (.int .i64 u) B2.out (show b2 ≠ b from (by have e2 := HN.out.2.1; have e3 := HX3.out; omega))), (setCell_got (o := 11) (.int .i64 u) B3.out), (setCell_oth (.int .i64 u) B4.out HM4_3.out.symm), (OO.out.setCell (.inl (by simp)) _)⟩ ?_
      rintro w7 ⟨g1, g2, g3, g4, ho⟩
      clear k1 k2 k3 k4
      replace B1 := Lib.hid g1; replace B2 := Lib.hid g2; replace B3 := Lib.hid g3; replace B4 := Lib.hid g4; replace OO := Lib.hid ho
      clear ho g1 g2 g3 g4
      have k1 := c_13 B1.out; have k2 := c_6 B2.out; have k3 := c_13 B3.out; have k4 := c_6 B4.out
      go_wp2
      have HD := setCell_got (o := 5) (.int .i64 q4) (setCell_got (o := 4) (.int .i64 q3) (setCell_got (o := 3) (.int .i64 q2) (setCell_got (o := 2) (.int .i64 q1) (setCell_got (o := 1) (.string cd) (setCell_got (o := 0) (.int .i64 6) (B2.out))))))
      have e0 := cell_got HD 0; have e1 := cell_got HD 1; have e2 := cell_got HD 2; have e3 := cell_got HD 3; have e4 := cell_got HD 4; have e5 := cell_got HD 5; have le := got_lt HD
      refine bodyPost_ret (v := .agg #[.int .i64 6, .string cd, .int .i64 q1, .int .i64 q2, .int .i64 q3, .int .i64 q4]) (by simp [results, Tryz.results41, go_sem, e0, e1, e2, e3, e4, e5]) rfl ⟨rfl, ⟨_, _, _, _, _, _, _, _, (setCell_oth (.int .i64 q4) (setCell_oth (.int .i64 q3) (setCell_oth (.int .i64 q2) (setCell_oth (.int .i64 q1) (setCell_oth (.string cd) (setCell_oth (.int .i64 6) B3.out (show b ≠ b2 from (by have e3 := HX3.out; have e2 := HN.out.2.1; omega))) (show b ≠ b2 from (by have e3 := HX3.out; have e2 := HN.out.2.1; omega))) (show b ≠ b2 from (by have e3 := HX3.out; have e2 := HN.out.2.1; omega))) (show b ≠ b2 from (by have e3 := HX3.out; have e2 := HN.out.2.1; omega))) (show b ≠ b2 from (by have e3 := HX3.out; have e2 := HN.out.2.1; omega))) (show b ≠ b2 from (by have e3 := HX3.out; have e2 := HN.out.2.1; omega)))⟩, ((((((OO.out.setCell (.inr HN.out.2.1) _).setCell (.inr HN.out.2.1) _).setCell (.inr HN.out.2.1) _).setCell (.inr HN.out.2.1) _).setCell (.inr HN.out.2.1) _).setCell (.inr HN.out.2.1) _)⟩
    · simp only [refV, hdV, hdK] at HR
      go_enter Tryz.func41, Tryz.ntmps41
      go_upto_region 1 with (fail)
      refine wabs (G := fun w0 => Code.wp _ _ _ _ w0) (R := fun w1 => w1.heap[w.heap.size]? = some (.cells #[.int .i64 p1, .int .i64 p2, .int .i64 p3, .int .i64 p4, .int .i64 p5, .int .i64 p6, .int .u32 p7, .int .u32 p8, .int .u32 p9, .int .u64 pa, .int .u64 pb, .int .u64 pc, .int .u64 pd] 33 (0, 0)) ∧ w1.heap[w.heap.size + 1]? = some (.cells #[.int .i64 0, .string ⟨#[]⟩, .int .i64 0, .int .i64 0, .int .i64 0, .int .i64 0] 41 (0, 0)) ∧ Only [] w w1) ?_ ?_
      · skip
        have k0 := alloc_new w (.cells #[.int .i64 p1, .int .i64 p2, .int .i64 p3, .int .i64 p4, .int .i64 p5, .int .i64 p6, .int .u32 p7, .int .u32 p8, .int .u32 p9, .int .u64 pa, .int .u64 pb, .int .u64 pc, .int .u64 pd] 33)
        have k1 := alloc_new (w.alloc (.cells #[.int .i64 p1, .int .i64 p2, .int .i64 p3, .int .i64 p4, .int .i64 p5, .int .i64 p6, .int .u32 p7, .int .u32 p8, .int .u32 p9, .int .u64 pa, .int .u64 pb, .int .u64 pc, .int .u64 pd] 33)) (.cells #[.int .i64 0, .string ⟨#[]⟩, .int .i64 0, .int .i64 0, .int .i64 0, .int .i64 0] 41)
        simp only [World.size_alloc] at k0 k1
        exact ⟨(alloc_old k0), k1, (((Only.refl [] w).alloc _).alloc _)⟩
      rintro w1 ⟨h1, h2, ho1⟩
      obtain ⟨b1, hb1⟩ : ∃ b, w.heap.size = b := ⟨_, rfl⟩
      obtain ⟨b2, hb2⟩ : ∃ b, w.heap.size + 1 = b := ⟨_, rfl⟩
      have HN : Hid (w.heap.size ≤ b1 ∧ w.heap.size ≤ b2 ∧ b1 ≠ b2 ∧ b2 ≠ b1) := Lib.hid (by omega)
      rw [hb1] at h1
      rw [hb2] at h2
      rw [show w.heap.size + 1 = b2 from hb2, hb1]
      have B1 := Lib.hid h1; have B2 := Lib.hid h2; have OO := Lib.hid ho1
      clear h1 h2 hb1 hb2
      have B3 := Lib.hid (ho1.got hA (by simp)); have HX3 := Lib.hid (got_lt hA)
      replace OO := Lib.hid (ho1.weak (S' := [b]) (by simp))
      clear ho1
      have k1 := c_13 B1.out; have k2 := c_6 B2.out; have k3 := c_13 B3.out
      go_wp2_with fail
      refine (HR.out _ ⟨c0, c1, c2, c3, c4, c5, c6, c7, B3.out⟩).mono ?_
      rintro e w2 ⟨rfl, ho⟩
      clear k1 k2 k3
      replace OO := Lib.hid (OO.out.nil_trans ho); replace B1 := Lib.hid (ho.got B1.out (by simp)); replace B2 := Lib.hid (ho.got B2.out (by simp)); replace B3 := Lib.hid (ho.got B3.out (by simp))
      clear ho
      have k1 := c_13 B1.out; have k2 := c_6 B2.out; have k3 := c_13 B3.out
      go_upto_region 4 with (fail)
      refine alloc_abs (G := fun w0 => Code.wp _ _ _ _ w0) ?_
      intro w3 hb ho hs
      obtain ⟨b4, hbe⟩ : ∃ b, w2.heap.size = b := ⟨_, rfl⟩
      rw [hbe] at hb
      rw [hbe]
      have HN4 : Hid (w.heap.size ≤ b4) := Lib.hid (by rw [← hbe]; exact OO.out.size)
      have HM4_1 : Hid (b1 ≠ b4) := Lib.hid (by omega)
      have HM4_2 : Hid (b2 ≠ b4) := Lib.hid (by omega)
      have HM4_3 : Hid (b ≠ b4) := Lib.hid (by omega)
      clear k1 k2 k3
      replace OO := Lib.hid (OO.out.nil_trans ho); replace B1 := Lib.hid (ho.got B1.out (by simp)); replace B2 := Lib.hid (ho.got B2.out (by simp)); replace B3 := Lib.hid (ho.got B3.out (by simp)); have B4 := Lib.hid hb
      clear hb ho hs hbe
      have k1 := c_13 B1.out; have k2 := c_6 B2.out; have k3 := c_13 B3.out; have k4 := c_6 B4.out
      go_wp2_with fail
      refine (HA2.out _ ⟨c0, c1, c2, c3, c4, c5, c6, c7, B3.out⟩).mono ?_
      rintro e w4 ⟨rfl, ⟨d0, d1, d2, d3, d4, d5, d6, d7, hA2⟩, ho⟩
      clear k1 k2 k3 k4
      replace OO := Lib.hid (OO.out.trans ho (by simp)); replace B1 := Lib.hid (ho.got B1.out (by simp only [List.mem_cons, List.not_mem_nil, or_false]; exact (show b1 ≠ b from (by have e1 := HN.out.1; have e3 := HX3.out; omega)))); replace B2 := Lib.hid (ho.got B2.out (by simp only [List.mem_cons, List.not_mem_nil, or_false]; exact (show b2 ≠ b from (by have e2 := HN.out.2.1; have e3 := HX3.out; omega)))); replace B3 := Lib.hid hA2; replace B4 := Lib.hid (ho.got B4.out (by simp only [List.mem_cons, List.not_mem_nil, or_false]; exact HM4_3.out.symm))
      clear ho
      have k1 := c_13 B1.out; have k2 := c_6 B2.out; have k3 := c_13 B3.out; have k4 := c_6 B4.out
      go_upto_region 6 with (fail)
      refine wabs (G := fun w0 => Code.wp _ _ _ _ w0) (R := fun w5 => w5.heap[b1]? = some (.cells #[.int .i64 p1, .int .i64 p2, .int .i64 p3, .int .i64 p4, .int .i64 p5, .int .i64 p6, .int .u32 p7, .int .u32 p8, .int .u32 p9, .int .u64 pa, .int .u64 pb, .int .u64 pc, .int .u64 pd] 33 (0, 0)) ∧ w5.heap[b2]? = some (.cells #[.int .i64 0, .string ⟨#[]⟩, .int .i64 0, .int .i64 0, .int .i64 0, .int .i64 0] 41 (0, 0)) ∧ w5.heap[b]? = some (.cells #[.int .i64 ver, .int .i64 t1, .int .u64 nonce, .bool false, .int .u64 pd, .int .i64 d0, .int .i64 d1, .int .i64 d2, .int .i64 d3, .int .i64 d4, .int .i64 d5, .int .i64 d6, .int .i64 d7] 155 (0, 0)) ∧ w5.heap[b4]? = some (.cells #[.int .i64 7, .string cd, .int .i64 q1, .int .i64 q2, .int .i64 q3, .int .i64 q4] 41 (0, 0)) ∧ Only [b] w w5) ⟨(setCell_oth (.int .i64 q4) (setCell_oth (.int .i64 q3) (setCell_oth (.int .i64 q2) (setCell_oth (.int .i64 q1) (setCell_oth (.string cd) (setCell_oth (.int .i64 7) B1.out HM4_1.out) HM4_1.out) HM4_1.out) HM4_1.out) HM4_1.out) HM4_1.out), (setCell_oth (.int .i64 q4) (setCell_oth (.int .i64 q3) (setCell_oth (.int .i64 q2) (setCell_oth (.int .i64 q1) (setCell_oth (.string cd) (setCell_oth (.int .i64 7) B2.out HM4_2.out) HM4_2.out) HM4_2.out) HM4_2.out) HM4_2.out) HM4_2.out), (setCell_oth (.int .i64 q4) (setCell_oth (.int .i64 q3) (setCell_oth (.int .i64 q2) (setCell_oth (.int .i64 q1) (setCell_oth (.string cd) (setCell_oth (.int .i64 7) B3.out HM4_3.out) HM4_3.out) HM4_3.out) HM4_3.out) HM4_3.out) HM4_3.out), (setCell_got (o := 5) (.int .i64 q4) (setCell_got (o := 4) (.int .i64 q3) (setCell_got (o := 3) (.int .i64 q2) (setCell_got (o := 2) (.int .i64 q1) (setCell_got (o := 1) (.string cd) (setCell_got (o := 0) (.int .i64 7) B4.out)))))), ((((((OO.out.setCell (.inr HN4.out) _).setCell (.inr HN4.out) _).setCell (.inr HN4.out) _).setCell (.inr HN4.out) _).setCell (.inr HN4.out) _).setCell (.inr HN4.out) _)⟩ ?_
      rintro w5 ⟨g1, g2, g3, g4, ho⟩
      clear k1 k2 k3 k4
      replace B1 := Lib.hid g1; replace B2 := Lib.hid g2; replace B3 := Lib.hid g3; replace B4 := Lib.hid g4; replace OO := Lib.hid ho
      clear ho g1 g2 g3 g4
      have k1 := c_13 B1.out; have k2 := c_6 B2.out; have k3 := c_13 B3.out; have k4 := c_6 B4.out
      have hki : IntKind.i64.wrap 7 = 7 := by decide
      obtain ⟨u, hu⟩ : ∃ u, IntKind.i64.wrap (d7 + 1) = u := ⟨_, rfl⟩
      refine wp_region_grown [0, 1, 2, 3, 4, 5, 6, 7, 8, 9, 10] [11] (by kernel_rfl) (by kernel_rfl) ?_
      simp only [pick, List.map_cons, List.map_nil, List.getD_cons_succ, List.getD_cons_zero]
      iterate 11 (refine wpQuiet_step (fun K hK => ?_); go_simp; refine hK _ ?_; clear hK K)
      refine wpQuiet_nil ?_
      intro w6 hw
      have ho := only_of_plus hw
      clear hw
      clear k1 k2 k3 k4
      replace OO := Lib.hid (OO.out.nil_trans ho); replace B1 := Lib.hid (ho.got B1.out (by simp)); replace B2 := Lib.hid (ho.got B2.out (by simp)); replace B3 := Lib.hid (ho.got B3.out (by simp)); replace B4 := Lib.hid (ho.got B4.out (by simp))
      have k1 := c_13 B1.out; have k2 := c_6 B2.out; have k3 := c_13 B3.out; have k4 := c_6 B4.out
      clear ho
      go_upto_region 7 with (fail)
      refine wabs (G := fun w0 => Code.wp _ _ _ _ w0) (R := fun w7 => w7.heap[b1]? = some (.cells #[.int .i64 p1, .int .i64 p2, .int .i64 p3, .int .i64 p4, .int .i64 p5, .int .i64 p6, .int .u32 p7, .int .u32 p8, .int .u32 p9, .int .u64 pa, .int .u64 pb, .int .u64 pc, .int .u64 pd] 33 (0, 0)) ∧ w7.heap[b2]? = some (.cells #[.int .i64 0, .string ⟨#[]⟩, .int .i64 0, .int .i64 0, .int .i64 0, .int .i64 0] 41 (0, 0)) ∧ w7.heap[b]? = some (.cells #[.int .i64 ver, .int .i64 t1, .int .u64 nonce, .bool false, .int .u64 pd, .int .i64 d0, .int .i64 d1, .int .i64 d2, .int .i64 d3, .int .i64 d4, .int .i64 d5, .int .i64 d6, .int .i64 u] 155 (0, 0)) ∧ w7.heap[b4]? = some (.cells #[.int .i64 7, .string cd, .int .i64 q1, .int .i64 q2, .int .i64 q3, .int .i64 q4] 41 (0, 0)) ∧ Only [b] w w7) ⟨(setCell_oth (.int .i64 u) B1.out (show b1 ≠ b from (by have e1 := HN.out.1; have e3 := HX3.out; omega))), (setCell_oth (.int .i64 u) B2.out (show b2 ≠ b from (by have e2 := HN.out.2.1; have e3 := HX3.out; omega))), (setCell_got (o := 12) (.int .i64 u) B3.out), (setCell_oth (.int .i64 u) B4.out HM4_3.out.symm), (OO.out.setCell (.inl (by simp)) _)⟩ ?_
      rintro w7 ⟨g1, g2, g3, g4, ho⟩
      clear k1 k2 k3 k4
      replace B1 := Lib.hid g1; replace B2 := Lib.hid g2; replace B3 := Lib.hid g3; replace B4 := Lib.hid g4; replace OO := Lib.hid ho
      clear ho g1 g2 g3 g4
      have k1 := c_13 B1.out; have k2 := c_6 B2.out; have k3 := c_13 B3.out; have k4 := c_6 B4.out
      go_wp2
      have HD := setCell_got (o := 5) (.int .i64 q4) (setCell_got (o := 4) (.int .i64 q3) (setCell_got (o := 3) (.int .i64 q2) (setCell_got (o := 2) (.int .i64 q1) (setCell_got (o := 1) (.string cd) (setCell_got (o := 0) (.int .i64 7) (B2.out))))))
      have e0 := cell_got HD 0; have e1 := cell_got HD 1; have e2 := cell_got HD 2; have e3 := cell_got HD 3; have e4 := cell_got HD 4; have e5 := cell_got HD 5; have le := got_lt HD
      refine bodyPost_ret (v := .agg #[.int .i64 7, .string cd, .int .i64 q1, .int .i64 q2, .int .i64 q3, .int .i64 q4]) (by simp [results, Tryz.results41, go_sem, e0, e1, e2, e3, e4, e5]) rfl ⟨rfl, ⟨_, _, _, _, _, _, _, _, (setCell_oth (.int .i64 q4) (setCell_oth (.int .i64 q3) (setCell_oth (.int .i64 q2) (setCell_oth (.int .i64 q1) (setCell_oth (.string cd) (setCell_oth (.int .i64 7) B3.out (show b ≠ b2 from (by have e3 := HX3.out; have e2 := HN.out.2.1; omega))) (show b ≠ b2 from (by have e3 := HX3.out; have e2 := HN.out.2.1; omega))) (show b ≠ b2 from (by have e3 := HX3.out; have e2 := HN.out.2.1; omega))) (show b ≠ b2 from (by have e3 := HX3.out; have e2 := HN.out.2.1; omega))) (show b ≠ b2 from (by have e3 := HX3.out; have e2 := HN.out.2.1; omega))) (show b ≠ b2 from (by have e3 := HX3.out; have e2 := HN.out.2.1; omega)))⟩, ((((((OO.out.setCell (.inr HN.out.2.1) _).setCell (.inr HN.out.2.1) _).setCell (.inr HN.out.2.1) _).setCell (.inr HN.out.2.1) _).setCell (.inr HN.out.2.1) _).setCell (.inr HN.out.2.1) _)⟩
end Go.Proofs.YtikjdmbfjkbndaaGreat
