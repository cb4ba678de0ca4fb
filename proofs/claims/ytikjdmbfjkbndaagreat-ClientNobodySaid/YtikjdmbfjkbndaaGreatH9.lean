/- A nil client; ClientNobody's walk. Conditions: those named in each theorem. -/
import Derived.Test.YtikjdmbfjkbndaaGreatH6
namespace Go.Proofs.YtikjdmbfjkbndaaGreat
open Go.RowKit

set_option maxRecDepth 100000 in
set_option maxHeartbeats 2000000 in
theorem nSend (s raw nonce : Int) (w : World) :
    Calls Tryz.prog 11 #[.pointer none, .int .i64 s, .int .i64 raw, .int .u64 nonce] w fun e w' => e = .returned (.tuple #[.agg #[.int .i64 0, .int .i64 0, .int .i64 0, .int .i64 0, .int .i64 0, .int .i64 0, .int .u32 0, .int .u32 0, .int .u32 0, .int .u64 0, .int .u64 0, .int .u64 0, .int .u64 0], .int .i64 1]) ∧ Only [] w w' := by
  go_enter Tryz.func11, Tryz.ntmps11
  go_upto_region 1 with (fail)
  refine alloc_abs (G := fun w0 => Code.wp _ _ _ _ w0) ?_
  intro w1 hb1 ho1 hs1
  obtain ⟨b1, hbe1⟩ : ∃ b, w.heap.size = b := ⟨_, rfl⟩
  rw [hbe1] at hb1
  rw [hbe1]
  have HN : Hid (w.heap.size ≤ b1) := Lib.hid (by omega)
  have B1 := Lib.hid hb1; have OO := Lib.hid ho1
  clear hb1 hs1 hbe1
  clear ho1
  have k1 := c_13 B1.out
  go_wp2
  have HD := setCell_got (o := 12) (.int .u64 0) (setCell_got (o := 11) (.int .u64 0) (setCell_got (o := 10) (.int .u64 0) (setCell_got (o := 9) (.int .u64 0) (setCell_got (o := 8) (.int .u32 0) (setCell_got (o := 7) (.int .u32 0) (setCell_got (o := 6) (.int .u32 0) (setCell_got (o := 5) (.int .i64 0) (setCell_got (o := 4) (.int .i64 0) (setCell_got (o := 3) (.int .i64 0) (setCell_got (o := 2) (.int .i64 0) (setCell_got (o := 1) (.int .i64 0) (setCell_got (o := 0) (.int .i64 0) (B1.out)))))))))))))
  have e0 := cell_got HD 0; have e1 := cell_got HD 1; have e2 := cell_got HD 2; have e3 := cell_got HD 3; have e4 := cell_got HD 4; have e5 := cell_got HD 5; have e6 := cell_got HD 6; have e7 := cell_got HD 7; have e8 := cell_got HD 8; have e9 := cell_got HD 9; have e10 := cell_got HD 10; have e11 := cell_got HD 11; have e12 := cell_got HD 12; have le := got_lt HD
  refine bodyPost_ret (v := .tuple #[.agg #[.int .i64 0, .int .i64 0, .int .i64 0, .int .i64 0, .int .i64 0, .int .i64 0, .int .u32 0, .int .u32 0, .int .u32 0, .int .u64 0, .int .u64 0, .int .u64 0, .int .u64 0], .int .i64 1]) (by simp [results, Tryz.results11, go_sem, e0, e1, e2, e3, e4, e5, e6, e7, e8, e9, e10, e11, e12]) rfl ⟨rfl, (((((((((((((OO.out.setCell (.inr HN.out) _).setCell (.inr HN.out) _).setCell (.inr HN.out) _).setCell (.inr HN.out) _).setCell (.inr HN.out) _).setCell (.inr HN.out) _).setCell (.inr HN.out) _).setCell (.inr HN.out) _).setCell (.inr HN.out) _).setCell (.inr HN.out) _).setCell (.inr HN.out) _).setCell (.inr HN.out) _).setCell (.inr HN.out) _)⟩
set_option maxRecDepth 100000 in
set_option maxHeartbeats 2000000 in
theorem nRecv (s : Int) (p0 p1 p2 p3 p4 p5 p6 p7 p8 p9 p10 p11 p12 : Int) (v1 v2 : Int) (has : Bool) (raw : Int) (w : World) :
    Calls Tryz.prog 13 #[.pointer none, .int .i64 s, .agg #[.int .i64 p0, .int .i64 p1, .int .i64 p2, .int .i64 p3, .int .i64 p4, .int .i64 p5, .int .u32 p6, .int .u32 p7, .int .u32 p8, .int .u64 p9, .int .u64 p10, .int .u64 p11, .int .u64 p12], .agg #[.int .i64 v1, .int .i64 v2], .bool has, .int .i64 raw] w fun e w' => e = .returned (.tuple #[.agg #[.int .i64 0, .string ⟨#[]⟩, .int .i64 0, .int .i64 0, .int .i64 0, .int .i64 0], .int .i64 1]) ∧ Only [] w w' := by
  go_enter Tryz.func13, Tryz.ntmps13
  go_upto_region 1 with (fail)
  refine wabs (G := fun w0 => Code.wp _ _ _ _ w0) (R := fun w1 => w1.heap[w.heap.size]? = some (.cells #[.int .i64 p0, .int .i64 p1, .int .i64 p2, .int .i64 p3, .int .i64 p4, .int .i64 p5, .int .u32 p6, .int .u32 p7, .int .u32 p8, .int .u64 p9, .int .u64 p10, .int .u64 p11, .int .u64 p12] 33 (0, 0)) ∧ w1.heap[w.heap.size + 1]? = some (.cells #[.int .i64 v1, .int .i64 v2] 45 (0, 0)) ∧ w1.heap[w.heap.size + 2]? = some (.cells #[.int .i64 0, .string ⟨#[]⟩, .int .i64 0, .int .i64 0, .int .i64 0, .int .i64 0] 41 (0, 0)) ∧ Only [] w w1) ?_ ?_
  · skip
    have k0 := alloc_new w (.cells #[.int .i64 p0, .int .i64 p1, .int .i64 p2, .int .i64 p3, .int .i64 p4, .int .i64 p5, .int .u32 p6, .int .u32 p7, .int .u32 p8, .int .u64 p9, .int .u64 p10, .int .u64 p11, .int .u64 p12] 33)
    have k1 := alloc_new (w.alloc (.cells #[.int .i64 p0, .int .i64 p1, .int .i64 p2, .int .i64 p3, .int .i64 p4, .int .i64 p5, .int .u32 p6, .int .u32 p7, .int .u32 p8, .int .u64 p9, .int .u64 p10, .int .u64 p11, .int .u64 p12] 33)) (.cells #[.int .i64 v1, .int .i64 v2] 45)
    have k2 := alloc_new ((w.alloc (.cells #[.int .i64 p0, .int .i64 p1, .int .i64 p2, .int .i64 p3, .int .i64 p4, .int .i64 p5, .int .u32 p6, .int .u32 p7, .int .u32 p8, .int .u64 p9, .int .u64 p10, .int .u64 p11, .int .u64 p12] 33)).alloc (.cells #[.int .i64 v1, .int .i64 v2] 45)) (.cells #[.int .i64 0, .string ⟨#[]⟩, .int .i64 0, .int .i64 0, .int .i64 0, .int .i64 0] 41)
    simp only [World.size_alloc] at k0 k1 k2
    exact ⟨(alloc_old (alloc_old k0)), (alloc_old k1), k2, ((((Only.refl [] w).alloc _).alloc _).alloc _)⟩
  rintro w1 ⟨h1, h2, h3, ho1⟩
  obtain ⟨b1, hb1⟩ : ∃ b, w.heap.size = b := ⟨_, rfl⟩
  obtain ⟨b2, hb2⟩ : ∃ b, w.heap.size + 1 = b := ⟨_, rfl⟩
  obtain ⟨b3, hb3⟩ : ∃ b, w.heap.size + 2 = b := ⟨_, rfl⟩
  have HN : Hid (w.heap.size ≤ b1 ∧ w.heap.size ≤ b2 ∧ w.heap.size ≤ b3 ∧ b1 ≠ b2 ∧ b2 ≠ b1 ∧ b1 ≠ b3 ∧ b3 ≠ b1 ∧ b2 ≠ b3 ∧ b3 ≠ b2) := Lib.hid (by omega)
  rw [hb1] at h1
  rw [hb2] at h2
  rw [hb3] at h3
  rw [show w.heap.size + 1 + 1 = b3 from hb3, show w.heap.size + 1 = b2 from hb2, hb1]
  have B1 := Lib.hid h1; have B2 := Lib.hid h2; have B3 := Lib.hid h3; have OO := Lib.hid ho1
  clear h1 h2 h3 hb1 hb2 hb3
  clear ho1
  have k1 := c_13 B1.out; have k2 := c_2 B2.out; have k3 := c_6 B3.out
  go_wp2
  have HD := setCell_got (o := 5) (.int .i64 0) (setCell_got (o := 4) (.int .i64 0) (setCell_got (o := 3) (.int .i64 0) (setCell_got (o := 2) (.int .i64 0) (setCell_got (o := 1) (.string ⟨#[]⟩) (setCell_got (o := 0) (.int .i64 0) (B3.out))))))
  have e0 := cell_got HD 0; have e1 := cell_got HD 1; have e2 := cell_got HD 2; have e3 := cell_got HD 3; have e4 := cell_got HD 4; have e5 := cell_got HD 5; have le := got_lt HD
  refine bodyPost_ret (v := .tuple #[.agg #[.int .i64 0, .string ⟨#[]⟩, .int .i64 0, .int .i64 0, .int .i64 0, .int .i64 0], .int .i64 1]) (by simp [results, Tryz.results13, go_sem, e0, e1, e2, e3, e4, e5]) rfl ⟨rfl, ((((((OO.out.setCell (.inr HN.out.2.2.1) _).setCell (.inr HN.out.2.2.1) _).setCell (.inr HN.out.2.2.1) _).setCell (.inr HN.out.2.2.1) _).setCell (.inr HN.out.2.2.1) _).setCell (.inr HN.out.2.2.1) _)⟩
set_option maxRecDepth 100000 in
set_option maxHeartbeats 2000000 in
theorem nNow (raw : Int) (w : World) :
    Calls Tryz.prog 22 #[.pointer none, .int .i64 raw] w fun e w' => e = .returned (.tuple #[.int .i64 0, .int .i64 1]) ∧ Only [] w w' := by
  go_enter Tryz.func22, Tryz.ntmps22
  go_wp2
  go_ret2
  exact ⟨rfl, Only.refl _ _⟩
set_option maxRecDepth 100000 in
set_option maxHeartbeats 2000000 in
theorem nEnter (raw : Int) (w : World) :
    Calls Tryz.prog 38 #[.pointer none, .int .i64 raw] w fun e w' => e = .returned (.tuple #[.int .i64 0, .int .i64 1]) ∧ Only [] w w' := by
  have HNN := Lib.hid (fun w' => nNow raw w')
  go_enter Tryz.func38, Tryz.ntmps38
  go_wp2_with fail
  refine (HNN.out _).mono ?_
  rintro e w1 ⟨rfl, ho⟩
  go_wp2
  go_ret2
  exact ⟨rfl, ho⟩
set_option maxRecDepth 100000 in
set_option maxHeartbeats 2000000 in
theorem nUpdate (raw : Int) (w : World) :
    Calls Tryz.prog 23 #[.pointer none, .int .i64 raw] w fun e w' => e = .returned (.tuple #[.agg #[.int .i64 0, .int .i64 0], .int .i64 1]) ∧ Only [] w w' := by
  have HNN := Lib.hid (fun w' => nEnter raw w')
  go_enter Tryz.func23, Tryz.ntmps23
  go_upto_region 1 with (fail)
  refine alloc_abs (G := fun w0 => Code.wp _ _ _ _ w0) ?_
  intro w1 hb1 ho1 hs1
  obtain ⟨b1, hbe1⟩ : ∃ b, w.heap.size = b := ⟨_, rfl⟩
  rw [hbe1] at hb1
  rw [hbe1]
  have HN : Hid (w.heap.size ≤ b1) := Lib.hid (by omega)
  have B1 := Lib.hid hb1; have OO := Lib.hid ho1
  clear hb1 hs1 hbe1
  clear ho1
  have k1 := c_2 B1.out
  go_wp2_with fail
  refine (HNN.out _).mono ?_
  rintro e w2 ⟨rfl, ho⟩
  clear k1
  replace OO := Lib.hid (OO.out.nil_trans ho); replace B1 := Lib.hid (ho.got B1.out (by simp))
  clear ho
  have k1 := c_2 B1.out
  go_wp2
  have HD := setCell_got (o := 1) (.int .i64 0) (setCell_got (o := 0) (.int .i64 0) (B1.out))
  have e0 := cell_got HD 0; have e1 := cell_got HD 1; have le := got_lt HD
  refine bodyPost_ret (v := .tuple #[.agg #[.int .i64 0, .int .i64 0], .int .i64 1]) (by simp [results, Tryz.results23, go_sem, e0, e1]) rfl ⟨rfl, ((OO.out.setCell (.inr HN.out) _).setCell (.inr HN.out) _)⟩
set_option maxRecDepth 100000 in
set_option maxHeartbeats 2000000 in
theorem nInterval (raw : Int) (w : World) :
    Calls Tryz.prog 19 #[.pointer none, .int .i64 raw] w fun e w' => e = .returned (.tuple #[.agg #[.int .i64 0, .int .i64 0], .int .i64 1]) ∧ Only [] w w' := by
  have HNN := Lib.hid (fun w' => nNow raw w')
  go_enter Tryz.func19, Tryz.ntmps19
  go_upto_region 1 with (fail)
  refine alloc_abs (G := fun w0 => Code.wp _ _ _ _ w0) ?_
  intro w1 hb1 ho1 hs1
  obtain ⟨b1, hbe1⟩ : ∃ b, w.heap.size = b := ⟨_, rfl⟩
  rw [hbe1] at hb1
  rw [hbe1]
  have HN : Hid (w.heap.size ≤ b1) := Lib.hid (by omega)
  have B1 := Lib.hid hb1; have OO := Lib.hid ho1
  clear hb1 hs1 hbe1
  clear ho1
  have k1 := c_2 B1.out
  go_wp2_with fail
  refine (HNN.out _).mono ?_
  rintro e w2 ⟨rfl, ho⟩
  clear k1
  replace OO := Lib.hid (OO.out.nil_trans ho); replace B1 := Lib.hid (ho.got B1.out (by simp))
  clear ho
  have k1 := c_2 B1.out
  go_wp2
  have HD := setCell_got (o := 1) (.int .i64 0) (setCell_got (o := 0) (.int .i64 0) (B1.out))
  have e0 := cell_got HD 0; have e1 := cell_got HD 1; have le := got_lt HD
  refine bodyPost_ret (v := .tuple #[.agg #[.int .i64 0, .int .i64 0], .int .i64 1]) (by simp [results, Tryz.results19, go_sem, e0, e1]) rfl ⟨rfl, ((OO.out.setCell (.inr HN.out) _).setCell (.inr HN.out) _)⟩
set_option maxRecDepth 100000 in
set_option maxHeartbeats 2000000 in
theorem nCands (raw : Int) (w : World) :
    Calls Tryz.prog 29 #[.pointer none, .int .i64 raw] w fun e w' => e = .returned (.slice none 0 0) ∧ Only [] w w' := by
  have HNN := Lib.hid (fun w' => nNow raw w')
  go_enter Tryz.func29, Tryz.ntmps29
  go_wp2_with fail
  refine (HNN.out _).mono ?_
  rintro e w1 ⟨rfl, ho⟩
  go_wp2
  go_ret
  exact ⟨rfl, ho⟩
set_option maxRecDepth 100000 in
set_option maxHeartbeats 2000000 in
theorem nRoot (w : World) :
    Calls Tryz.prog 30 #[.pointer none] w fun e w' => e = .returned (.agg #[.int .i64 0, .int .i64 0, .int .i64 0, .int .u32 0]) ∧ Only [] w w' := by
  go_enter Tryz.func30, Tryz.ntmps30
  go_upto_region 1 with (fail)
  refine alloc_abs (G := fun w0 => Code.wp _ _ _ _ w0) ?_
  intro w1 hb1 ho1 hs1
  obtain ⟨b1, hbe1⟩ : ∃ b, w.heap.size = b := ⟨_, rfl⟩
  rw [hbe1] at hb1
  rw [hbe1]
  have HN : Hid (w.heap.size ≤ b1) := Lib.hid (by omega)
  have B1 := Lib.hid hb1; have OO := Lib.hid ho1
  clear hb1 hs1 hbe1
  clear ho1
  have k1 := c_4 B1.out
  go_wp2
  have HD := setCell_got (o := 3) (.int .u32 0) (setCell_got (o := 2) (.int .i64 0) (setCell_got (o := 1) (.int .i64 0) (setCell_got (o := 0) (.int .i64 0) (B1.out))))
  have e0 := cell_got HD 0; have e1 := cell_got HD 1; have e2 := cell_got HD 2; have e3 := cell_got HD 3; have le := got_lt HD
  refine bodyPost_ret (v := .agg #[.int .i64 0, .int .i64 0, .int .i64 0, .int .u32 0]) (by simp [results, Tryz.results30, go_sem, e0, e1, e2, e3]) rfl ⟨rfl, ((((OO.out.setCell (.inr HN.out) _).setCell (.inr HN.out) _).setCell (.inr HN.out) _).setCell (.inr HN.out) _)⟩
set_option maxRecDepth 100000 in
set_option maxHeartbeats 2000000 in
theorem nClock (w : World) :
    Calls Tryz.prog 24 #[.pointer none] w fun e w' => e = .returned (.agg #[.int .i64 0, .int .i64 0, .int .i64 0, .int .i64 0, .int .i64 0, .int .i64 0]) ∧ Only [] w w' := by
  go_enter Tryz.func24, Tryz.ntmps24
  go_upto_region 1 with (fail)
  refine alloc_abs (G := fun w0 => Code.wp _ _ _ _ w0) ?_
  intro w1 hb1 ho1 hs1
  obtain ⟨b1, hbe1⟩ : ∃ b, w.heap.size = b := ⟨_, rfl⟩
  rw [hbe1] at hb1
  rw [hbe1]
  have HN : Hid (w.heap.size ≤ b1) := Lib.hid (by omega)
  have B1 := Lib.hid hb1; have OO := Lib.hid ho1
  clear hb1 hs1 hbe1
  clear ho1
  have k1 := c_6 B1.out
  go_wp2
  have HD := setCell_got (o := 5) (.int .i64 0) (setCell_got (o := 4) (.int .i64 0) (setCell_got (o := 3) (.int .i64 0) (setCell_got (o := 2) (.int .i64 0) (setCell_got (o := 1) (.int .i64 0) (setCell_got (o := 0) (.int .i64 0) (B1.out))))))
  have e0 := cell_got HD 0; have e1 := cell_got HD 1; have e2 := cell_got HD 2; have e3 := cell_got HD 3; have e4 := cell_got HD 4; have e5 := cell_got HD 5; have le := got_lt HD
  refine bodyPost_ret (v := .agg #[.int .i64 0, .int .i64 0, .int .i64 0, .int .i64 0, .int .i64 0, .int .i64 0]) (by simp [results, Tryz.results24, go_sem, e0, e1, e2, e3, e4, e5]) rfl ⟨rfl, ((((((OO.out.setCell (.inr HN.out) _).setCell (.inr HN.out) _).setCell (.inr HN.out) _).setCell (.inr HN.out) _).setCell (.inr HN.out) _).setCell (.inr HN.out) _)⟩
set_option maxRecDepth 100000 in
set_option maxHeartbeats 2000000 in
theorem nReach (s : Int) (w : World) :
    Calls Tryz.prog 31 #[.pointer none, .int .i64 s] w fun e w' => e = .returned (.agg #[.int .i64 0, .int .i64 0, .int .i64 0, .int .i64 0, .int .i64 0]) ∧ Only [] w w' := by
  go_enter Tryz.func31, Tryz.ntmps31
  go_upto_region 1 with (fail)
  refine alloc_abs (G := fun w0 => Code.wp _ _ _ _ w0) ?_
  intro w1 hb1 ho1 hs1
  obtain ⟨b1, hbe1⟩ : ∃ b, w.heap.size = b := ⟨_, rfl⟩
  rw [hbe1] at hb1
  rw [hbe1]
  have HN : Hid (w.heap.size ≤ b1) := Lib.hid (by omega)
  have B1 := Lib.hid hb1; have OO := Lib.hid ho1
  clear hb1 hs1 hbe1
  clear ho1
  have k1 := c_5 B1.out
  go_wp2
  have HD := setCell_got (o := 4) (.int .i64 0) (setCell_got (o := 3) (.int .i64 0) (setCell_got (o := 2) (.int .i64 0) (setCell_got (o := 1) (.int .i64 0) (setCell_got (o := 0) (.int .i64 0) (B1.out)))))
  have e0 := cell_got HD 0; have e1 := cell_got HD 1; have e2 := cell_got HD 2; have e3 := cell_got HD 3; have e4 := cell_got HD 4; have le := got_lt HD
  refine bodyPost_ret (v := .agg #[.int .i64 0, .int .i64 0, .int .i64 0, .int .i64 0, .int .i64 0]) (by simp [results, Tryz.results31, go_sem, e0, e1, e2, e3, e4]) rfl ⟨rfl, (((((OO.out.setCell (.inr HN.out) _).setCell (.inr HN.out) _).setCell (.inr HN.out) _).setCell (.inr HN.out) _).setCell (.inr HN.out) _)⟩
set_option maxRecDepth 100000 in
set_option maxHeartbeats 2000000 in
theorem nobody_walk (s raw : Int) (p0 p1 p2 p3 p4 p5 p6 p7 p8 p9 p10 p11 p12 : Int) (w : World) :
    Calls Tryz.prog 7 #[.int .i64 s, .int .i64 raw, .agg #[.int .i64 p0, .int .i64 p1, .int .i64 p2, .int .i64 p3, .int .i64 p4, .int .i64 p5, .int .u32 p6, .int .u32 p7, .int .u32 p8, .int .u64 p9, .int .u64 p10, .int .u64 p11, .int .u64 p12]] w fun e w' => e = .returned (.bool true) ∧ Only [] w w' := by
  go_enter Tryz.func7, Tryz.ntmps7
  go_upto_region 1 with (fail)
  refine alloc_abs (G := fun w0 => Code.wp _ _ _ _ w0) ?_
  intro w1 hb1 ho1 hs1
  obtain ⟨b1, hbe1⟩ : ∃ b, w.heap.size = b := ⟨_, rfl⟩
  rw [hbe1] at hb1
  rw [hbe1]
  have HN : Hid (w.heap.size ≤ b1) := Lib.hid (by omega)
  have B1 := Lib.hid hb1; have OO := Lib.hid ho1
  clear hb1 hs1 hbe1
  clear ho1
  have k1 := c_13 B1.out
  go_wp2_with fail
  refine (nSend s raw 1 _).mono ?_
  rintro e w2 ⟨rfl, ho⟩
  clear k1
  replace OO := Lib.hid (OO.out.nil_trans ho); replace B1 := Lib.hid (ho.got B1.out (by simp))
  clear ho
  have k1 := c_13 B1.out
  go_upto_region 3 with (fail)
  refine alloc_abs (G := fun w0 => Code.wp _ _ _ _ w0) ?_
  intro w3 hb ho hs
  obtain ⟨b2, hbe⟩ : ∃ b, w2.heap.size = b := ⟨_, rfl⟩
  rw [hbe] at hb
  rw [hbe]
  have HN2 : Hid (w.heap.size ≤ b2) := Lib.hid (by rw [← hbe]; exact OO.out.size)
  have HM2_1 : Hid (b1 ≠ b2) := Lib.hid (by omega)
  clear k1
  replace OO := Lib.hid (OO.out.nil_trans ho); replace B1 := Lib.hid (ho.got B1.out (by simp)); have B2 := Lib.hid hb
  clear hb ho hs hbe
  have k1 := c_13 B1.out; have k2 := c_13 B2.out
  go_wp2_with fail
  refine (nRecv s p0 p1 p2 p3 p4 p5 p6 p7 p8 p9 p10 p11 p12 0 0 true raw _).mono ?_
  rintro e w4 ⟨rfl, ho⟩
  clear k1 k2
  replace OO := Lib.hid (OO.out.nil_trans ho); replace B1 := Lib.hid (ho.got B1.out (by simp)); replace B2 := Lib.hid (ho.got B2.out (by simp))
  clear ho
  have k1 := c_13 B1.out; have k2 := c_13 B2.out
  go_upto_region 4 with (fail)
  refine alloc_abs (G := fun w0 => Code.wp _ _ _ _ w0) ?_
  intro w5 hb ho hs
  obtain ⟨b3, hbe⟩ : ∃ b, w4.heap.size = b := ⟨_, rfl⟩
  rw [hbe] at hb
  rw [hbe]
  have HN3 : Hid (w.heap.size ≤ b3) := Lib.hid (by rw [← hbe]; exact OO.out.size)
  have HM3_1 : Hid (b1 ≠ b3) := Lib.hid (by omega)
  have HM3_2 : Hid (b2 ≠ b3) := Lib.hid (by omega)
  clear k1 k2
  replace OO := Lib.hid (OO.out.nil_trans ho); replace B1 := Lib.hid (ho.got B1.out (by simp)); replace B2 := Lib.hid (ho.got B2.out (by simp)); have B3 := Lib.hid hb
  clear hb ho hs hbe
  have k1 := c_13 B1.out; have k2 := c_13 B2.out; have k3 := c_6 B3.out
  go_wp2_with fail
  refine (nUpdate raw _).mono ?_
  rintro e w6 ⟨rfl, ho⟩
  clear k1 k2 k3
  replace OO := Lib.hid (OO.out.nil_trans ho); replace B1 := Lib.hid (ho.got B1.out (by simp)); replace B2 := Lib.hid (ho.got B2.out (by simp)); replace B3 := Lib.hid (ho.got B3.out (by simp))
  clear ho
  have k1 := c_13 B1.out; have k2 := c_13 B2.out; have k3 := c_6 B3.out
  go_upto_region 5 with (fail)
  refine alloc_abs (G := fun w0 => Code.wp _ _ _ _ w0) ?_
  intro w7 hb ho hs
  obtain ⟨b4, hbe⟩ : ∃ b, w6.heap.size = b := ⟨_, rfl⟩
  rw [hbe] at hb
  rw [hbe]
  have HN4 : Hid (w.heap.size ≤ b4) := Lib.hid (by rw [← hbe]; exact OO.out.size)
  have HM4_1 : Hid (b1 ≠ b4) := Lib.hid (by omega)
  have HM4_2 : Hid (b2 ≠ b4) := Lib.hid (by omega)
  have HM4_3 : Hid (b3 ≠ b4) := Lib.hid (by omega)
  clear k1 k2 k3
  replace OO := Lib.hid (OO.out.nil_trans ho); replace B1 := Lib.hid (ho.got B1.out (by simp)); replace B2 := Lib.hid (ho.got B2.out (by simp)); replace B3 := Lib.hid (ho.got B3.out (by simp)); have B4 := Lib.hid hb
  clear hb ho hs hbe
  have k1 := c_13 B1.out; have k2 := c_13 B2.out; have k3 := c_6 B3.out; have k4 := c_2 B4.out
  go_wp2_with fail
  refine (nNow raw _).mono ?_
  rintro e w8 ⟨rfl, ho⟩
  clear k1 k2 k3 k4
  replace OO := Lib.hid (OO.out.nil_trans ho); replace B1 := Lib.hid (ho.got B1.out (by simp)); replace B2 := Lib.hid (ho.got B2.out (by simp)); replace B3 := Lib.hid (ho.got B3.out (by simp)); replace B4 := Lib.hid (ho.got B4.out (by simp))
  clear ho
  have k1 := c_13 B1.out; have k2 := c_13 B2.out; have k3 := c_6 B3.out; have k4 := c_2 B4.out
  go_wp2_with fail
  refine (nInterval raw _).mono ?_
  rintro e w9 ⟨rfl, ho⟩
  clear k1 k2 k3 k4
  replace OO := Lib.hid (OO.out.nil_trans ho); replace B1 := Lib.hid (ho.got B1.out (by simp)); replace B2 := Lib.hid (ho.got B2.out (by simp)); replace B3 := Lib.hid (ho.got B3.out (by simp)); replace B4 := Lib.hid (ho.got B4.out (by simp))
  clear ho
  have k1 := c_13 B1.out; have k2 := c_13 B2.out; have k3 := c_6 B3.out; have k4 := c_2 B4.out
  go_upto_region 7 with (fail)
  refine alloc_abs (G := fun w0 => Code.wp _ _ _ _ w0) ?_
  intro w10 hb ho hs
  obtain ⟨b5, hbe⟩ : ∃ b, w9.heap.size = b := ⟨_, rfl⟩
  rw [hbe] at hb
  rw [hbe]
  have HN5 : Hid (w.heap.size ≤ b5) := Lib.hid (by rw [← hbe]; exact OO.out.size)
  have HM5_1 : Hid (b1 ≠ b5) := Lib.hid (by omega)
  have HM5_2 : Hid (b2 ≠ b5) := Lib.hid (by omega)
  have HM5_3 : Hid (b3 ≠ b5) := Lib.hid (by omega)
  have HM5_4 : Hid (b4 ≠ b5) := Lib.hid (by omega)
  clear k1 k2 k3 k4
  replace OO := Lib.hid (OO.out.nil_trans ho); replace B1 := Lib.hid (ho.got B1.out (by simp)); replace B2 := Lib.hid (ho.got B2.out (by simp)); replace B3 := Lib.hid (ho.got B3.out (by simp)); replace B4 := Lib.hid (ho.got B4.out (by simp)); have B5 := Lib.hid hb
  clear hb ho hs hbe
  have k1 := c_13 B1.out; have k2 := c_13 B2.out; have k3 := c_6 B3.out; have k4 := c_2 B4.out; have k5 := c_2 B5.out
  go_wp2_with fail
  refine (nCands raw _).mono ?_
  rintro e w11 ⟨rfl, ho⟩
  clear k1 k2 k3 k4 k5
  replace OO := Lib.hid (OO.out.nil_trans ho); replace B1 := Lib.hid (ho.got B1.out (by simp)); replace B2 := Lib.hid (ho.got B2.out (by simp)); replace B3 := Lib.hid (ho.got B3.out (by simp)); replace B4 := Lib.hid (ho.got B4.out (by simp)); replace B5 := Lib.hid (ho.got B5.out (by simp))
  clear ho
  have k1 := c_13 B1.out; have k2 := c_13 B2.out; have k3 := c_6 B3.out; have k4 := c_2 B4.out; have k5 := c_2 B5.out
  go_wp2_with fail
  refine (nRoot _).mono ?_
  rintro e w12 ⟨rfl, ho⟩
  clear k1 k2 k3 k4 k5
  replace OO := Lib.hid (OO.out.nil_trans ho); replace B1 := Lib.hid (ho.got B1.out (by simp)); replace B2 := Lib.hid (ho.got B2.out (by simp)); replace B3 := Lib.hid (ho.got B3.out (by simp)); replace B4 := Lib.hid (ho.got B4.out (by simp)); replace B5 := Lib.hid (ho.got B5.out (by simp))
  clear ho
  have k1 := c_13 B1.out; have k2 := c_13 B2.out; have k3 := c_6 B3.out; have k4 := c_2 B4.out; have k5 := c_2 B5.out
  go_wp2_with fail
  refine (nClock _).mono ?_
  rintro e w13 ⟨rfl, ho⟩
  clear k1 k2 k3 k4 k5
  replace OO := Lib.hid (OO.out.nil_trans ho); replace B1 := Lib.hid (ho.got B1.out (by simp)); replace B2 := Lib.hid (ho.got B2.out (by simp)); replace B3 := Lib.hid (ho.got B3.out (by simp)); replace B4 := Lib.hid (ho.got B4.out (by simp)); replace B5 := Lib.hid (ho.got B5.out (by simp))
  clear ho
  have k1 := c_13 B1.out; have k2 := c_13 B2.out; have k3 := c_6 B3.out; have k4 := c_2 B4.out; have k5 := c_2 B5.out
  go_wp2_with fail
  refine (nReach s _).mono ?_
  rintro e w14 ⟨rfl, ho⟩
  clear k1 k2 k3 k4 k5
  replace OO := Lib.hid (OO.out.nil_trans ho); replace B1 := Lib.hid (ho.got B1.out (by simp)); replace B2 := Lib.hid (ho.got B2.out (by simp)); replace B3 := Lib.hid (ho.got B3.out (by simp)); replace B4 := Lib.hid (ho.got B4.out (by simp)); replace B5 := Lib.hid (ho.got B5.out (by simp))
  clear ho
  have k1 := c_13 B1.out; have k2 := c_13 B2.out; have k3 := c_6 B3.out; have k4 := c_2 B4.out; have k5 := c_2 B5.out
  go_wp2_with fail
  refine (pAwake _).mono ?_
  rintro e w15 ⟨rfl, ho⟩
  clear k1 k2 k3 k4 k5
  replace OO := Lib.hid (OO.out.nil_trans ho); replace B1 := Lib.hid (ho.got B1.out (by simp)); replace B2 := Lib.hid (ho.got B2.out (by simp)); replace B3 := Lib.hid (ho.got B3.out (by simp)); replace B4 := Lib.hid (ho.got B4.out (by simp)); replace B5 := Lib.hid (ho.got B5.out (by simp))
  clear ho
  have k1 := c_13 B1.out; have k2 := c_13 B2.out; have k3 := c_6 B3.out; have k4 := c_2 B4.out; have k5 := c_2 B5.out
  go_wp2
  go_ret
  exact ⟨rfl, OO.out⟩
end Go.Proofs.YtikjdmbfjkbndaaGreat
