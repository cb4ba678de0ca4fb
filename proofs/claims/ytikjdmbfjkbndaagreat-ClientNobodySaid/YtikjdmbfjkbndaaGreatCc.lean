/- The walks of assoc.refuse. Conditions: those named in each theorem. -/
import Derived.Test.YtikjdmbfjkbndaaGreatCb
import Derived.BigQuiet
namespace Go.Proofs.YtikjdmbfjkbndaaGreat
open Go.RowKit

@[go_sem ↓] theorem req_neq (t n : Int) (w : World) : (binOp .neq 152 (.agg #[.int .i64 t, .int .u64 n]) (.agg #[.int .i64 0, .int .u64 0])).run Tryz.prog w = .ok (.bool (!(t == 0 && n == 0))) w := by
  by_cases h1 : t = 0
  · by_cases h2 : n = 0
    · simp [go_sem, h1, h2]
    · simp [go_sem, h1, h2]
  · simp [go_sem, h1]
def refV : Option Int → Value
  | some k => .tuple #[hdV (hdK k), .bool true]
  | none => .tuple #[hdV (hdK 0), .bool false]
set_option maxRecDepth 100000 in
set_option maxHeartbeats 2000000 in
theorem pRefuse {w : World} {b : Nat} {a : As} (ha : AsAt w b a) (p : Np) (now : Int) :
    Calls Tryz.prog 75 #[.pointer (some ⟨b, 0, none⟩), npV p, .int .i64 now] w fun e w' => e = .returned (refV (aRef a p now)) ∧ Only [] w w' := by
  obtain ⟨c0, c1, c2, c3, c4, c5, c6, c7, hA⟩ := ha
  obtain ⟨ver, t1, nonce, pend, xmt⟩ := a
  obtain ⟨p1, p2, p3, p4, p5, p6, p7, p8, p9, pa, pb, pc, pd⟩ := p
  dsimp only at hA
  have HC := Lib.hid (fun w' => pNChk ⟨p1, p2, p3, p4, p5, p6, p7, p8, p9, pa, pb, pc, pd⟩ w')
  have HT := Lib.hid (fun w' => pReading now w')
  have hno : nchk ⟨p1, p2, p3, p4, p5, p6, p7, p8, p9, pa, pb, pc, pd⟩ = 0 ∨ nchk ⟨p1, p2, p3, p4, p5, p6, p7, p8, p9, pa, pb, pc, pd⟩ = 3 := by unfold nchk; split <;> simp
  obtain ⟨sn, hsn⟩ : ∃ sn, (!(t1 == 0 && nonce == 0)) = sn := ⟨_, rfl⟩
  have hsp : (t1 ≠ 0 ∨ nonce ≠ 0) ↔ sn = true := by
    rw [← hsn]
    by_cases a1 : t1 = 0 <;> by_cases a2 : nonce = 0 <;> simp [a1, a2]
  have HE : Hid (aRef ⟨ver, t1, nonce, pend, xmt⟩ ⟨p1, p2, p3, p4, p5, p6, p7, p8, p9, pa, pb, pc, pd⟩ now = if nchk ⟨p1, p2, p3, p4, p5, p6, p7, p8, p9, pa, pb, pc, pd⟩ = 0 ∧ p3 = 4 ∧ isT now = true ∧ ¬ (sn = true ∧ now < t1) then (if pend = true then (if pb = nonce then (if pd ≠ 0 ∧ pd = xmt then some 3 else none) else some 2) else some 1) else some 0) := Lib.hid (by unfold aRef; simp only [hsp])
  clear hsp
  generalize aRef ⟨ver, t1, nonce, pend, xmt⟩ ⟨p1, p2, p3, p4, p5, p6, p7, p8, p9, pa, pb, pc, pd⟩ now = res at HE ⊢
  generalize nchk ⟨p1, p2, p3, p4, p5, p6, p7, p8, p9, pa, pb, pc, pd⟩ = er at HC HE hno
  generalize isT now = tn at HT HE
  unfold npV at HC ⊢
  dsimp only at HC ⊢
  rcases hno with rfl | rfl
  rotate_left
  · obtain rfl : res = some 0 := by have := HE.out; simpa using this
    clear HE
    go_enter Tryz.func75, Tryz.ntmps75
    go_upto_region 1 with (fail)
    refine wabs (G := fun w0 => Code.wp _ _ _ _ w0) (R := fun w1 => w1.heap[w.heap.size]? = some (.cells #[.int .i64 p1, .int .i64 p2, .int .i64 p3, .int .i64 p4, .int .i64 p5, .int .i64 p6, .int .u32 p7, .int .u32 p8, .int .u32 p9, .int .u64 pa, .int .u64 pb, .int .u64 pc, .int .u64 pd] 33 (0, 0)) ∧ w1.heap[w.heap.size + 1]? = some (.cells #[.int .i64 0, .string ⟨#[]⟩, .int .i64 0, .int .i64 0, .int .i64 0, .int .i64 0] 41 (0, 0)) ∧ Only [] w w1) ?_ ?_
    · skip
      have k0 := alloc_new w (.cells #[.int .i64 p1, .int .i64 p2, .int .i64 p3, .int .i64 p4, .int .i64 p5, .int .i64 p6, .int .u32 p7, .int .u32 p8, .int .u32 p9, .int .u64 pa, .int .u64 pb, .int .u64 pc, .int .u64 pd] 33)
      have k1 := alloc_new (w.alloc (.cells #[.int .i64 p1, .int .i64 p2, .int .i64 p3, .int .i64 p4, .int .i64 p5, .int .i64 p6, .int .u32 p7, .int .u32 p8, .int .u32 p9, .int .u64 pa, .int .u64 pb, .int .u64 pc, .int .u64 pd] 33)) (.cells #[.int .i64 0, .string ⟨#[]⟩, .int .i64 0, .int .i64 0, .int .i64 0, .int .i64 0] 41)
      simp only [World.size_alloc] at k0 k1
      exact ⟨(alloc_old k0), k1, (((Only.refl [] w).alloc _).alloc _)⟩
    rintro w1 ⟨h1, h2, ho1⟩
    obtain ⟨b1, hb1⟩ : ∃ b, w.heap.size = b := ⟨_, rfl⟩
    obtain ⟨b2, hb2⟩ : ∃ b, w.heap.size + 1 = b := ⟨_, rfl⟩
    have HN : Hid (w.heap.size ≤ b1 ∧ w.heap.size ≤ b2 ∧ b1 ≠ b2 ∧ b2 ≠ b1) := Lib.hid (by omega)
    rw [hb1] at h1
    rw [hb2] at h2
    rw [show w.heap.size + 1 = b2 from hb2, hb1]
    have B1 := Lib.hid h1; have B2 := Lib.hid h2; have OO := Lib.hid ho1
    clear h1 h2 hb1 hb2
    have B3 := Lib.hid (ho1.got hA (by simp)); have HX3 := Lib.hid (got_lt hA)
    clear ho1
    have k1 := c_13 B1.out; have k2 := c_6 B2.out; have k3 := c_13 B3.out
    go_wp2_with fail
    refine (HC.out _).mono ?_
    rintro e w2 ⟨rfl, ho⟩
    clear k1 k2 k3
    replace OO := Lib.hid (OO.out.nil_trans ho); replace B1 := Lib.hid (ho.got B1.out (by simp)); replace B2 := Lib.hid (ho.got B2.out (by simp)); replace B3 := Lib.hid (ho.got B3.out (by simp))
    clear ho
    have k1 := c_13 B1.out; have k2 := c_6 B2.out; have k3 := c_13 B3.out
    go_wp2
    have HD := setCell_got (o := 5) (.int .i64 0) (setCell_got (o := 4) (.int .i64 0) (setCell_got (o := 3) (.int .i64 0) (setCell_got (o := 2) (.int .i64 0) (setCell_got (o := 1) (.string ⟨#[]⟩) (setCell_got (o := 0) (.int .i64 0) (B2.out))))))
    have e0 := cell_got HD 0; have e1 := cell_got HD 1; have e2 := cell_got HD 2; have e3 := cell_got HD 3; have e4 := cell_got HD 4; have e5 := cell_got HD 5; have le := got_lt HD
    refine bodyPost_ret (v := .tuple #[.agg #[.int .i64 0, .string ⟨#[]⟩, .int .i64 0, .int .i64 0, .int .i64 0, .int .i64 0], .bool true]) (by simp [results, Tryz.results75, go_sem, e0, e1, e2, e3, e4, e5]) rfl ⟨rfl, ((((((OO.out.setCell (.inr HN.out.2.1) _).setCell (.inr HN.out.2.1) _).setCell (.inr HN.out.2.1) _).setCell (.inr HN.out.2.1) _).setCell (.inr HN.out.2.1) _).setCell (.inr HN.out.2.1) _)⟩
  by_cases hm : p3 = 4
  rotate_left
  · have q1 : (p3 != 4) = true := by simpa using hm
    obtain rfl : res = some 0 := by have := HE.out; simpa [hm] using this
    clear HE
    go_enter Tryz.func75, Tryz.ntmps75
    go_upto_region 1 with (fail)
    refine wabs (G := fun w0 => Code.wp _ _ _ _ w0) (R := fun w1 => w1.heap[w.heap.size]? = some (.cells #[.int .i64 p1, .int .i64 p2, .int .i64 p3, .int .i64 p4, .int .i64 p5, .int .i64 p6, .int .u32 p7, .int .u32 p8, .int .u32 p9, .int .u64 pa, .int .u64 pb, .int .u64 pc, .int .u64 pd] 33 (0, 0)) ∧ w1.heap[w.heap.size + 1]? = some (.cells #[.int .i64 0, .string ⟨#[]⟩, .int .i64 0, .int .i64 0, .int .i64 0, .int .i64 0] 41 (0, 0)) ∧ Only [] w w1) ?_ ?_
    · skip
      have k0 := alloc_new w (.cells #[.int .i64 p1, .int .i64 p2, .int .i64 p3, .int .i64 p4, .int .i64 p5, .int .i64 p6, .int .u32 p7, .int .u32 p8, .int .u32 p9, .int .u64 pa, .int .u64 pb, .int .u64 pc, .int .u64 pd] 33)
      have k1 := alloc_new (w.alloc (.cells #[.int .i64 p1, .int .i64 p2, .int .i64 p3, .int .i64 p4, .int .i64 p5, .int .i64 p6, .int .u32 p7, .int .u32 p8, .int .u32 p9, .int .u64 pa, .int .u64 pb, .int .u64 pc, .int .u64 pd] 33)) (.cells #[.int .i64 0, .string ⟨#[]⟩, .int .i64 0, .int .i64 0, .int .i64 0, .int .i64 0] 41)
      simp only [World.size_alloc] at k0 k1
      exact ⟨(alloc_old k0), k1, (((Only.refl [] w).alloc _).alloc _)⟩
    rintro w1 ⟨h1, h2, ho1⟩
    obtain ⟨b1, hb1⟩ : ∃ b, w.heap.size = b := ⟨_, rfl⟩
    obtain ⟨b2, hb2⟩ : ∃ b, w.heap.size + 1 = b := ⟨_, rfl⟩
    have HN : Hid (w.heap.size ≤ b1 ∧ w.heap.size ≤ b2 ∧ b1 ≠ b2 ∧ b2 ≠ b1) := Lib.hid (by omega)
    rw [hb1] at h1
    rw [hb2] at h2
    rw [show w.heap.size + 1 = b2 from hb2, hb1]
    have B1 := Lib.hid h1; have B2 := Lib.hid h2; have OO := Lib.hid ho1
    clear h1 h2 hb1 hb2
    have B3 := Lib.hid (ho1.got hA (by simp)); have HX3 := Lib.hid (got_lt hA)
    clear ho1
    have k1 := c_13 B1.out; have k2 := c_6 B2.out; have k3 := c_13 B3.out
    go_wp2_with fail
    refine (HC.out _).mono ?_
    rintro e w2 ⟨rfl, ho⟩
    clear k1 k2 k3
    replace OO := Lib.hid (OO.out.nil_trans ho); replace B1 := Lib.hid (ho.got B1.out (by simp)); replace B2 := Lib.hid (ho.got B2.out (by simp)); replace B3 := Lib.hid (ho.got B3.out (by simp))
    clear ho
    have k1 := c_13 B1.out; have k2 := c_6 B2.out; have k3 := c_13 B3.out
    go_wp2
    have HD := setCell_got (o := 5) (.int .i64 0) (setCell_got (o := 4) (.int .i64 0) (setCell_got (o := 3) (.int .i64 0) (setCell_got (o := 2) (.int .i64 0) (setCell_got (o := 1) (.string ⟨#[]⟩) (setCell_got (o := 0) (.int .i64 0) (B2.out))))))
    have e0 := cell_got HD 0; have e1 := cell_got HD 1; have e2 := cell_got HD 2; have e3 := cell_got HD 3; have e4 := cell_got HD 4; have e5 := cell_got HD 5; have le := got_lt HD
    refine bodyPost_ret (v := .tuple #[.agg #[.int .i64 0, .string ⟨#[]⟩, .int .i64 0, .int .i64 0, .int .i64 0, .int .i64 0], .bool true]) (by simp [results, Tryz.results75, go_sem, e0, e1, e2, e3, e4, e5]) rfl ⟨rfl, ((((((OO.out.setCell (.inr HN.out.2.1) _).setCell (.inr HN.out.2.1) _).setCell (.inr HN.out.2.1) _).setCell (.inr HN.out.2.1) _).setCell (.inr HN.out.2.1) _).setCell (.inr HN.out.2.1) _)⟩
  subst hm
  cases tn
  · obtain rfl : res = some 0 := by have := HE.out; simpa using this
    clear HE
    go_enter Tryz.func75, Tryz.ntmps75
    go_upto_region 1 with (fail)
    refine wabs (G := fun w0 => Code.wp _ _ _ _ w0) (R := fun w1 => w1.heap[w.heap.size]? = some (.cells #[.int .i64 p1, .int .i64 p2, .int .i64 4, .int .i64 p4, .int .i64 p5, .int .i64 p6, .int .u32 p7, .int .u32 p8, .int .u32 p9, .int .u64 pa, .int .u64 pb, .int .u64 pc, .int .u64 pd] 33 (0, 0)) ∧ w1.heap[w.heap.size + 1]? = some (.cells #[.int .i64 0, .string ⟨#[]⟩, .int .i64 0, .int .i64 0, .int .i64 0, .int .i64 0] 41 (0, 0)) ∧ Only [] w w1) ?_ ?_
    · skip
      have k0 := alloc_new w (.cells #[.int .i64 p1, .int .i64 p2, .int .i64 4, .int .i64 p4, .int .i64 p5, .int .i64 p6, .int .u32 p7, .int .u32 p8, .int .u32 p9, .int .u64 pa, .int .u64 pb, .int .u64 pc, .int .u64 pd] 33)
      have k1 := alloc_new (w.alloc (.cells #[.int .i64 p1, .int .i64 p2, .int .i64 4, .int .i64 p4, .int .i64 p5, .int .i64 p6, .int .u32 p7, .int .u32 p8, .int .u32 p9, .int .u64 pa, .int .u64 pb, .int .u64 pc, .int .u64 pd] 33)) (.cells #[.int .i64 0, .string ⟨#[]⟩, .int .i64 0, .int .i64 0, .int .i64 0, .int .i64 0] 41)
      simp only [World.size_alloc] at k0 k1
      exact ⟨(alloc_old k0), k1, (((Only.refl [] w).alloc _).alloc _)⟩
    rintro w1 ⟨h1, h2, ho1⟩
    obtain ⟨b1, hb1⟩ : ∃ b, w.heap.size = b := ⟨_, rfl⟩
    obtain ⟨b2, hb2⟩ : ∃ b, w.heap.size + 1 = b := ⟨_, rfl⟩
    have HN : Hid (w.heap.size ≤ b1 ∧ w.heap.size ≤ b2 ∧ b1 ≠ b2 ∧ b2 ≠ b1) := Lib.hid (by omega)
    rw [hb1] at h1
    rw [hb2] at h2
    rw [show w.heap.size + 1 = b2 from hb2, hb1]
    have B1 := Lib.hid h1; have B2 := Lib.hid h2; have OO := Lib.hid ho1
    clear h1 h2 hb1 hb2
    have B3 := Lib.hid (ho1.got hA (by simp)); have HX3 := Lib.hid (got_lt hA)
    clear ho1
    have k1 := c_13 B1.out; have k2 := c_6 B2.out; have k3 := c_13 B3.out
    go_wp2_with fail
    refine (HC.out _).mono ?_
    rintro e w2 ⟨rfl, ho⟩
    clear k1 k2 k3
    replace OO := Lib.hid (OO.out.nil_trans ho); replace B1 := Lib.hid (ho.got B1.out (by simp)); replace B2 := Lib.hid (ho.got B2.out (by simp)); replace B3 := Lib.hid (ho.got B3.out (by simp))
    clear ho
    have k1 := c_13 B1.out; have k2 := c_6 B2.out; have k3 := c_13 B3.out
    go_wp2_with fail
    refine (HT.out _).mono ?_
    rintro e w3 ⟨rfl, ho⟩
    clear k1 k2 k3
    replace OO := Lib.hid (OO.out.nil_trans ho); replace B1 := Lib.hid (ho.got B1.out (by simp)); replace B2 := Lib.hid (ho.got B2.out (by simp)); replace B3 := Lib.hid (ho.got B3.out (by simp))
    clear ho
    have k1 := c_13 B1.out; have k2 := c_6 B2.out; have k3 := c_13 B3.out
    go_wp2
    have HD := setCell_got (o := 5) (.int .i64 0) (setCell_got (o := 4) (.int .i64 0) (setCell_got (o := 3) (.int .i64 0) (setCell_got (o := 2) (.int .i64 0) (setCell_got (o := 1) (.string ⟨#[]⟩) (setCell_got (o := 0) (.int .i64 0) (B2.out))))))
    have e0 := cell_got HD 0; have e1 := cell_got HD 1; have e2 := cell_got HD 2; have e3 := cell_got HD 3; have e4 := cell_got HD 4; have e5 := cell_got HD 5; have le := got_lt HD
    refine bodyPost_ret (v := .tuple #[.agg #[.int .i64 0, .string ⟨#[]⟩, .int .i64 0, .int .i64 0, .int .i64 0, .int .i64 0], .bool true]) (by simp [results, Tryz.results75, go_sem, e0, e1, e2, e3, e4, e5]) rfl ⟨rfl, ((((((OO.out.setCell (.inr HN.out.2.1) _).setCell (.inr HN.out.2.1) _).setCell (.inr HN.out.2.1) _).setCell (.inr HN.out.2.1) _).setCell (.inr HN.out.2.1) _).setCell (.inr HN.out.2.1) _)⟩
  · cases sn
    · cases pend
      · obtain rfl : res = some 1 := by have := HE.out; simpa using this
        clear HE
        go_enter Tryz.func75, Tryz.ntmps75
        go_upto_region 1 with (fail)
        refine wabs (G := fun w0 => Code.wp _ _ _ _ w0) (R := fun w1 => w1.heap[w.heap.size]? = some (.cells #[.int .i64 p1, .int .i64 p2, .int .i64 4, .int .i64 p4, .int .i64 p5, .int .i64 p6, .int .u32 p7, .int .u32 p8, .int .u32 p9, .int .u64 pa, .int .u64 pb, .int .u64 pc, .int .u64 pd] 33 (0, 0)) ∧ w1.heap[w.heap.size + 1]? = some (.cells #[.int .i64 0, .string ⟨#[]⟩, .int .i64 0, .int .i64 0, .int .i64 0, .int .i64 0] 41 (0, 0)) ∧ Only [] w w1) ?_ ?_
        · skip
          have k0 := alloc_new w (.cells #[.int .i64 p1, .int .i64 p2, .int .i64 4, .int .i64 p4, .int .i64 p5, .int .i64 p6, .int .u32 p7, .int .u32 p8, .int .u32 p9, .int .u64 pa, .int .u64 pb, .int .u64 pc, .int .u64 pd] 33)
          have k1 := alloc_new (w.alloc (.cells #[.int .i64 p1, .int .i64 p2, .int .i64 4, .int .i64 p4, .int .i64 p5, .int .i64 p6, .int .u32 p7, .int .u32 p8, .int .u32 p9, .int .u64 pa, .int .u64 pb, .int .u64 pc, .int .u64 pd] 33)) (.cells #[.int .i64 0, .string ⟨#[]⟩, .int .i64 0, .int .i64 0, .int .i64 0, .int .i64 0] 41)
          simp only [World.size_alloc] at k0 k1
          exact ⟨(alloc_old k0), k1, (((Only.refl [] w).alloc _).alloc _)⟩
        rintro w1 ⟨h1, h2, ho1⟩
        obtain ⟨b1, hb1⟩ : ∃ b, w.heap.size = b := ⟨_, rfl⟩
        obtain ⟨b2, hb2⟩ : ∃ b, w.heap.size + 1 = b := ⟨_, rfl⟩
        have HN : Hid (w.heap.size ≤ b1 ∧ w.heap.size ≤ b2 ∧ b1 ≠ b2 ∧ b2 ≠ b1) := Lib.hid (by omega)
        rw [hb1] at h1
        rw [hb2] at h2
        rw [show w.heap.size + 1 = b2 from hb2, hb1]
        have B1 := Lib.hid h1; have B2 := Lib.hid h2; have OO := Lib.hid ho1
        clear h1 h2 hb1 hb2
        have B3 := Lib.hid (ho1.got hA (by simp)); have HX3 := Lib.hid (got_lt hA)
        clear ho1
        have k1 := c_13 B1.out; have k2 := c_6 B2.out; have k3 := c_13 B3.out
        go_wp2_with fail
        refine (HC.out _).mono ?_
        rintro e w2 ⟨rfl, ho⟩
        clear k1 k2 k3
        replace OO := Lib.hid (OO.out.nil_trans ho); replace B1 := Lib.hid (ho.got B1.out (by simp)); replace B2 := Lib.hid (ho.got B2.out (by simp)); replace B3 := Lib.hid (ho.got B3.out (by simp))
        clear ho
        have k1 := c_13 B1.out; have k2 := c_6 B2.out; have k3 := c_13 B3.out
        go_wp2_with fail
        refine (HT.out _).mono ?_
        rintro e w3 ⟨rfl, ho⟩
        clear k1 k2 k3
        replace OO := Lib.hid (OO.out.nil_trans ho); replace B1 := Lib.hid (ho.got B1.out (by simp)); replace B2 := Lib.hid (ho.got B2.out (by simp)); replace B3 := Lib.hid (ho.got B3.out (by simp))
        clear ho
        have k1 := c_13 B1.out; have k2 := c_6 B2.out; have k3 := c_13 B3.out
        go_wp2
        have HD := setCell_got (o := 5) (.int .i64 0) (setCell_got (o := 4) (.int .i64 0) (setCell_got (o := 3) (.int .i64 0) (setCell_got (o := 2) (.int .i64 0) (setCell_got (o := 1) (.string ⟨#[]⟩) (setCell_got (o := 0) (.int .i64 1) (B2.out))))))
        have e0 := cell_got HD 0; have e1 := cell_got HD 1; have e2 := cell_got HD 2; have e3 := cell_got HD 3; have e4 := cell_got HD 4; have e5 := cell_got HD 5; have le := got_lt HD
        refine bodyPost_ret (v := .tuple #[.agg #[.int .i64 1, .string ⟨#[]⟩, .int .i64 0, .int .i64 0, .int .i64 0, .int .i64 0], .bool true]) (by simp [results, Tryz.results75, go_sem, e0, e1, e2, e3, e4, e5]) rfl ⟨rfl, ((((((OO.out.setCell (.inr HN.out.2.1) _).setCell (.inr HN.out.2.1) _).setCell (.inr HN.out.2.1) _).setCell (.inr HN.out.2.1) _).setCell (.inr HN.out.2.1) _).setCell (.inr HN.out.2.1) _)⟩
      · by_cases ho : pb = nonce
        · subst ho
          by_cases hx0 : pd = 0
          · subst hx0
            obtain rfl : res = none := by have := HE.out; simpa using this
            clear HE
            go_enter Tryz.func75, Tryz.ntmps75
            go_upto_region 1 with (fail)
            refine wabs (G := fun w0 => Code.wp _ _ _ _ w0) (R := fun w1 => w1.heap[w.heap.size]? = some (.cells #[.int .i64 p1, .int .i64 p2, .int .i64 4, .int .i64 p4, .int .i64 p5, .int .i64 p6, .int .u32 p7, .int .u32 p8, .int .u32 p9, .int .u64 pa, .int .u64 pb, .int .u64 pc, .int .u64 0] 33 (0, 0)) ∧ w1.heap[w.heap.size + 1]? = some (.cells #[.int .i64 0, .string ⟨#[]⟩, .int .i64 0, .int .i64 0, .int .i64 0, .int .i64 0] 41 (0, 0)) ∧ Only [] w w1) ?_ ?_
            · skip
              have k0 := alloc_new w (.cells #[.int .i64 p1, .int .i64 p2, .int .i64 4, .int .i64 p4, .int .i64 p5, .int .i64 p6, .int .u32 p7, .int .u32 p8, .int .u32 p9, .int .u64 pa, .int .u64 pb, .int .u64 pc, .int .u64 0] 33)
              have k1 := alloc_new (w.alloc (.cells #[.int .i64 p1, .int .i64 p2, .int .i64 4, .int .i64 p4, .int .i64 p5, .int .i64 p6, .int .u32 p7, .int .u32 p8, .int .u32 p9, .int .u64 pa, .int .u64 pb, .int .u64 pc, .int .u64 0] 33)) (.cells #[.int .i64 0, .string ⟨#[]⟩, .int .i64 0, .int .i64 0, .int .i64 0, .int .i64 0] 41)
              simp only [World.size_alloc] at k0 k1
              exact ⟨(alloc_old k0), k1, (((Only.refl [] w).alloc _).alloc _)⟩
            rintro w1 ⟨h1, h2, ho1⟩
            obtain ⟨b1, hb1⟩ : ∃ b, w.heap.size = b := ⟨_, rfl⟩
            obtain ⟨b2, hb2⟩ : ∃ b, w.heap.size + 1 = b := ⟨_, rfl⟩
            have HN : Hid (w.heap.size ≤ b1 ∧ w.heap.size ≤ b2 ∧ b1 ≠ b2 ∧ b2 ≠ b1) := Lib.hid (by omega)
            rw [hb1] at h1
            rw [hb2] at h2
            rw [show w.heap.size + 1 = b2 from hb2, hb1]
            have B1 := Lib.hid h1; have B2 := Lib.hid h2; have OO := Lib.hid ho1
            clear h1 h2 hb1 hb2
            have B3 := Lib.hid (ho1.got hA (by simp)); have HX3 := Lib.hid (got_lt hA)
            clear ho1
            have k1 := c_13 B1.out; have k2 := c_6 B2.out; have k3 := c_13 B3.out
            go_wp2_with fail
            refine (HC.out _).mono ?_
            rintro e w2 ⟨rfl, ho⟩
            clear k1 k2 k3
            replace OO := Lib.hid (OO.out.nil_trans ho); replace B1 := Lib.hid (ho.got B1.out (by simp)); replace B2 := Lib.hid (ho.got B2.out (by simp)); replace B3 := Lib.hid (ho.got B3.out (by simp))
            clear ho
            have k1 := c_13 B1.out; have k2 := c_6 B2.out; have k3 := c_13 B3.out
            go_wp2_with fail
            refine (HT.out _).mono ?_
            rintro e w3 ⟨rfl, ho⟩
            clear k1 k2 k3
            replace OO := Lib.hid (OO.out.nil_trans ho); replace B1 := Lib.hid (ho.got B1.out (by simp)); replace B2 := Lib.hid (ho.got B2.out (by simp)); replace B3 := Lib.hid (ho.got B3.out (by simp))
            clear ho
            have k1 := c_13 B1.out; have k2 := c_6 B2.out; have k3 := c_13 B3.out
            go_upto_region 6 with (fail)
            refine wp_region_grown [0, 1, 2, 3, 4, 5, 6, 7, 8] [] (by kernel_rfl) (by kernel_rfl) ?_
            simp only [pick, List.map_cons, List.map_nil, List.getD_cons_succ, List.getD_cons_zero]
            iterate 9 (refine wpQuiet_step (fun K hK => ?_); go_simp; refine hK _ ?_; clear hK K)
            refine wpQuiet_nil ?_
            intro w4 hw
            have ho := only_of_plus hw
            clear hw
            clear k1 k2 k3
            replace OO := Lib.hid (OO.out.nil_trans ho); replace B1 := Lib.hid (ho.got B1.out (by simp)); replace B2 := Lib.hid (ho.got B2.out (by simp)); replace B3 := Lib.hid (ho.got B3.out (by simp))
            have k1 := c_13 B1.out; have k2 := c_6 B2.out; have k3 := c_13 B3.out
            clear ho
            go_upto_region 8 with (fail)
            refine wp_region_grown [0, 1, 2, 3, 4, 5, 6, 7, 8, 9, 10, 11, 12] [] (by kernel_rfl) (by kernel_rfl) ?_
            simp only [pick, List.map_cons, List.map_nil, List.getD_cons_succ, List.getD_cons_zero]
            repeat (go_big_quiet_step (fail))
            refine wpQuiet_nil ?_
            intro w5 hw
            have ho := only_of_plus hw
            clear hw
            clear k1 k2 k3
            replace OO := Lib.hid (OO.out.nil_trans ho); replace B1 := Lib.hid (ho.got B1.out (by simp)); replace B2 := Lib.hid (ho.got B2.out (by simp)); replace B3 := Lib.hid (ho.got B3.out (by simp))
            have k1 := c_13 B1.out; have k2 := c_6 B2.out; have k3 := c_13 B3.out
            clear ho
            go_wp2
            have HD := setCell_got (o := 5) (.int .i64 0) (setCell_got (o := 4) (.int .i64 0) (setCell_got (o := 3) (.int .i64 0) (setCell_got (o := 2) (.int .i64 0) (setCell_got (o := 1) (.string ⟨#[]⟩) (setCell_got (o := 0) (.int .i64 0) (B2.out))))))
            have e0 := cell_got HD 0; have e1 := cell_got HD 1; have e2 := cell_got HD 2; have e3 := cell_got HD 3; have e4 := cell_got HD 4; have e5 := cell_got HD 5; have le := got_lt HD
            refine bodyPost_ret (v := .tuple #[.agg #[.int .i64 0, .string ⟨#[]⟩, .int .i64 0, .int .i64 0, .int .i64 0, .int .i64 0], .bool false]) (by simp [results, Tryz.results75, go_sem, e0, e1, e2, e3, e4, e5]) rfl ⟨rfl, ((((((OO.out.setCell (.inr HN.out.2.1) _).setCell (.inr HN.out.2.1) _).setCell (.inr HN.out.2.1) _).setCell (.inr HN.out.2.1) _).setCell (.inr HN.out.2.1) _).setCell (.inr HN.out.2.1) _)⟩
          · have q5 : (pd != 0) = true := by simpa using hx0
            by_cases hx1 : pd = xmt
            · subst hx1
              obtain rfl : res = some 3 := by have := HE.out; simpa [hx0] using this
              clear HE hx0
              go_enter Tryz.func75, Tryz.ntmps75
              go_upto_region 1 with (fail)
              refine wabs (G := fun w0 => Code.wp _ _ _ _ w0) (R := fun w1 => w1.heap[w.heap.size]? = some (.cells #[.int .i64 p1, .int .i64 p2, .int .i64 4, .int .i64 p4, .int .i64 p5, .int .i64 p6, .int .u32 p7, .int .u32 p8, .int .u32 p9, .int .u64 pa, .int .u64 pb, .int .u64 pc, .int .u64 pd] 33 (0, 0)) ∧ w1.heap[w.heap.size + 1]? = some (.cells #[.int .i64 0, .string ⟨#[]⟩, .int .i64 0, .int .i64 0, .int .i64 0, .int .i64 0] 41 (0, 0)) ∧ Only [] w w1) ?_ ?_
              · skip
                have k0 := alloc_new w (.cells #[.int .i64 p1, .int .i64 p2, .int .i64 4, .int .i64 p4, .int .i64 p5, .int .i64 p6, .int .u32 p7, .int .u32 p8, .int .u32 p9, .int .u64 pa, .int .u64 pb, .int .u64 pc, .int .u64 pd] 33)
                have k1 := alloc_new (w.alloc (.cells #[.int .i64 p1, .int .i64 p2, .int .i64 4, .int .i64 p4, .int .i64 p5, .int .i64 p6, .int .u32 p7, .int .u32 p8, .int .u32 p9, .int .u64 pa, .int .u64 pb, .int .u64 pc, .int .u64 pd] 33)) (.cells #[.int .i64 0, .string ⟨#[]⟩, .int .i64 0, .int .i64 0, .int .i64 0, .int .i64 0] 41)
                simp only [World.size_alloc] at k0 k1
                exact ⟨(alloc_old k0), k1, (((Only.refl [] w).alloc _).alloc _)⟩
              rintro w1 ⟨h1, h2, ho1⟩
              obtain ⟨b1, hb1⟩ : ∃ b, w.heap.size = b := ⟨_, rfl⟩
              obtain ⟨b2, hb2⟩ : ∃ b, w.heap.size + 1 = b := ⟨_, rfl⟩
              have HN : Hid (w.heap.size ≤ b1 ∧ w.heap.size ≤ b2 ∧ b1 ≠ b2 ∧ b2 ≠ b1) := Lib.hid (by omega)
              rw [hb1] at h1
              rw [hb2] at h2
              rw [show w.heap.size + 1 = b2 from hb2, hb1]
              have B1 := Lib.hid h1; have B2 := Lib.hid h2; have OO := Lib.hid ho1
              clear h1 h2 hb1 hb2
              have B3 := Lib.hid (ho1.got hA (by simp)); have HX3 := Lib.hid (got_lt hA)
              clear ho1
              have k1 := c_13 B1.out; have k2 := c_6 B2.out; have k3 := c_13 B3.out
              go_wp2_with fail
              refine (HC.out _).mono ?_
              rintro e w2 ⟨rfl, ho⟩
              clear k1 k2 k3
              replace OO := Lib.hid (OO.out.nil_trans ho); replace B1 := Lib.hid (ho.got B1.out (by simp)); replace B2 := Lib.hid (ho.got B2.out (by simp)); replace B3 := Lib.hid (ho.got B3.out (by simp))
              clear ho
              have k1 := c_13 B1.out; have k2 := c_6 B2.out; have k3 := c_13 B3.out
              go_wp2_with fail
              refine (HT.out _).mono ?_
              rintro e w3 ⟨rfl, ho⟩
              clear k1 k2 k3
              replace OO := Lib.hid (OO.out.nil_trans ho); replace B1 := Lib.hid (ho.got B1.out (by simp)); replace B2 := Lib.hid (ho.got B2.out (by simp)); replace B3 := Lib.hid (ho.got B3.out (by simp))
              clear ho
              have k1 := c_13 B1.out; have k2 := c_6 B2.out; have k3 := c_13 B3.out
              go_upto_region 6 with (fail)
              refine wp_region_grown [0, 1, 2, 3, 4, 5, 6, 7, 8] [] (by kernel_rfl) (by kernel_rfl) ?_
              simp only [pick, List.map_cons, List.map_nil, List.getD_cons_succ, List.getD_cons_zero]
              iterate 9 (refine wpQuiet_step (fun K hK => ?_); go_simp; refine hK _ ?_; clear hK K)
              refine wpQuiet_nil ?_
              intro w4 hw
              have ho := only_of_plus hw
              clear hw
              clear k1 k2 k3
              replace OO := Lib.hid (OO.out.nil_trans ho); replace B1 := Lib.hid (ho.got B1.out (by simp)); replace B2 := Lib.hid (ho.got B2.out (by simp)); replace B3 := Lib.hid (ho.got B3.out (by simp))
              have k1 := c_13 B1.out; have k2 := c_6 B2.out; have k3 := c_13 B3.out
              clear ho
              go_upto_region 8 with (fail)
              refine wp_region_grown [0, 1, 2, 3, 4, 5, 6, 7, 8, 9, 10, 11, 12] [] (by kernel_rfl) (by kernel_rfl) ?_
              simp only [pick, List.map_cons, List.map_nil, List.getD_cons_succ, List.getD_cons_zero]
              repeat (go_big_quiet_step (fail))
              refine wpQuiet_nil ?_
              intro w5 hw
              have ho := only_of_plus hw
              clear hw
              clear k1 k2 k3
              replace OO := Lib.hid (OO.out.nil_trans ho); replace B1 := Lib.hid (ho.got B1.out (by simp)); replace B2 := Lib.hid (ho.got B2.out (by simp)); replace B3 := Lib.hid (ho.got B3.out (by simp))
              have k1 := c_13 B1.out; have k2 := c_6 B2.out; have k3 := c_13 B3.out
              clear ho
              go_wp2
              have HD := setCell_got (o := 5) (.int .i64 0) (setCell_got (o := 4) (.int .i64 0) (setCell_got (o := 3) (.int .i64 0) (setCell_got (o := 2) (.int .i64 0) (setCell_got (o := 1) (.string ⟨#[]⟩) (setCell_got (o := 0) (.int .i64 3) (B2.out))))))
              have e0 := cell_got HD 0; have e1 := cell_got HD 1; have e2 := cell_got HD 2; have e3 := cell_got HD 3; have e4 := cell_got HD 4; have e5 := cell_got HD 5; have le := got_lt HD
              refine bodyPost_ret (v := .tuple #[.agg #[.int .i64 3, .string ⟨#[]⟩, .int .i64 0, .int .i64 0, .int .i64 0, .int .i64 0], .bool true]) (by simp [results, Tryz.results75, go_sem, e0, e1, e2, e3, e4, e5]) rfl ⟨rfl, ((((((OO.out.setCell (.inr HN.out.2.1) _).setCell (.inr HN.out.2.1) _).setCell (.inr HN.out.2.1) _).setCell (.inr HN.out.2.1) _).setCell (.inr HN.out.2.1) _).setCell (.inr HN.out.2.1) _)⟩
            · have q6 : (pd == xmt) = false := by simpa using hx1
              obtain rfl : res = none := by have := HE.out; simpa [hx0, hx1] using this
              clear HE hx0 hx1
              go_enter Tryz.func75, Tryz.ntmps75
              go_upto_region 1 with (fail)
              refine wabs (G := fun w0 => Code.wp _ _ _ _ w0) (R := fun w1 => w1.heap[w.heap.size]? = some (.cells #[.int .i64 p1, .int .i64 p2, .int .i64 4, .int .i64 p4, .int .i64 p5, .int .i64 p6, .int .u32 p7, .int .u32 p8, .int .u32 p9, .int .u64 pa, .int .u64 pb, .int .u64 pc, .int .u64 pd] 33 (0, 0)) ∧ w1.heap[w.heap.size + 1]? = some (.cells #[.int .i64 0, .string ⟨#[]⟩, .int .i64 0, .int .i64 0, .int .i64 0, .int .i64 0] 41 (0, 0)) ∧ Only [] w w1) ?_ ?_
              · skip
                have k0 := alloc_new w (.cells #[.int .i64 p1, .int .i64 p2, .int .i64 4, .int .i64 p4, .int .i64 p5, .int .i64 p6, .int .u32 p7, .int .u32 p8, .int .u32 p9, .int .u64 pa, .int .u64 pb, .int .u64 pc, .int .u64 pd] 33)
                have k1 := alloc_new (w.alloc (.cells #[.int .i64 p1, .int .i64 p2, .int .i64 4, .int .i64 p4, .int .i64 p5, .int .i64 p6, .int .u32 p7, .int .u32 p8, .int .u32 p9, .int .u64 pa, .int .u64 pb, .int .u64 pc, .int .u64 pd] 33)) (.cells #[.int .i64 0, .string ⟨#[]⟩, .int .i64 0, .int .i64 0, .int .i64 0, .int .i64 0] 41)
                simp only [World.size_alloc] at k0 k1
                exact ⟨(alloc_old k0), k1, (((Only.refl [] w).alloc _).alloc _)⟩
              rintro w1 ⟨h1, h2, ho1⟩
              obtain ⟨b1, hb1⟩ : ∃ b, w.heap.size = b := ⟨_, rfl⟩
              obtain ⟨b2, hb2⟩ : ∃ b, w.heap.size + 1 = b := ⟨_, rfl⟩
              have HN : Hid (w.heap.size ≤ b1 ∧ w.heap.size ≤ b2 ∧ b1 ≠ b2 ∧ b2 ≠ b1) := Lib.hid (by omega)
              rw [hb1] at h1
              rw [hb2] at h2
              rw [show w.heap.size + 1 = b2 from hb2, hb1]
              have B1 := Lib.hid h1; have B2 := Lib.hid h2; have OO := Lib.hid ho1
              clear h1 h2 hb1 hb2
              have B3 := Lib.hid (ho1.got hA (by simp)); have HX3 := Lib.hid (got_lt hA)
              clear ho1
              have k1 := c_13 B1.out; have k2 := c_6 B2.out; have k3 := c_13 B3.out
              go_wp2_with fail
              refine (HC.out _).mono ?_
              rintro e w2 ⟨rfl, ho⟩
              clear k1 k2 k3
              replace OO := Lib.hid (OO.out.nil_trans ho); replace B1 := Lib.hid (ho.got B1.out (by simp)); replace B2 := Lib.hid (ho.got B2.out (by simp)); replace B3 := Lib.hid (ho.got B3.out (by simp))
              clear ho
              have k1 := c_13 B1.out; have k2 := c_6 B2.out; have k3 := c_13 B3.out
              go_wp2_with fail
              refine (HT.out _).mono ?_
              rintro e w3 ⟨rfl, ho⟩
              clear k1 k2 k3
              replace OO := Lib.hid (OO.out.nil_trans ho); replace B1 := Lib.hid (ho.got B1.out (by simp)); replace B2 := Lib.hid (ho.got B2.out (by simp)); replace B3 := Lib.hid (ho.got B3.out (by simp))
              clear ho
              have k1 := c_13 B1.out; have k2 := c_6 B2.out; have k3 := c_13 B3.out
              go_upto_region 6 with (fail)
              refine wp_region_grown [0, 1, 2, 3, 4, 5, 6, 7, 8] [] (by kernel_rfl) (by kernel_rfl) ?_
              simp only [pick, List.map_cons, List.map_nil, List.getD_cons_succ, List.getD_cons_zero]
              iterate 9 (refine wpQuiet_step (fun K hK => ?_); go_simp; refine hK _ ?_; clear hK K)
              refine wpQuiet_nil ?_
              intro w4 hw
              have ho := only_of_plus hw
              clear hw
              clear k1 k2 k3
              replace OO := Lib.hid (OO.out.nil_trans ho); replace B1 := Lib.hid (ho.got B1.out (by simp)); replace B2 := Lib.hid (ho.got B2.out (by simp)); replace B3 := Lib.hid (ho.got B3.out (by simp))
              have k1 := c_13 B1.out; have k2 := c_6 B2.out; have k3 := c_13 B3.out
              clear ho
              go_upto_region 8 with (fail)
              refine wp_region_grown [0, 1, 2, 3, 4, 5, 6, 7, 8, 9, 10, 11, 12] [] (by kernel_rfl) (by kernel_rfl) ?_
              simp only [pick, List.map_cons, List.map_nil, List.getD_cons_succ, List.getD_cons_zero]
              repeat (go_big_quiet_step (fail))
              refine wpQuiet_nil ?_
              intro w5 hw
              have ho := only_of_plus hw
              clear hw
              clear k1 k2 k3
              replace OO := Lib.hid (OO.out.nil_trans ho); replace B1 := Lib.hid (ho.got B1.out (by simp)); replace B2 := Lib.hid (ho.got B2.out (by simp)); replace B3 := Lib.hid (ho.got B3.out (by simp))
              have k1 := c_13 B1.out; have k2 := c_6 B2.out; have k3 := c_13 B3.out
              clear ho
              go_wp2
              have HD := setCell_got (o := 5) (.int .i64 0) (setCell_got (o := 4) (.int .i64 0) (setCell_got (o := 3) (.int .i64 0) (setCell_got (o := 2) (.int .i64 0) (setCell_got (o := 1) (.string ⟨#[]⟩) (setCell_got (o := 0) (.int .i64 0) (B2.out))))))
              have e0 := cell_got HD 0; have e1 := cell_got HD 1; have e2 := cell_got HD 2; have e3 := cell_got HD 3; have e4 := cell_got HD 4; have e5 := cell_got HD 5; have le := got_lt HD
              refine bodyPost_ret (v := .tuple #[.agg #[.int .i64 0, .string ⟨#[]⟩, .int .i64 0, .int .i64 0, .int .i64 0, .int .i64 0], .bool false]) (by simp [results, Tryz.results75, go_sem, e0, e1, e2, e3, e4, e5]) rfl ⟨rfl, ((((((OO.out.setCell (.inr HN.out.2.1) _).setCell (.inr HN.out.2.1) _).setCell (.inr HN.out.2.1) _).setCell (.inr HN.out.2.1) _).setCell (.inr HN.out.2.1) _).setCell (.inr HN.out.2.1) _)⟩
        · have q4 : (pb != nonce) = true := by simpa using ho
          obtain rfl : res = some 2 := by have := HE.out; simpa [ho] using this
          clear HE
          go_enter Tryz.func75, Tryz.ntmps75
          go_upto_region 1 with (fail)
          refine wabs (G := fun w0 => Code.wp _ _ _ _ w0) (R := fun w1 => w1.heap[w.heap.size]? = some (.cells #[.int .i64 p1, .int .i64 p2, .int .i64 4, .int .i64 p4, .int .i64 p5, .int .i64 p6, .int .u32 p7, .int .u32 p8, .int .u32 p9, .int .u64 pa, .int .u64 pb, .int .u64 pc, .int .u64 pd] 33 (0, 0)) ∧ w1.heap[w.heap.size + 1]? = some (.cells #[.int .i64 0, .string ⟨#[]⟩, .int .i64 0, .int .i64 0, .int .i64 0, .int .i64 0] 41 (0, 0)) ∧ Only [] w w1) ?_ ?_
          · skip
            have k0 := alloc_new w (.cells #[.int .i64 p1, .int .i64 p2, .int .i64 4, .int .i64 p4, .int .i64 p5, .int .i64 p6, .int .u32 p7, .int .u32 p8, .int .u32 p9, .int .u64 pa, .int .u64 pb, .int .u64 pc, .int .u64 pd] 33)
            have k1 := alloc_new (w.alloc (.cells #[.int .i64 p1, .int .i64 p2, .int .i64 4, .int .i64 p4, .int .i64 p5, .int .i64 p6, .int .u32 p7, .int .u32 p8, .int .u32 p9, .int .u64 pa, .int .u64 pb, .int .u64 pc, .int .u64 pd] 33)) (.cells #[.int .i64 0, .string ⟨#[]⟩, .int .i64 0, .int .i64 0, .int .i64 0, .int .i64 0] 41)
            simp only [World.size_alloc] at k0 k1
            exact ⟨(alloc_old k0), k1, (((Only.refl [] w).alloc _).alloc _)⟩
          rintro w1 ⟨h1, h2, ho1⟩
          obtain ⟨b1, hb1⟩ : ∃ b, w.heap.size = b := ⟨_, rfl⟩
          obtain ⟨b2, hb2⟩ : ∃ b, w.heap.size + 1 = b := ⟨_, rfl⟩
          have HN : Hid (w.heap.size ≤ b1 ∧ w.heap.size ≤ b2 ∧ b1 ≠ b2 ∧ b2 ≠ b1) := Lib.hid (by omega)
          rw [hb1] at h1
          rw [hb2] at h2
          rw [show w.heap.size + 1 = b2 from hb2, hb1]
          have B1 := Lib.hid h1; have B2 := Lib.hid h2; have OO := Lib.hid ho1
          clear h1 h2 hb1 hb2
          have B3 := Lib.hid (ho1.got hA (by simp)); have HX3 := Lib.hid (got_lt hA)
          clear ho1
          have k1 := c_13 B1.out; have k2 := c_6 B2.out; have k3 := c_13 B3.out
          go_wp2_with fail
          refine (HC.out _).mono ?_
          rintro e w2 ⟨rfl, ho⟩
          clear k1 k2 k3
          replace OO := Lib.hid (OO.out.nil_trans ho); replace B1 := Lib.hid (ho.got B1.out (by simp)); replace B2 := Lib.hid (ho.got B2.out (by simp)); replace B3 := Lib.hid (ho.got B3.out (by simp))
          clear ho
          have k1 := c_13 B1.out; have k2 := c_6 B2.out; have k3 := c_13 B3.out
          go_wp2_with fail
          refine (HT.out _).mono ?_
          rintro e w3 ⟨rfl, ho⟩
          clear k1 k2 k3
          replace OO := Lib.hid (OO.out.nil_trans ho); replace B1 := Lib.hid (ho.got B1.out (by simp)); replace B2 := Lib.hid (ho.got B2.out (by simp)); replace B3 := Lib.hid (ho.got B3.out (by simp))
          clear ho
          have k1 := c_13 B1.out; have k2 := c_6 B2.out; have k3 := c_13 B3.out
          go_upto_region 6 with (fail)
          refine wp_region_grown [0, 1, 2, 3, 4, 5, 6, 7, 8] [] (by kernel_rfl) (by kernel_rfl) ?_
          simp only [pick, List.map_cons, List.map_nil, List.getD_cons_succ, List.getD_cons_zero]
          iterate 9 (refine wpQuiet_step (fun K hK => ?_); go_simp; refine hK _ ?_; clear hK K)
          refine wpQuiet_nil ?_
          intro w4 hw
          have ho := only_of_plus hw
          clear hw
          clear k1 k2 k3
          replace OO := Lib.hid (OO.out.nil_trans ho); replace B1 := Lib.hid (ho.got B1.out (by simp)); replace B2 := Lib.hid (ho.got B2.out (by simp)); replace B3 := Lib.hid (ho.got B3.out (by simp))
          have k1 := c_13 B1.out; have k2 := c_6 B2.out; have k3 := c_13 B3.out
          clear ho
          go_wp2
          have HD := setCell_got (o := 5) (.int .i64 0) (setCell_got (o := 4) (.int .i64 0) (setCell_got (o := 3) (.int .i64 0) (setCell_got (o := 2) (.int .i64 0) (setCell_got (o := 1) (.string ⟨#[]⟩) (setCell_got (o := 0) (.int .i64 2) (B2.out))))))
          have e0 := cell_got HD 0; have e1 := cell_got HD 1; have e2 := cell_got HD 2; have e3 := cell_got HD 3; have e4 := cell_got HD 4; have e5 := cell_got HD 5; have le := got_lt HD
          refine bodyPost_ret (v := .tuple #[.agg #[.int .i64 2, .string ⟨#[]⟩, .int .i64 0, .int .i64 0, .int .i64 0, .int .i64 0], .bool true]) (by simp [results, Tryz.results75, go_sem, e0, e1, e2, e3, e4, e5]) rfl ⟨rfl, ((((((OO.out.setCell (.inr HN.out.2.1) _).setCell (.inr HN.out.2.1) _).setCell (.inr HN.out.2.1) _).setCell (.inr HN.out.2.1) _).setCell (.inr HN.out.2.1) _).setCell (.inr HN.out.2.1) _)⟩
    · by_cases hl : now < t1
      · have q3 : decide (now < t1) = true := decide_eq_true hl
        obtain rfl : res = some 0 := by have := HE.out; simpa [hl] using this
        clear HE
        go_enter Tryz.func75, Tryz.ntmps75
        go_upto_region 1 with (fail)
        refine wabs (G := fun w0 => Code.wp _ _ _ _ w0) (R := fun w1 => w1.heap[w.heap.size]? = some (.cells #[.int .i64 p1, .int .i64 p2, .int .i64 4, .int .i64 p4, .int .i64 p5, .int .i64 p6, .int .u32 p7, .int .u32 p8, .int .u32 p9, .int .u64 pa, .int .u64 pb, .int .u64 pc, .int .u64 pd] 33 (0, 0)) ∧ w1.heap[w.heap.size + 1]? = some (.cells #[.int .i64 0, .string ⟨#[]⟩, .int .i64 0, .int .i64 0, .int .i64 0, .int .i64 0] 41 (0, 0)) ∧ Only [] w w1) ?_ ?_
        · skip
          have k0 := alloc_new w (.cells #[.int .i64 p1, .int .i64 p2, .int .i64 4, .int .i64 p4, .int .i64 p5, .int .i64 p6, .int .u32 p7, .int .u32 p8, .int .u32 p9, .int .u64 pa, .int .u64 pb, .int .u64 pc, .int .u64 pd] 33)
          have k1 := alloc_new (w.alloc (.cells #[.int .i64 p1, .int .i64 p2, .int .i64 4, .int .i64 p4, .int .i64 p5, .int .i64 p6, .int .u32 p7, .int .u32 p8, .int .u32 p9, .int .u64 pa, .int .u64 pb, .int .u64 pc, .int .u64 pd] 33)) (.cells #[.int .i64 0, .string ⟨#[]⟩, .int .i64 0, .int .i64 0, .int .i64 0, .int .i64 0] 41)
          simp only [World.size_alloc] at k0 k1
          exact ⟨(alloc_old k0), k1, (((Only.refl [] w).alloc _).alloc _)⟩
        rintro w1 ⟨h1, h2, ho1⟩
        obtain ⟨b1, hb1⟩ : ∃ b, w.heap.size = b := ⟨_, rfl⟩
        obtain ⟨b2, hb2⟩ : ∃ b, w.heap.size + 1 = b := ⟨_, rfl⟩
        have HN : Hid (w.heap.size ≤ b1 ∧ w.heap.size ≤ b2 ∧ b1 ≠ b2 ∧ b2 ≠ b1) := Lib.hid (by omega)
        rw [hb1] at h1
        rw [hb2] at h2
        rw [show w.heap.size + 1 = b2 from hb2, hb1]
        have B1 := Lib.hid h1; have B2 := Lib.hid h2; have OO := Lib.hid ho1
        clear h1 h2 hb1 hb2
        have B3 := Lib.hid (ho1.got hA (by simp)); have HX3 := Lib.hid (got_lt hA)
        clear ho1
        have k1 := c_13 B1.out; have k2 := c_6 B2.out; have k3 := c_13 B3.out
        go_wp2_with fail
        refine (HC.out _).mono ?_
        rintro e w2 ⟨rfl, ho⟩
        clear k1 k2 k3
        replace OO := Lib.hid (OO.out.nil_trans ho); replace B1 := Lib.hid (ho.got B1.out (by simp)); replace B2 := Lib.hid (ho.got B2.out (by simp)); replace B3 := Lib.hid (ho.got B3.out (by simp))
        clear ho
        have k1 := c_13 B1.out; have k2 := c_6 B2.out; have k3 := c_13 B3.out
        go_wp2_with fail
        refine (HT.out _).mono ?_
        rintro e w3 ⟨rfl, ho⟩
        clear k1 k2 k3
        replace OO := Lib.hid (OO.out.nil_trans ho); replace B1 := Lib.hid (ho.got B1.out (by simp)); replace B2 := Lib.hid (ho.got B2.out (by simp)); replace B3 := Lib.hid (ho.got B3.out (by simp))
        clear ho
        have k1 := c_13 B1.out; have k2 := c_6 B2.out; have k3 := c_13 B3.out
        go_wp2
        have HD := setCell_got (o := 5) (.int .i64 0) (setCell_got (o := 4) (.int .i64 0) (setCell_got (o := 3) (.int .i64 0) (setCell_got (o := 2) (.int .i64 0) (setCell_got (o := 1) (.string ⟨#[]⟩) (setCell_got (o := 0) (.int .i64 0) (B2.out))))))
        have e0 := cell_got HD 0; have e1 := cell_got HD 1; have e2 := cell_got HD 2; have e3 := cell_got HD 3; have e4 := cell_got HD 4; have e5 := cell_got HD 5; have le := got_lt HD
        refine bodyPost_ret (v := .tuple #[.agg #[.int .i64 0, .string ⟨#[]⟩, .int .i64 0, .int .i64 0, .int .i64 0, .int .i64 0], .bool true]) (by simp [results, Tryz.results75, go_sem, e0, e1, e2, e3, e4, e5]) rfl ⟨rfl, ((((((OO.out.setCell (.inr HN.out.2.1) _).setCell (.inr HN.out.2.1) _).setCell (.inr HN.out.2.1) _).setCell (.inr HN.out.2.1) _).setCell (.inr HN.out.2.1) _).setCell (.inr HN.out.2.1) _)⟩
      · have q3 : decide (now < t1) = false := decide_eq_false hl
        cases pend
        · obtain rfl : res = some 1 := by have := HE.out; simpa [hl] using this
          clear HE
          go_enter Tryz.func75, Tryz.ntmps75
          go_upto_region 1 with (fail)
          refine wabs (G := fun w0 => Code.wp _ _ _ _ w0) (R := fun w1 => w1.heap[w.heap.size]? = some (.cells #[.int .i64 p1, .int .i64 p2, .int .i64 4, .int .i64 p4, .int .i64 p5, .int .i64 p6, .int .u32 p7, .int .u32 p8, .int .u32 p9, .int .u64 pa, .int .u64 pb, .int .u64 pc, .int .u64 pd] 33 (0, 0)) ∧ w1.heap[w.heap.size + 1]? = some (.cells #[.int .i64 0, .string ⟨#[]⟩, .int .i64 0, .int .i64 0, .int .i64 0, .int .i64 0] 41 (0, 0)) ∧ Only [] w w1) ?_ ?_
          · skip
            have k0 := alloc_new w (.cells #[.int .i64 p1, .int .i64 p2, .int .i64 4, .int .i64 p4, .int .i64 p5, .int .i64 p6, .int .u32 p7, .int .u32 p8, .int .u32 p9, .int .u64 pa, .int .u64 pb, .int .u64 pc, .int .u64 pd] 33)
            have k1 := alloc_new (w.alloc (.cells #[.int .i64 p1, .int .i64 p2, .int .i64 4, .int .i64 p4, .int .i64 p5, .int .i64 p6, .int .u32 p7, .int .u32 p8, .int .u32 p9, .int .u64 pa, .int .u64 pb, .int .u64 pc, .int .u64 pd] 33)) (.cells #[.int .i64 0, .string ⟨#[]⟩, .int .i64 0, .int .i64 0, .int .i64 0, .int .i64 0] 41)
            simp only [World.size_alloc] at k0 k1
            exact ⟨(alloc_old k0), k1, (((Only.refl [] w).alloc _).alloc _)⟩
          rintro w1 ⟨h1, h2, ho1⟩
          obtain ⟨b1, hb1⟩ : ∃ b, w.heap.size = b := ⟨_, rfl⟩
          obtain ⟨b2, hb2⟩ : ∃ b, w.heap.size + 1 = b := ⟨_, rfl⟩
          have HN : Hid (w.heap.size ≤ b1 ∧ w.heap.size ≤ b2 ∧ b1 ≠ b2 ∧ b2 ≠ b1) := Lib.hid (by omega)
          rw [hb1] at h1
          rw [hb2] at h2
          rw [show w.heap.size + 1 = b2 from hb2, hb1]
          have B1 := Lib.hid h1; have B2 := Lib.hid h2; have OO := Lib.hid ho1
          clear h1 h2 hb1 hb2
          have B3 := Lib.hid (ho1.got hA (by simp)); have HX3 := Lib.hid (got_lt hA)
          clear ho1
          have k1 := c_13 B1.out; have k2 := c_6 B2.out; have k3 := c_13 B3.out
          go_wp2_with fail
          refine (HC.out _).mono ?_
          rintro e w2 ⟨rfl, ho⟩
          clear k1 k2 k3
          replace OO := Lib.hid (OO.out.nil_trans ho); replace B1 := Lib.hid (ho.got B1.out (by simp)); replace B2 := Lib.hid (ho.got B2.out (by simp)); replace B3 := Lib.hid (ho.got B3.out (by simp))
          clear ho
          have k1 := c_13 B1.out; have k2 := c_6 B2.out; have k3 := c_13 B3.out
          go_wp2_with fail
          refine (HT.out _).mono ?_
          rintro e w3 ⟨rfl, ho⟩
          clear k1 k2 k3
          replace OO := Lib.hid (OO.out.nil_trans ho); replace B1 := Lib.hid (ho.got B1.out (by simp)); replace B2 := Lib.hid (ho.got B2.out (by simp)); replace B3 := Lib.hid (ho.got B3.out (by simp))
          clear ho
          have k1 := c_13 B1.out; have k2 := c_6 B2.out; have k3 := c_13 B3.out
          go_wp2
          have HD := setCell_got (o := 5) (.int .i64 0) (setCell_got (o := 4) (.int .i64 0) (setCell_got (o := 3) (.int .i64 0) (setCell_got (o := 2) (.int .i64 0) (setCell_got (o := 1) (.string ⟨#[]⟩) (setCell_got (o := 0) (.int .i64 1) (B2.out))))))
          have e0 := cell_got HD 0; have e1 := cell_got HD 1; have e2 := cell_got HD 2; have e3 := cell_got HD 3; have e4 := cell_got HD 4; have e5 := cell_got HD 5; have le := got_lt HD
          refine bodyPost_ret (v := .tuple #[.agg #[.int .i64 1, .string ⟨#[]⟩, .int .i64 0, .int .i64 0, .int .i64 0, .int .i64 0], .bool true]) (by simp [results, Tryz.results75, go_sem, e0, e1, e2, e3, e4, e5]) rfl ⟨rfl, ((((((OO.out.setCell (.inr HN.out.2.1) _).setCell (.inr HN.out.2.1) _).setCell (.inr HN.out.2.1) _).setCell (.inr HN.out.2.1) _).setCell (.inr HN.out.2.1) _).setCell (.inr HN.out.2.1) _)⟩
        · by_cases ho : pb = nonce
          · subst ho
            by_cases hx0 : pd = 0
            · subst hx0
              obtain rfl : res = none := by have := HE.out; simpa [hl] using this
              clear HE
              go_enter Tryz.func75, Tryz.ntmps75
              go_upto_region 1 with (fail)
              refine wabs (G := fun w0 => Code.wp _ _ _ _ w0) (R := fun w1 => w1.heap[w.heap.size]? = some (.cells #[.int .i64 p1, .int .i64 p2, .int .i64 4, .int .i64 p4, .int .i64 p5, .int .i64 p6, .int .u32 p7, .int .u32 p8, .int .u32 p9, .int .u64 pa, .int .u64 pb, .int .u64 pc, .int .u64 0] 33 (0, 0)) ∧ w1.heap[w.heap.size + 1]? = some (.cells #[.int .i64 0, .string ⟨#[]⟩, .int .i64 0, .int .i64 0, .int .i64 0, .int .i64 0] 41 (0, 0)) ∧ Only [] w w1) ?_ ?_
              · skip
                have k0 := alloc_new w (.cells #[.int .i64 p1, .int .i64 p2, .int .i64 4, .int .i64 p4, .int .i64 p5, .int .i64 p6, .int .u32 p7, .int .u32 p8, .int .u32 p9, .int .u64 pa, .int .u64 pb, .int .u64 pc, .int .u64 0] 33)
                have k1 := alloc_new (w.alloc (.cells #[.int .i64 p1, .int .i64 p2, .int .i64 4, .int .i64 p4, .int .i64 p5, .int .i64 p6, .int .u32 p7, .int .u32 p8, .int .u32 p9, .int .u64 pa, .int .u64 pb, .int .u64 pc, .int .u64 0] 33)) (.cells #[.int .i64 0, .string ⟨#[]⟩, .int .i64 0, .int .i64 0, .int .i64 0, .int .i64 0] 41)
                simp only [World.size_alloc] at k0 k1
                exact ⟨(alloc_old k0), k1, (((Only.refl [] w).alloc _).alloc _)⟩
              rintro w1 ⟨h1, h2, ho1⟩
              obtain ⟨b1, hb1⟩ : ∃ b, w.heap.size = b := ⟨_, rfl⟩
              obtain ⟨b2, hb2⟩ : ∃ b, w.heap.size + 1 = b := ⟨_, rfl⟩
              have HN : Hid (w.heap.size ≤ b1 ∧ w.heap.size ≤ b2 ∧ b1 ≠ b2 ∧ b2 ≠ b1) := Lib.hid (by omega)
              rw [hb1] at h1
              rw [hb2] at h2
              rw [show w.heap.size + 1 = b2 from hb2, hb1]
              have B1 := Lib.hid h1; have B2 := Lib.hid h2; have OO := Lib.hid ho1
              clear h1 h2 hb1 hb2
              have B3 := Lib.hid (ho1.got hA (by simp)); have HX3 := Lib.hid (got_lt hA)
              clear ho1
              have k1 := c_13 B1.out; have k2 := c_6 B2.out; have k3 := c_13 B3.out
              go_wp2_with fail
              refine (HC.out _).mono ?_
              rintro e w2 ⟨rfl, ho⟩
              clear k1 k2 k3
              replace OO := Lib.hid (OO.out.nil_trans ho); replace B1 := Lib.hid (ho.got B1.out (by simp)); replace B2 := Lib.hid (ho.got B2.out (by simp)); replace B3 := Lib.hid (ho.got B3.out (by simp))
              clear ho
              have k1 := c_13 B1.out; have k2 := c_6 B2.out; have k3 := c_13 B3.out
              go_wp2_with fail
              refine (HT.out _).mono ?_
              rintro e w3 ⟨rfl, ho⟩
              clear k1 k2 k3
              replace OO := Lib.hid (OO.out.nil_trans ho); replace B1 := Lib.hid (ho.got B1.out (by simp)); replace B2 := Lib.hid (ho.got B2.out (by simp)); replace B3 := Lib.hid (ho.got B3.out (by simp))
              clear ho
              have k1 := c_13 B1.out; have k2 := c_6 B2.out; have k3 := c_13 B3.out
              go_upto_region 6 with (fail)
              refine wp_region_grown [0, 1, 2, 3, 4, 5, 6, 7, 8] [] (by kernel_rfl) (by kernel_rfl) ?_
              simp only [pick, List.map_cons, List.map_nil, List.getD_cons_succ, List.getD_cons_zero]
              iterate 9 (refine wpQuiet_step (fun K hK => ?_); go_simp; refine hK _ ?_; clear hK K)
              refine wpQuiet_nil ?_
              intro w4 hw
              have ho := only_of_plus hw
              clear hw
              clear k1 k2 k3
              replace OO := Lib.hid (OO.out.nil_trans ho); replace B1 := Lib.hid (ho.got B1.out (by simp)); replace B2 := Lib.hid (ho.got B2.out (by simp)); replace B3 := Lib.hid (ho.got B3.out (by simp))
              have k1 := c_13 B1.out; have k2 := c_6 B2.out; have k3 := c_13 B3.out
              clear ho
              go_upto_region 8 with (fail)
              refine wp_region_grown [0, 1, 2, 3, 4, 5, 6, 7, 8, 9, 10, 11, 12] [] (by kernel_rfl) (by kernel_rfl) ?_
              simp only [pick, List.map_cons, List.map_nil, List.getD_cons_succ, List.getD_cons_zero]
              repeat (go_big_quiet_step (fail))
              refine wpQuiet_nil ?_
              intro w5 hw
              have ho := only_of_plus hw
              clear hw
              clear k1 k2 k3
              replace OO := Lib.hid (OO.out.nil_trans ho); replace B1 := Lib.hid (ho.got B1.out (by simp)); replace B2 := Lib.hid (ho.got B2.out (by simp)); replace B3 := Lib.hid (ho.got B3.out (by simp))
              have k1 := c_13 B1.out; have k2 := c_6 B2.out; have k3 := c_13 B3.out
              clear ho
              go_wp2
              have HD := setCell_got (o := 5) (.int .i64 0) (setCell_got (o := 4) (.int .i64 0) (setCell_got (o := 3) (.int .i64 0) (setCell_got (o := 2) (.int .i64 0) (setCell_got (o := 1) (.string ⟨#[]⟩) (setCell_got (o := 0) (.int .i64 0) (B2.out))))))
              have e0 := cell_got HD 0; have e1 := cell_got HD 1; have e2 := cell_got HD 2; have e3 := cell_got HD 3; have e4 := cell_got HD 4; have e5 := cell_got HD 5; have le := got_lt HD
              refine bodyPost_ret (v := .tuple #[.agg #[.int .i64 0, .string ⟨#[]⟩, .int .i64 0, .int .i64 0, .int .i64 0, .int .i64 0], .bool false]) (by simp [results, Tryz.results75, go_sem, e0, e1, e2, e3, e4, e5]) rfl ⟨rfl, ((((((OO.out.setCell (.inr HN.out.2.1) _).setCell (.inr HN.out.2.1) _).setCell (.inr HN.out.2.1) _).setCell (.inr HN.out.2.1) _).setCell (.inr HN.out.2.1) _).setCell (.inr HN.out.2.1) _)⟩
            · have q5 : (pd != 0) = true := by simpa using hx0
              by_cases hx1 : pd = xmt
              · subst hx1
                obtain rfl : res = some 3 := by have := HE.out; simpa [hl, hx0] using this
                clear HE hx0
                go_enter Tryz.func75, Tryz.ntmps75
                go_upto_region 1 with (fail)
                refine wabs (G := fun w0 => Code.wp _ _ _ _ w0) (R := fun w1 => w1.heap[w.heap.size]? = some (.cells #[.int .i64 p1, .int .i64 p2, .int .i64 4, .int .i64 p4, .int .i64 p5, .int .i64 p6, .int .u32 p7, .int .u32 p8, .int .u32 p9, .int .u64 pa, .int .u64 pb, .int .u64 pc, .int .u64 pd] 33 (0, 0)) ∧ w1.heap[w.heap.size + 1]? = some (.cells #[.int .i64 0, .string ⟨#[]⟩, .int .i64 0, .int .i64 0, .int .i64 0, .int .i64 0] 41 (0, 0)) ∧ Only [] w w1) ?_ ?_
                · skip
                  have k0 := alloc_new w (.cells #[.int .i64 p1, .int .i64 p2, .int .i64 4, .int .i64 p4, .int .i64 p5, .int .i64 p6, .int .u32 p7, .int .u32 p8, .int .u32 p9, .int .u64 pa, .int .u64 pb, .int .u64 pc, .int .u64 pd] 33)
                  have k1 := alloc_new (w.alloc (.cells #[.int .i64 p1, .int .i64 p2, .int .i64 4, .int .i64 p4, .int .i64 p5, .int .i64 p6, .int .u32 p7, .int .u32 p8, .int .u32 p9, .int .u64 pa, .int .u64 pb, .int .u64 pc, .int .u64 pd] 33)) (.cells #[.int .i64 0, .string ⟨#[]⟩, .int .i64 0, .int .i64 0, .int .i64 0, .int .i64 0] 41)
                  simp only [World.size_alloc] at k0 k1
                  exact ⟨(alloc_old k0), k1, (((Only.refl [] w).alloc _).alloc _)⟩
                rintro w1 ⟨h1, h2, ho1⟩
                obtain ⟨b1, hb1⟩ : ∃ b, w.heap.size = b := ⟨_, rfl⟩
                obtain ⟨b2, hb2⟩ : ∃ b, w.heap.size + 1 = b := ⟨_, rfl⟩
                have HN : Hid (w.heap.size ≤ b1 ∧ w.heap.size ≤ b2 ∧ b1 ≠ b2 ∧ b2 ≠ b1) := Lib.hid (by omega)
                rw [hb1] at h1
                rw [hb2] at h2
                rw [show w.heap.size + 1 = b2 from hb2, hb1]
                have B1 := Lib.hid h1; have B2 := Lib.hid h2; have OO := Lib.hid ho1
                clear h1 h2 hb1 hb2
                have B3 := Lib.hid (ho1.got hA (by simp)); have HX3 := Lib.hid (got_lt hA)
                clear ho1
                have k1 := c_13 B1.out; have k2 := c_6 B2.out; have k3 := c_13 B3.out
                go_wp2_with fail
                refine (HC.out _).mono ?_
                rintro e w2 ⟨rfl, ho⟩
                clear k1 k2 k3
                replace OO := Lib.hid (OO.out.nil_trans ho); replace B1 := Lib.hid (ho.got B1.out (by simp)); replace B2 := Lib.hid (ho.got B2.out (by simp)); replace B3 := Lib.hid (ho.got B3.out (by simp))
                clear ho
                have k1 := c_13 B1.out; have k2 := c_6 B2.out; have k3 := c_13 B3.out
                go_wp2_with fail
                refine (HT.out _).mono ?_
                rintro e w3 ⟨rfl, ho⟩
                clear k1 k2 k3
                replace OO := Lib.hid (OO.out.nil_trans ho); replace B1 := Lib.hid (ho.got B1.out (by simp)); replace B2 := Lib.hid (ho.got B2.out (by simp)); replace B3 := Lib.hid (ho.got B3.out (by simp))
                clear ho
                have k1 := c_13 B1.out; have k2 := c_6 B2.out; have k3 := c_13 B3.out
                go_upto_region 6 with (fail)
                refine wp_region_grown [0, 1, 2, 3, 4, 5, 6, 7, 8] [] (by kernel_rfl) (by kernel_rfl) ?_
                simp only [pick, List.map_cons, List.map_nil, List.getD_cons_succ, List.getD_cons_zero]
                iterate 9 (refine wpQuiet_step (fun K hK => ?_); go_simp; refine hK _ ?_; clear hK K)
                refine wpQuiet_nil ?_
                intro w4 hw
                have ho := only_of_plus hw
                clear hw
                clear k1 k2 k3
                replace OO := Lib.hid (OO.out.nil_trans ho); replace B1 := Lib.hid (ho.got B1.out (by simp)); replace B2 := Lib.hid (ho.got B2.out (by simp)); replace B3 := Lib.hid (ho.got B3.out (by simp))
                have k1 := c_13 B1.out; have k2 := c_6 B2.out; have k3 := c_13 B3.out
                clear ho
                go_upto_region 8 with (fail)
                refine wp_region_grown [0, 1, 2, 3, 4, 5, 6, 7, 8, 9, 10, 11, 12] [] (by kernel_rfl) (by kernel_rfl) ?_
                simp only [pick, List.map_cons, List.map_nil, List.getD_cons_succ, List.getD_cons_zero]
                repeat (go_big_quiet_step (fail))
                refine wpQuiet_nil ?_
                intro w5 hw
                have ho := only_of_plus hw
                clear hw
                clear k1 k2 k3
                replace OO := Lib.hid (OO.out.nil_trans ho); replace B1 := Lib.hid (ho.got B1.out (by simp)); replace B2 := Lib.hid (ho.got B2.out (by simp)); replace B3 := Lib.hid (ho.got B3.out (by simp))
                have k1 := c_13 B1.out; have k2 := c_6 B2.out; have k3 := c_13 B3.out
                clear ho
                go_wp2
                have HD := setCell_got (o := 5) (.int .i64 0) (setCell_got (o := 4) (.int .i64 0) (setCell_got (o := 3) (.int .i64 0) (setCell_got (o := 2) (.int .i64 0) (setCell_got (o := 1) (.string ⟨#[]⟩) (setCell_got (o := 0) (.int .i64 3) (B2.out))))))
                have e0 := cell_got HD 0; have e1 := cell_got HD 1; have e2 := cell_got HD 2; have e3 := cell_got HD 3; have e4 := cell_got HD 4; have e5 := cell_got HD 5; have le := got_lt HD
                refine bodyPost_ret (v := .tuple #[.agg #[.int .i64 3, .string ⟨#[]⟩, .int .i64 0, .int .i64 0, .int .i64 0, .int .i64 0], .bool true]) (by simp [results, Tryz.results75, go_sem, e0, e1, e2, e3, e4, e5]) rfl ⟨rfl, ((((((OO.out.setCell (.inr HN.out.2.1) _).setCell (.inr HN.out.2.1) _).setCell (.inr HN.out.2.1) _).setCell (.inr HN.out.2.1) _).setCell (.inr HN.out.2.1) _).setCell (.inr HN.out.2.1) _)⟩
              · have q6 : (pd == xmt) = false := by simpa using hx1
                obtain rfl : res = none := by have := HE.out; simpa [hl, hx0, hx1] using this
                clear HE hx0 hx1
                go_enter Tryz.func75, Tryz.ntmps75
                go_upto_region 1 with (fail)
                refine wabs (G := fun w0 => Code.wp _ _ _ _ w0) (R := fun w1 => w1.heap[w.heap.size]? = some (.cells #[.int .i64 p1, .int .i64 p2, .int .i64 4, .int .i64 p4, .int .i64 p5, .int .i64 p6, .int .u32 p7, .int .u32 p8, .int .u32 p9, .int .u64 pa, .int .u64 pb, .int .u64 pc, .int .u64 pd] 33 (0, 0)) ∧ w1.heap[w.heap.size + 1]? = some (.cells #[.int .i64 0, .string ⟨#[]⟩, .int .i64 0, .int .i64 0, .int .i64 0, .int .i64 0] 41 (0, 0)) ∧ Only [] w w1) ?_ ?_
                · skip
                  have k0 := alloc_new w (.cells #[.int .i64 p1, .int .i64 p2, .int .i64 4, .int .i64 p4, .int .i64 p5, .int .i64 p6, .int .u32 p7, .int .u32 p8, .int .u32 p9, .int .u64 pa, .int .u64 pb, .int .u64 pc, .int .u64 pd] 33)
                  have k1 := alloc_new (w.alloc (.cells #[.int .i64 p1, .int .i64 p2, .int .i64 4, .int .i64 p4, .int .i64 p5, .int .i64 p6, .int .u32 p7, .int .u32 p8, .int .u32 p9, .int .u64 pa, .int .u64 pb, .int .u64 pc, .int .u64 pd] 33)) (.cells #[.int .i64 0, .string ⟨#[]⟩, .int .i64 0, .int .i64 0, .int .i64 0, .int .i64 0] 41)
                  simp only [World.size_alloc] at k0 k1
                  exact ⟨(alloc_old k0), k1, (((Only.refl [] w).alloc _).alloc _)⟩
                rintro w1 ⟨h1, h2, ho1⟩
                obtain ⟨b1, hb1⟩ : ∃ b, w.heap.size = b := ⟨_, rfl⟩
                obtain ⟨b2, hb2⟩ : ∃ b, w.heap.size + 1 = b := ⟨_, rfl⟩
                have HN : Hid (w.heap.size ≤ b1 ∧ w.heap.size ≤ b2 ∧ b1 ≠ b2 ∧ b2 ≠ b1) := Lib.hid (by omega)
                rw [hb1] at h1
                rw [hb2] at h2
                rw [show w.heap.size + 1 = b2 from hb2, hb1]
                have B1 := Lib.hid h1; have B2 := Lib.hid h2; have OO := Lib.hid ho1
                clear h1 h2 hb1 hb2
                have B3 := Lib.hid (ho1.got hA (by simp)); have HX3 := Lib.hid (got_lt hA)
                clear ho1
                have k1 := c_13 B1.out; have k2 := c_6 B2.out; have k3 := c_13 B3.out
                go_wp2_with fail
                refine (HC.out _).mono ?_
                rintro e w2 ⟨rfl, ho⟩
                clear k1 k2 k3
                replace OO := Lib.hid (OO.out.nil_trans ho); replace B1 := Lib.hid (ho.got B1.out (by simp)); replace B2 := Lib.hid (ho.got B2.out (by simp)); replace B3 := Lib.hid (ho.got B3.out (by simp))
                clear ho
                have k1 := c_13 B1.out; have k2 := c_6 B2.out; have k3 := c_13 B3.out
                go_wp2_with fail
                refine (HT.out _).mono ?_
                rintro e w3 ⟨rfl, ho⟩
                clear k1 k2 k3
                replace OO := Lib.hid (OO.out.nil_trans ho); replace B1 := Lib.hid (ho.got B1.out (by simp)); replace B2 := Lib.hid (ho.got B2.out (by simp)); replace B3 := Lib.hid (ho.got B3.out (by simp))
                clear ho
                have k1 := c_13 B1.out; have k2 := c_6 B2.out; have k3 := c_13 B3.out
                go_upto_region 6 with (fail)
                refine wp_region_grown [0, 1, 2, 3, 4, 5, 6, 7, 8] [] (by kernel_rfl) (by kernel_rfl) ?_
                simp only [pick, List.map_cons, List.map_nil, List.getD_cons_succ, List.getD_cons_zero]
                iterate 9 (refine wpQuiet_step (fun K hK => ?_); go_simp; refine hK _ ?_; clear hK K)
                refine wpQuiet_nil ?_
                intro w4 hw
                have ho := only_of_plus hw
                clear hw
                clear k1 k2 k3
                replace OO := Lib.hid (OO.out.nil_trans ho); replace B1 := Lib.hid (ho.got B1.out (by simp)); replace B2 := Lib.hid (ho.got B2.out (by simp)); replace B3 := Lib.hid (ho.got B3.out (by simp))
                have k1 := c_13 B1.out; have k2 := c_6 B2.out; have k3 := c_13 B3.out
                clear ho
                go_upto_region 8 with (fail)
                refine wp_region_grown [0, 1, 2, 3, 4, 5, 6, 7, 8, 9, 10, 11, 12] [] (by kernel_rfl) (by kernel_rfl) ?_
                simp only [pick, List.map_cons, List.map_nil, List.getD_cons_succ, List.getD_cons_zero]
                repeat (go_big_quiet_step (fail))
                refine wpQuiet_nil ?_
                intro w5 hw
                have ho := only_of_plus hw
                clear hw
                clear k1 k2 k3
                replace OO := Lib.hid (OO.out.nil_trans ho); replace B1 := Lib.hid (ho.got B1.out (by simp)); replace B2 := Lib.hid (ho.got B2.out (by simp)); replace B3 := Lib.hid (ho.got B3.out (by simp))
                have k1 := c_13 B1.out; have k2 := c_6 B2.out; have k3 := c_13 B3.out
                clear ho
                go_wp2
                have HD := setCell_got (o := 5) (.int .i64 0) (setCell_got (o := 4) (.int .i64 0) (setCell_got (o := 3) (.int .i64 0) (setCell_got (o := 2) (.int .i64 0) (setCell_got (o := 1) (.string ⟨#[]⟩) (setCell_got (o := 0) (.int .i64 0) (B2.out))))))
                have e0 := cell_got HD 0; have e1 := cell_got HD 1; have e2 := cell_got HD 2; have e3 := cell_got HD 3; have e4 := cell_got HD 4; have e5 := cell_got HD 5; have le := got_lt HD
                refine bodyPost_ret (v := .tuple #[.agg #[.int .i64 0, .string ⟨#[]⟩, .int .i64 0, .int .i64 0, .int .i64 0, .int .i64 0], .bool false]) (by simp [results, Tryz.results75, go_sem, e0, e1, e2, e3, e4, e5]) rfl ⟨rfl, ((((((OO.out.setCell (.inr HN.out.2.1) _).setCell (.inr HN.out.2.1) _).setCell (.inr HN.out.2.1) _).setCell (.inr HN.out.2.1) _).setCell (.inr HN.out.2.1) _).setCell (.inr HN.out.2.1) _)⟩
          · have q4 : (pb != nonce) = true := by simpa using ho
            obtain rfl : res = some 2 := by have := HE.out; simpa [hl, ho] using this
            clear HE
            go_enter Tryz.func75, Tryz.ntmps75
            go_upto_region 1 with (fail)
            refine wabs (G := fun w0 => Code.wp _ _ _ _ w0) (R := fun w1 => w1.heap[w.heap.size]? = some (.cells #[.int .i64 p1, .int .i64 p2, .int .i64 4, .int .i64 p4, .int .i64 p5, .int .i64 p6, .int .u32 p7, .int .u32 p8, .int .u32 p9, .int .u64 pa, .int .u64 pb, .int .u64 pc, .int .u64 pd] 33 (0, 0)) ∧ w1.heap[w.heap.size + 1]? = some (.cells #[.int .i64 0, .string ⟨#[]⟩, .int .i64 0, .int .i64 0, .int .i64 0, .int .i64 0] 41 (0, 0)) ∧ Only [] w w1) ?_ ?_
            · skip
              have k0 := alloc_new w (.cells #[.int .i64 p1, .int .i64 p2, .int .i64 4, .int .i64 p4, .int .i64 p5, .int .i64 p6, .int .u32 p7, .int .u32 p8, .int .u32 p9, .int .u64 pa, .int .u64 pb, .int .u64 pc, .int .u64 pd] 33)
              have k1 := alloc_new (w.alloc (.cells #[.int .i64 p1, .int .i64 p2, .int .i64 4, .int .i64 p4, .int .i64 p5, .int .i64 p6, .int .u32 p7, .int .u32 p8, .int .u32 p9, .int .u64 pa, .int .u64 pb, .int .u64 pc, .int .u64 pd] 33)) (.cells #[.int .i64 0, .string ⟨#[]⟩, .int .i64 0, .int .i64 0, .int .i64 0, .int .i64 0] 41)
              simp only [World.size_alloc] at k0 k1
              exact ⟨(alloc_old k0), k1, (((Only.refl [] w).alloc _).alloc _)⟩
            rintro w1 ⟨h1, h2, ho1⟩
            obtain ⟨b1, hb1⟩ : ∃ b, w.heap.size = b := ⟨_, rfl⟩
            obtain ⟨b2, hb2⟩ : ∃ b, w.heap.size + 1 = b := ⟨_, rfl⟩
            have HN : Hid (w.heap.size ≤ b1 ∧ w.heap.size ≤ b2 ∧ b1 ≠ b2 ∧ b2 ≠ b1) := Lib.hid (by omega)
            rw [hb1] at h1
            rw [hb2] at h2
            rw [show w.heap.size + 1 = b2 from hb2, hb1]
            have B1 := Lib.hid h1; have B2 := Lib.hid h2; have OO := Lib.hid ho1
            clear h1 h2 hb1 hb2
            have B3 := Lib.hid (ho1.got hA (by simp)); have HX3 := Lib.hid (got_lt hA)
            clear ho1
            have k1 := c_13 B1.out; have k2 := c_6 B2.out; have k3 := c_13 B3.out
            go_wp2_with fail
            refine (HC.out _).mono ?_
            rintro e w2 ⟨rfl, ho⟩
            clear k1 k2 k3
            replace OO := Lib.hid (OO.out.nil_trans ho); replace B1 := Lib.hid (ho.got B1.out (by simp)); replace B2 := Lib.hid (ho.got B2.out (by simp)); replace B3 := Lib.hid (ho.got B3.out (by simp))
            clear ho
            have k1 := c_13 B1.out; have k2 := c_6 B2.out; have k3 := c_13 B3.out
            go_wp2_with fail
            refine (HT.out _).mono ?_
            rintro e w3 ⟨rfl, ho⟩
            clear k1 k2 k3
            replace OO := Lib.hid (OO.out.nil_trans ho); replace B1 := Lib.hid (ho.got B1.out (by simp)); replace B2 := Lib.hid (ho.got B2.out (by simp)); replace B3 := Lib.hid (ho.got B3.out (by simp))
            clear ho
            have k1 := c_13 B1.out; have k2 := c_6 B2.out; have k3 := c_13 B3.out
            go_upto_region 6 with (fail)
            refine wp_region_grown [0, 1, 2, 3, 4, 5, 6, 7, 8] [] (by kernel_rfl) (by kernel_rfl) ?_
            simp only [pick, List.map_cons, List.map_nil, List.getD_cons_succ, List.getD_cons_zero]
            iterate 9 (refine wpQuiet_step (fun K hK => ?_); go_simp; refine hK _ ?_; clear hK K)
            refine wpQuiet_nil ?_
            intro w4 hw
            have ho := only_of_plus hw
            clear hw
            clear k1 k2 k3
            replace OO := Lib.hid (OO.out.nil_trans ho); replace B1 := Lib.hid (ho.got B1.out (by simp)); replace B2 := Lib.hid (ho.got B2.out (by simp)); replace B3 := Lib.hid (ho.got B3.out (by simp))
            have k1 := c_13 B1.out; have k2 := c_6 B2.out; have k3 := c_13 B3.out
            clear ho
            go_wp2
            have HD := setCell_got (o := 5) (.int .i64 0) (setCell_got (o := 4) (.int .i64 0) (setCell_got (o := 3) (.int .i64 0) (setCell_got (o := 2) (.int .i64 0) (setCell_got (o := 1) (.string ⟨#[]⟩) (setCell_got (o := 0) (.int .i64 2) (B2.out))))))
            have e0 := cell_got HD 0; have e1 := cell_got HD 1; have e2 := cell_got HD 2; have e3 := cell_got HD 3; have e4 := cell_got HD 4; have e5 := cell_got HD 5; have le := got_lt HD
            refine bodyPost_ret (v := .tuple #[.agg #[.int .i64 2, .string ⟨#[]⟩, .int .i64 0, .int .i64 0, .int .i64 0, .int .i64 0], .bool true]) (by simp [results, Tryz.results75, go_sem, e0, e1, e2, e3, e4, e5]) rfl ⟨rfl, ((((((OO.out.setCell (.inr HN.out.2.1) _).setCell (.inr HN.out.2.1) _).setCell (.inr HN.out.2.1) _).setCell (.inr HN.out.2.1) _).setCell (.inr HN.out.2.1) _).setCell (.inr HN.out.2.1) _)⟩
end Go.Proofs.YtikjdmbfjkbndaaGreat
