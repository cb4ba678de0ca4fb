/- Associations: plain, in memory, and the walks of package assoc. Conditions: those named in each theorem. -/
import Derived.Test.YtikjdmbfjkbndaaGreatCa
namespace Go.Proofs.YtikjdmbfjkbndaaGreat
open Go.RowKit

/-- an association -/
structure As where
  ver : Int
  t1 : Int
  nonce : Int
  pend : Bool
  xmt : Int
deriving DecidableEq, Inhabited
/-- an outcome -/
structure Hd where
  kind : Int
  code : ByteArray
  q : Qd
def hdV (h : Hd) : Value := .agg #[.int .i64 h.kind, .string h.code, .int .i64 h.q.t1, .int .i64 h.q.t2, .int .i64 h.q.t3, .int .i64 h.q.t4]
def hdK (k : Int) : Hd := ⟨k, ⟨#[]⟩, ⟨0, 0, 0, 0⟩⟩
def AsAt (w : World) (b : Nat) (a : As) : Prop := ∃ c0 c1 c2 c3 c4 c5 c6 c7 : Int, w.heap[b]? = some (.cells #[.int .i64 a.ver, .int .i64 a.t1, .int .u64 a.nonce, .bool a.pend, .int .u64 a.xmt, .int .i64 c0, .int .i64 c1, .int .i64 c2, .int .i64 c3, .int .i64 c4, .int .i64 c5, .int .i64 c6, .int .i64 c7] 155 (0, 0))
theorem AsAt.kept {w w' : World} {b : Nat} {a : As} {S : List Nat} (h : AsAt w b a) (ho : Only S w w') (hS : b ∉ S) : AsAt w' b a := by
  obtain ⟨c0, c1, c2, c3, c4, c5, c6, c7, h⟩ := h
  exact ⟨c0, c1, c2, c3, c4, c5, c6, c7, ho.got h hS⟩
theorem AsAt.lt {w : World} {b : Nat} {a : As} (h : AsAt w b a) : b < w.heap.size := by
  obtain ⟨c0, c1, c2, c3, c4, c5, c6, c7, h⟩ := h
  exact got_lt h
def aSend (a : As) (now nonce : Int) : Np × Int × As :=
  if isT now = true then (if nonce = 0 then (np0, 2, a) else if nonce = a.nonce then (np0, 10, a) else ({ np0 with ver := a.ver, mode := 3, xmt := nonce }, 0, { a with t1 := now, nonce := nonce, pend := true })) else (np0, 3, a)
/-- the outcome of a reply that ends no request -/
def aRef (a : As) (p : Np) (now : Int) : Option Int :=
  if nchk p = 0 ∧ p.mode = 4 ∧ isT now = true ∧ ¬ ((a.t1 ≠ 0 ∨ a.nonce ≠ 0) ∧ now < a.t1) then (if a.pend = true then (if p.org = a.nonce then (if p.xmt ≠ 0 ∧ p.xmt = a.xmt then some 3 else none) else some 2) else some 1) else some 0
def aAcc (a : As) (p : Np) (now : Int) : Hd :=
  if (kissP p).2 = true then ⟨4, (kissP p).1, ⟨0, 0, 0, 0⟩⟩ else if nsync p = true then
    (if (instS p.rcv now).2 = true ∧ (instS p.xmt now).2 = true ∧ ¬ (instS p.xmt now).1 < (instS p.rcv now).1 then ⟨7, ⟨#[]⟩, ⟨a.t1, (instS p.rcv now).1, (instS p.xmt now).1, now⟩⟩ else hdK 6) else hdK 5
def aRecv (a : As) (p : Np) (now : Int) : Hd × As := match aRef a p now with
  | some k => (hdK k, a)
  | none => (aAcc a p now, { a with pend := false, xmt := p.xmt })
def as4 : As := ⟨4, 0, 0, false, 0⟩
set_option maxRecDepth 100000 in
set_option maxHeartbeats 2000000 in
theorem pANew (w : World) : Calls Tryz.prog 35 #[.int .i64 4] w fun e w' => e = .returned (.pointer (some ⟨w.heap.size, 0, none⟩)) ∧ AsAt w' w.heap.size as4 ∧ Only [] w w' := by
  go_enter Tryz.func35, Tryz.ntmps35
  have OO := Lib.hid (Only.refl [] w)
  go_wp2
  refine alloc_abs (G := fun w0 => bodyPost _ _ _ _ _ w0) ?_
  intro w1 hb ho hs
  go_ret
  exact ⟨rfl, ⟨0, 0, 0, 0, 0, 0, 0, 0, hb⟩, ho⟩
set_option maxRecDepth 100000 in
set_option maxHeartbeats 2000000 in
theorem pASend {w : World} {b : Nat} {a : As} (ha : AsAt w b a) (now n : Int) :
    Calls Tryz.prog 39 #[.pointer (some ⟨b, 0, none⟩), .int .i64 now, .int .u64 n] w fun e w' => e = .returned (.tuple #[npV (aSend a now n).1, .int .i64 (aSend a now n).2.1]) ∧ AsAt w' b (aSend a now n).2.2 ∧ Only [b] w w' := by
  obtain ⟨c0, c1, c2, c3, c4, c5, c6, c7, hA⟩ := ha
  obtain ⟨ver, t1, nonce, pend, xmt⟩ := a
  dsimp only at hA
  have HT := Lib.hid (fun w' => pReading now w')
  have HE : Hid (aSend ⟨ver, t1, nonce, pend, xmt⟩ now n = if isT now = true then (if n = 0 then (np0, 2, ⟨ver, t1, nonce, pend, xmt⟩) else if n = nonce then (np0, 10, ⟨ver, t1, nonce, pend, xmt⟩) else (⟨0, ver, 3, 0, 0, 0, 0, 0, 0, 0, 0, 0, n⟩, 0, ⟨ver, now, n, true, xmt⟩)) else (np0, 3, ⟨ver, t1, nonce, pend, xmt⟩)) := Lib.hid rfl
  generalize aSend ⟨ver, t1, nonce, pend, xmt⟩ now n = res at HE ⊢
  generalize isT now = ok at HT HE
  cases ok
  · obtain rfl : res = (np0, 3, ⟨ver, t1, nonce, pend, xmt⟩) := by have := HE.out; simpa using this
    clear HE
    go_enter Tryz.func39, Tryz.ntmps39
    go_upto_region 1 with (fail)
    refine alloc_abs (G := fun w0 => Code.wp _ _ _ _ w0) ?_
    intro w1 hb1 ho1 hs1
    obtain ⟨b1, hbe1⟩ : ∃ b, w.heap.size = b := ⟨_, rfl⟩
    rw [hbe1] at hb1
    rw [hbe1]
    have HN : Hid (w.heap.size ≤ b1) := Lib.hid (by omega)
    have B1 := Lib.hid hb1; have OO := Lib.hid ho1
    clear hb1 hs1 hbe1
    have B2 := Lib.hid (ho1.got hA (by simp)); have HX2 := Lib.hid (got_lt hA)
    replace OO := Lib.hid (ho1.weak (S' := [b]) (by simp))
    clear ho1
    have k1 := c_13 B1.out; have k2 := c_13 B2.out
    go_wp2_with fail
    refine (HT.out _).mono ?_
    rintro e w2 ⟨rfl, ho⟩
    clear k1 k2
    replace OO := Lib.hid (OO.out.nil_trans ho); replace B1 := Lib.hid (ho.got B1.out (by simp)); replace B2 := Lib.hid (ho.got B2.out (by simp))
    clear ho
    have k1 := c_13 B1.out; have k2 := c_13 B2.out
    go_wp2
    have HD := setCell_got (o := 12) (.int .u64 0) (setCell_got (o := 11) (.int .u64 0) (setCell_got (o := 10) (.int .u64 0) (setCell_got (o := 9) (.int .u64 0) (setCell_got (o := 8) (.int .u32 0) (setCell_got (o := 7) (.int .u32 0) (setCell_got (o := 6) (.int .u32 0) (setCell_got (o := 5) (.int .i64 0) (setCell_got (o := 4) (.int .i64 0) (setCell_got (o := 3) (.int .i64 0) (setCell_got (o := 2) (.int .i64 0) (setCell_got (o := 1) (.int .i64 0) (setCell_got (o := 0) (.int .i64 0) (B1.out)))))))))))))
    have e0 := cell_got HD 0; have e1 := cell_got HD 1; have e2 := cell_got HD 2; have e3 := cell_got HD 3; have e4 := cell_got HD 4; have e5 := cell_got HD 5; have e6 := cell_got HD 6; have e7 := cell_got HD 7; have e8 := cell_got HD 8; have e9 := cell_got HD 9; have e10 := cell_got HD 10; have e11 := cell_got HD 11; have e12 := cell_got HD 12; have le := got_lt HD
    refine bodyPost_ret (v := .tuple #[.agg #[.int .i64 0, .int .i64 0, .int .i64 0, .int .i64 0, .int .i64 0, .int .i64 0, .int .u32 0, .int .u32 0, .int .u32 0, .int .u64 0, .int .u64 0, .int .u64 0, .int .u64 0], .int .i64 3]) (by simp [results, Tryz.results39, go_sem, e0, e1, e2, e3, e4, e5, e6, e7, e8, e9, e10, e11, e12]) rfl ⟨rfl, ⟨c0, c1, c2, c3, c4, c5, c6, c7, (setCell_oth (.int .u64 0) (setCell_oth (.int .u64 0) (setCell_oth (.int .u64 0) (setCell_oth (.int .u64 0) (setCell_oth (.int .u32 0) (setCell_oth (.int .u32 0) (setCell_oth (.int .u32 0) (setCell_oth (.int .i64 0) (setCell_oth (.int .i64 0) (setCell_oth (.int .i64 0) (setCell_oth (.int .i64 0) (setCell_oth (.int .i64 0) (setCell_oth (.int .i64 0) B2.out (show b ≠ b1 from (by have e2 := HX2.out; have e1 := HN.out; omega))) (show b ≠ b1 from (by have e2 := HX2.out; have e1 := HN.out; omega))) (show b ≠ b1 from (by have e2 := HX2.out; have e1 := HN.out; omega))) (show b ≠ b1 from (by have e2 := HX2.out; have e1 := HN.out; omega))) (show b ≠ b1 from (by have e2 := HX2.out; have e1 := HN.out; omega))) (show b ≠ b1 from (by have e2 := HX2.out; have e1 := HN.out; omega))) (show b ≠ b1 from (by have e2 := HX2.out; have e1 := HN.out; omega))) (show b ≠ b1 from (by have e2 := HX2.out; have e1 := HN.out; omega))) (show b ≠ b1 from (by have e2 := HX2.out; have e1 := HN.out; omega))) (show b ≠ b1 from (by have e2 := HX2.out; have e1 := HN.out; omega))) (show b ≠ b1 from (by have e2 := HX2.out; have e1 := HN.out; omega))) (show b ≠ b1 from (by have e2 := HX2.out; have e1 := HN.out; omega))) (show b ≠ b1 from (by have e2 := HX2.out; have e1 := HN.out; omega)))⟩, (((((((((((((OO.out.setCell (.inr HN.out) _).setCell (.inr HN.out) _).setCell (.inr HN.out) _).setCell (.inr HN.out) _).setCell (.inr HN.out) _).setCell (.inr HN.out) _).setCell (.inr HN.out) _).setCell (.inr HN.out) _).setCell (.inr HN.out) _).setCell (.inr HN.out) _).setCell (.inr HN.out) _).setCell (.inr HN.out) _).setCell (.inr HN.out) _)⟩
  · by_cases n0 : n = 0
    · subst n0
      obtain rfl : res = (np0, 2, ⟨ver, t1, nonce, pend, xmt⟩) := by have := HE.out; simpa using this
      clear HE
      go_enter Tryz.func39, Tryz.ntmps39
      go_upto_region 1 with (fail)
      refine alloc_abs (G := fun w0 => Code.wp _ _ _ _ w0) ?_
      intro w1 hb1 ho1 hs1
      obtain ⟨b1, hbe1⟩ : ∃ b, w.heap.size = b := ⟨_, rfl⟩
      rw [hbe1] at hb1
      rw [hbe1]
      have HN : Hid (w.heap.size ≤ b1) := Lib.hid (by omega)
      have B1 := Lib.hid hb1; have OO := Lib.hid ho1
      clear hb1 hs1 hbe1
      have B2 := Lib.hid (ho1.got hA (by simp)); have HX2 := Lib.hid (got_lt hA)
      replace OO := Lib.hid (ho1.weak (S' := [b]) (by simp))
      clear ho1
      have k1 := c_13 B1.out; have k2 := c_13 B2.out
      go_wp2_with fail
      refine (HT.out _).mono ?_
      rintro e w2 ⟨rfl, ho⟩
      clear k1 k2
      replace OO := Lib.hid (OO.out.nil_trans ho); replace B1 := Lib.hid (ho.got B1.out (by simp)); replace B2 := Lib.hid (ho.got B2.out (by simp))
      clear ho
      have k1 := c_13 B1.out; have k2 := c_13 B2.out
      go_wp2
      have HD := setCell_got (o := 12) (.int .u64 0) (setCell_got (o := 11) (.int .u64 0) (setCell_got (o := 10) (.int .u64 0) (setCell_got (o := 9) (.int .u64 0) (setCell_got (o := 8) (.int .u32 0) (setCell_got (o := 7) (.int .u32 0) (setCell_got (o := 6) (.int .u32 0) (setCell_got (o := 5) (.int .i64 0) (setCell_got (o := 4) (.int .i64 0) (setCell_got (o := 3) (.int .i64 0) (setCell_got (o := 2) (.int .i64 0) (setCell_got (o := 1) (.int .i64 0) (setCell_got (o := 0) (.int .i64 0) (B1.out)))))))))))))
      have e0 := cell_got HD 0; have e1 := cell_got HD 1; have e2 := cell_got HD 2; have e3 := cell_got HD 3; have e4 := cell_got HD 4; have e5 := cell_got HD 5; have e6 := cell_got HD 6; have e7 := cell_got HD 7; have e8 := cell_got HD 8; have e9 := cell_got HD 9; have e10 := cell_got HD 10; have e11 := cell_got HD 11; have e12 := cell_got HD 12; have le := got_lt HD
      refine bodyPost_ret (v := .tuple #[.agg #[.int .i64 0, .int .i64 0, .int .i64 0, .int .i64 0, .int .i64 0, .int .i64 0, .int .u32 0, .int .u32 0, .int .u32 0, .int .u64 0, .int .u64 0, .int .u64 0, .int .u64 0], .int .i64 2]) (by simp [results, Tryz.results39, go_sem, e0, e1, e2, e3, e4, e5, e6, e7, e8, e9, e10, e11, e12]) rfl ⟨rfl, ⟨c0, c1, c2, c3, c4, c5, c6, c7, (setCell_oth (.int .u64 0) (setCell_oth (.int .u64 0) (setCell_oth (.int .u64 0) (setCell_oth (.int .u64 0) (setCell_oth (.int .u32 0) (setCell_oth (.int .u32 0) (setCell_oth (.int .u32 0) (setCell_oth (.int .i64 0) (setCell_oth (.int .i64 0) (setCell_oth (.int .i64 0) (setCell_oth (.int .i64 0) (setCell_oth (.int .i64 0) (setCell_oth (.int .i64 0) B2.out (show b ≠ b1 from (by have e2 := HX2.out; have e1 := HN.out; omega))) (show b ≠ b1 from (by have e2 := HX2.out; have e1 := HN.out; omega))) (show b ≠ b1 from (by have e2 := HX2.out; have e1 := HN.out; omega))) (show b ≠ b1 from (by have e2 := HX2.out; have e1 := HN.out; omega))) (show b ≠ b1 from (by have e2 := HX2.out; have e1 := HN.out; omega))) (show b ≠ b1 from (by have e2 := HX2.out; have e1 := HN.out; omega))) (show b ≠ b1 from (by have e2 := HX2.out; have e1 := HN.out; omega))) (show b ≠ b1 from (by have e2 := HX2.out; have e1 := HN.out; omega))) (show b ≠ b1 from (by have e2 := HX2.out; have e1 := HN.out; omega))) (show b ≠ b1 from (by have e2 := HX2.out; have e1 := HN.out; omega))) (show b ≠ b1 from (by have e2 := HX2.out; have e1 := HN.out; omega))) (show b ≠ b1 from (by have e2 := HX2.out; have e1 := HN.out; omega))) (show b ≠ b1 from (by have e2 := HX2.out; have e1 := HN.out; omega)))⟩, (((((((((((((OO.out.setCell (.inr HN.out) _).setCell (.inr HN.out) _).setCell (.inr HN.out) _).setCell (.inr HN.out) _).setCell (.inr HN.out) _).setCell (.inr HN.out) _).setCell (.inr HN.out) _).setCell (.inr HN.out) _).setCell (.inr HN.out) _).setCell (.inr HN.out) _).setCell (.inr HN.out) _).setCell (.inr HN.out) _).setCell (.inr HN.out) _)⟩
    · have q1 : (n == 0) = false := by simpa using n0
      by_cases n1 : n = nonce
      · subst n1
        obtain rfl : res = (np0, 10, ⟨ver, t1, n, pend, xmt⟩) := by have := HE.out; simpa [n0] using this
        clear HE n0
        go_enter Tryz.func39, Tryz.ntmps39
        go_upto_region 1 with (fail)
        refine alloc_abs (G := fun w0 => Code.wp _ _ _ _ w0) ?_
        intro w1 hb1 ho1 hs1
        obtain ⟨b1, hbe1⟩ : ∃ b, w.heap.size = b := ⟨_, rfl⟩
        rw [hbe1] at hb1
        rw [hbe1]
        have HN : Hid (w.heap.size ≤ b1) := Lib.hid (by omega)
        have B1 := Lib.hid hb1; have OO := Lib.hid ho1
        clear hb1 hs1 hbe1
        have B2 := Lib.hid (ho1.got hA (by simp)); have HX2 := Lib.hid (got_lt hA)
        replace OO := Lib.hid (ho1.weak (S' := [b]) (by simp))
        clear ho1
        have k1 := c_13 B1.out; have k2 := c_13 B2.out
        go_wp2_with fail
        refine (HT.out _).mono ?_
        rintro e w2 ⟨rfl, ho⟩
        clear k1 k2
        replace OO := Lib.hid (OO.out.nil_trans ho); replace B1 := Lib.hid (ho.got B1.out (by simp)); replace B2 := Lib.hid (ho.got B2.out (by simp))
        clear ho
        have k1 := c_13 B1.out; have k2 := c_13 B2.out
        go_wp2
        have HD := setCell_got (o := 12) (.int .u64 0) (setCell_got (o := 11) (.int .u64 0) (setCell_got (o := 10) (.int .u64 0) (setCell_got (o := 9) (.int .u64 0) (setCell_got (o := 8) (.int .u32 0) (setCell_got (o := 7) (.int .u32 0) (setCell_got (o := 6) (.int .u32 0) (setCell_got (o := 5) (.int .i64 0) (setCell_got (o := 4) (.int .i64 0) (setCell_got (o := 3) (.int .i64 0) (setCell_got (o := 2) (.int .i64 0) (setCell_got (o := 1) (.int .i64 0) (setCell_got (o := 0) (.int .i64 0) (B1.out)))))))))))))
        have e0 := cell_got HD 0; have e1 := cell_got HD 1; have e2 := cell_got HD 2; have e3 := cell_got HD 3; have e4 := cell_got HD 4; have e5 := cell_got HD 5; have e6 := cell_got HD 6; have e7 := cell_got HD 7; have e8 := cell_got HD 8; have e9 := cell_got HD 9; have e10 := cell_got HD 10; have e11 := cell_got HD 11; have e12 := cell_got HD 12; have le := got_lt HD
        refine bodyPost_ret (v := .tuple #[.agg #[.int .i64 0, .int .i64 0, .int .i64 0, .int .i64 0, .int .i64 0, .int .i64 0, .int .u32 0, .int .u32 0, .int .u32 0, .int .u64 0, .int .u64 0, .int .u64 0, .int .u64 0], .int .i64 10]) (by simp [results, Tryz.results39, go_sem, e0, e1, e2, e3, e4, e5, e6, e7, e8, e9, e10, e11, e12]) rfl ⟨rfl, ⟨c0, c1, c2, c3, c4, c5, c6, c7, (setCell_oth (.int .u64 0) (setCell_oth (.int .u64 0) (setCell_oth (.int .u64 0) (setCell_oth (.int .u64 0) (setCell_oth (.int .u32 0) (setCell_oth (.int .u32 0) (setCell_oth (.int .u32 0) (setCell_oth (.int .i64 0) (setCell_oth (.int .i64 0) (setCell_oth (.int .i64 0) (setCell_oth (.int .i64 0) (setCell_oth (.int .i64 0) (setCell_oth (.int .i64 0) B2.out (show b ≠ b1 from (by have e2 := HX2.out; have e1 := HN.out; omega))) (show b ≠ b1 from (by have e2 := HX2.out; have e1 := HN.out; omega))) (show b ≠ b1 from (by have e2 := HX2.out; have e1 := HN.out; omega))) (show b ≠ b1 from (by have e2 := HX2.out; have e1 := HN.out; omega))) (show b ≠ b1 from (by have e2 := HX2.out; have e1 := HN.out; omega))) (show b ≠ b1 from (by have e2 := HX2.out; have e1 := HN.out; omega))) (show b ≠ b1 from (by have e2 := HX2.out; have e1 := HN.out; omega))) (show b ≠ b1 from (by have e2 := HX2.out; have e1 := HN.out; omega))) (show b ≠ b1 from (by have e2 := HX2.out; have e1 := HN.out; omega))) (show b ≠ b1 from (by have e2 := HX2.out; have e1 := HN.out; omega))) (show b ≠ b1 from (by have e2 := HX2.out; have e1 := HN.out; omega))) (show b ≠ b1 from (by have e2 := HX2.out; have e1 := HN.out; omega))) (show b ≠ b1 from (by have e2 := HX2.out; have e1 := HN.out; omega)))⟩, (((((((((((((OO.out.setCell (.inr HN.out) _).setCell (.inr HN.out) _).setCell (.inr HN.out) _).setCell (.inr HN.out) _).setCell (.inr HN.out) _).setCell (.inr HN.out) _).setCell (.inr HN.out) _).setCell (.inr HN.out) _).setCell (.inr HN.out) _).setCell (.inr HN.out) _).setCell (.inr HN.out) _).setCell (.inr HN.out) _).setCell (.inr HN.out) _)⟩
      · have q2 : (n == nonce) = false := by simpa using n1
        obtain rfl : res = (⟨0, ver, 3, 0, 0, 0, 0, 0, 0, 0, 0, 0, n⟩, 0, ⟨ver, now, n, true, xmt⟩) := by have := HE.out; simpa [n0, n1] using this
        clear HE n0 n1
        go_enter Tryz.func39, Tryz.ntmps39
        go_upto_region 1 with (fail)
        refine alloc_abs (G := fun w0 => Code.wp _ _ _ _ w0) ?_
        intro w1 hb1 ho1 hs1
        obtain ⟨b1, hbe1⟩ : ∃ b, w.heap.size = b := ⟨_, rfl⟩
        rw [hbe1] at hb1
        rw [hbe1]
        have HN : Hid (w.heap.size ≤ b1) := Lib.hid (by omega)
        have B1 := Lib.hid hb1; have OO := Lib.hid ho1
        clear hb1 hs1 hbe1
        have B2 := Lib.hid (ho1.got hA (by simp)); have HX2 := Lib.hid (got_lt hA)
        replace OO := Lib.hid (ho1.weak (S' := [b]) (by simp))
        clear ho1
        have k1 := c_13 B1.out; have k2 := c_13 B2.out
        go_wp2_with fail
        refine (HT.out _).mono ?_
        rintro e w2 ⟨rfl, ho⟩
        clear k1 k2
        replace OO := Lib.hid (OO.out.nil_trans ho); replace B1 := Lib.hid (ho.got B1.out (by simp)); replace B2 := Lib.hid (ho.got B2.out (by simp))
        clear ho
        have k1 := c_13 B1.out; have k2 := c_13 B2.out
        go_upto_region 11 with (fail)
        refine wabs (G := fun w0 => Code.wp _ _ _ _ w0) (R := fun w3 => w3.heap[b1]? = some (.cells #[.int .i64 0, .int .i64 0, .int .i64 0, .int .i64 0, .int .i64 0, .int .i64 0, .int .u32 0, .int .u32 0, .int .u32 0, .int .u64 0, .int .u64 0, .int .u64 0, .int .u64 0] 33 (0, 0)) ∧ w3.heap[b]? = some (.cells #[.int .i64 ver, .int .i64 now, .int .u64 n, .bool true, .int .u64 xmt, .int .i64 c0, .int .i64 c1, .int .i64 c2, .int .i64 c3, .int .i64 c4, .int .i64 c5, .int .i64 c6, .int .i64 c7] 155 (0, 0)) ∧ Only [b] w w3) ⟨(setCell_oth (.bool true) (setCell_oth (.int .u64 n) (setCell_oth (.int .i64 now) B1.out (show b1 ≠ b from (by have e1 := HN.out; have e2 := HX2.out; omega))) (show b1 ≠ b from (by have e1 := HN.out; have e2 := HX2.out; omega))) (show b1 ≠ b from (by have e1 := HN.out; have e2 := HX2.out; omega))), (setCell_got (o := 3) (.bool true) (setCell_got (o := 2) (.int .u64 n) (setCell_got (o := 1) (.int .i64 now) B2.out))), (((OO.out.setCell (.inl (by simp)) _).setCell (.inl (by simp)) _).setCell (.inl (by simp)) _)⟩ ?_
        rintro w3 ⟨g1, g2, ho⟩
        clear k1 k2
        replace B1 := Lib.hid g1; replace B2 := Lib.hid g2; replace OO := Lib.hid ho
        clear ho g1 g2
        have k1 := c_13 B1.out; have k2 := c_13 B2.out
        go_wp2
        have HD := setCell_got (o := 12) (.int .u64 n) (setCell_got (o := 11) (.int .u64 0) (setCell_got (o := 10) (.int .u64 0) (setCell_got (o := 9) (.int .u64 0) (setCell_got (o := 8) (.int .u32 0) (setCell_got (o := 7) (.int .u32 0) (setCell_got (o := 6) (.int .u32 0) (setCell_got (o := 5) (.int .i64 0) (setCell_got (o := 4) (.int .i64 0) (setCell_got (o := 3) (.int .i64 0) (setCell_got (o := 2) (.int .i64 3) (setCell_got (o := 1) (.int .i64 ver) (setCell_got (o := 0) (.int .i64 0) (B1.out)))))))))))))
        have e0 := cell_got HD 0; have e1 := cell_got HD 1; have e2 := cell_got HD 2; have e3 := cell_got HD 3; have e4 := cell_got HD 4; have e5 := cell_got HD 5; have e6 := cell_got HD 6; have e7 := cell_got HD 7; have e8 := cell_got HD 8; have e9 := cell_got HD 9; have e10 := cell_got HD 10; have e11 := cell_got HD 11; have e12 := cell_got HD 12; have le := got_lt HD
        refine bodyPost_ret (v := .tuple #[.agg #[.int .i64 0, .int .i64 ver, .int .i64 3, .int .i64 0, .int .i64 0, .int .i64 0, .int .u32 0, .int .u32 0, .int .u32 0, .int .u64 0, .int .u64 0, .int .u64 0, .int .u64 n], .int .i64 0]) (by simp [results, Tryz.results39, go_sem, e0, e1, e2, e3, e4, e5, e6, e7, e8, e9, e10, e11, e12]) rfl ⟨rfl, ⟨c0, c1, c2, c3, c4, c5, c6, c7, (setCell_oth (.int .u64 n) (setCell_oth (.int .u64 0) (setCell_oth (.int .u64 0) (setCell_oth (.int .u64 0) (setCell_oth (.int .u32 0) (setCell_oth (.int .u32 0) (setCell_oth (.int .u32 0) (setCell_oth (.int .i64 0) (setCell_oth (.int .i64 0) (setCell_oth (.int .i64 0) (setCell_oth (.int .i64 3) (setCell_oth (.int .i64 ver) (setCell_oth (.int .i64 0) B2.out (show b ≠ b1 from (by have e2 := HX2.out; have e1 := HN.out; omega))) (show b ≠ b1 from (by have e2 := HX2.out; have e1 := HN.out; omega))) (show b ≠ b1 from (by have e2 := HX2.out; have e1 := HN.out; omega))) (show b ≠ b1 from (by have e2 := HX2.out; have e1 := HN.out; omega))) (show b ≠ b1 from (by have e2 := HX2.out; have e1 := HN.out; omega))) (show b ≠ b1 from (by have e2 := HX2.out; have e1 := HN.out; omega))) (show b ≠ b1 from (by have e2 := HX2.out; have e1 := HN.out; omega))) (show b ≠ b1 from (by have e2 := HX2.out; have e1 := HN.out; omega))) (show b ≠ b1 from (by have e2 := HX2.out; have e1 := HN.out; omega))) (show b ≠ b1 from (by have e2 := HX2.out; have e1 := HN.out; omega))) (show b ≠ b1 from (by have e2 := HX2.out; have e1 := HN.out; omega))) (show b ≠ b1 from (by have e2 := HX2.out; have e1 := HN.out; omega))) (show b ≠ b1 from (by have e2 := HX2.out; have e1 := HN.out; omega)))⟩, (((((((((((((OO.out.setCell (.inr HN.out) _).setCell (.inr HN.out) _).setCell (.inr HN.out) _).setCell (.inr HN.out) _).setCell (.inr HN.out) _).setCell (.inr HN.out) _).setCell (.inr HN.out) _).setCell (.inr HN.out) _).setCell (.inr HN.out) _).setCell (.inr HN.out) _).setCell (.inr HN.out) _).setCell (.inr HN.out) _).setCell (.inr HN.out) _)⟩
end Go.Proofs.YtikjdmbfjkbndaaGreat
