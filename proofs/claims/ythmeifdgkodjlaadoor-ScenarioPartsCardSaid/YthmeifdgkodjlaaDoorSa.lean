/- fault.Check. Condition: the length. -/
import Derived.Test.YthmeifdgkodjlaaDoorS9
namespace Go.Proofs.YthmeifdgkodjlaaDoor
open Go.RowKit

def ftC (s : Ft) : List Value := [.int .i64 s.n, .int .i64 s.f, .int .i64 s.t, .int .i64 s.k, .int .i64 s.v]
theorem ftC_len (s : Ft) : (ftC s).length = 5 := rfl
theorem ftC_one (s : Ft) : ∀ u ∈ ftC s, u.oneCell' = true := by simp [ftC, Value.oneCell']
theorem VRow.ft {w wr : World} {cap k : Nat} {p : Option Addr} {l : List Ft} (hv : VRow ftC 5 w p l.length cap l) (ho : Only [] w wr) (hk : k < l.length) :
    ∃ bk off, p = some ⟨bk, off, none⟩ ∧ wr.cell? ⟨bk, off + k * 5, none⟩ = some (.int .i64 (l.getD k ft0).n) ∧ wr.cell? ⟨bk, off + k * 5 + 1, none⟩ = some (.int .i64 (l.getD k ft0).f) ∧ wr.cell? ⟨bk, off + k * 5 + 2, none⟩ = some (.int .i64 (l.getD k ft0).t) ∧ wr.cell? ⟨bk, off + k * 5 + 3, none⟩ = some (.int .i64 (l.getD k ft0).k) ∧ wr.cell? ⟨bk, off + k * 5 + 4, none⟩ = some (.int .i64 (l.getD k ft0).v) ∧ bk < wr.heap.size := by
  obtain ⟨bk, off, hp, hb, hc⟩ := hv.at_ ho (getD_some ft0 hk)
  exact ⟨bk, off, hp, hc 0 _ rfl, hc 1 _ rfl, hc 2 _ rfl, hc 3 _ rfl, hc 4 _ rfl, hb⟩
theorem rg_some {k : Int} (h : inR k 1 9 = true) (v : Int) : ∃ r, rgF k = some r ∧ fits k v = inR v r.1 r.2 := by
  have hb := inR_t.1 h
  have hc : k = 1 ∨ k = 2 ∨ k = 3 ∨ k = 4 ∨ k = 5 ∨ k = 6 ∨ k = 7 ∨ k = 8 ∨ k = 9 := by omega
  have hz : decide (v = 0) = inR v 0 0 := by rw [Bool.eq_iff_iff, inR_t]; simp; omega
  rcases hc with rfl | rfl | rfl | rfl | rfl | rfl | rfl | rfl | rfl
  · exact ⟨_, rfl, hz⟩
  · exact ⟨_, rfl, rfl⟩
  · exact ⟨_, rfl, rfl⟩
  · exact ⟨_, rfl, hz⟩
  · exact ⟨_, rfl, rfl⟩
  · exact ⟨_, rfl, rfl⟩
  · exact ⟨_, rfl, hz⟩
  · exact ⟨_, rfl, hz⟩
  · exact ⟨_, rfl, rfl⟩
theorem rg_none {k : Int} (h : ¬ inR k 1 9 = true) : rgF k = none := by
  have hb : ¬ (1 ≤ k ∧ k ≤ 9) := fun q => h (inR_t.2 q)
  unfold rgF
  repeat rw [if_neg (by omega)]
def FcI (w : World) (b : Nat) (l : List Ft) (vi : Value) (wr : World) : Prop :=
  ∃ k : Nat, k ≤ l.length ∧ vi = .int .i64 k ∧ fe (fun i => ftE (l.getD i ft0)) l.length 0 = fe (fun i => ftE (l.getD i ft0)) (l.length - k) k ∧ MapF (fun n : Int => Value.int .i64 n) rgV wr b rgF ∧ Only [] w wr
set_option maxRecDepth 100000 in
set_option maxHeartbeats 4000000 in
theorem pFault {w : World} {p : Option Addr} {n cap : Nat} {l : List Ft} (hv : VRow ftC 5 w p n cap l) (hn : n ≤ 100000) :
    Calls Tryd.prog 17 #[.slice p n cap] w fun e w' => e = .returned (.int .i64 (fcE l)) ∧ Only [] w w' := by
  have hl := hv.len
  subst hl
  have HV := Lib.hid hv; clear hv
  go_enter Tryd.func17, Tryd.ntmps17
  by_cases h32 : 32 < l.length
  · have d2 : decide ((l.length : Int) > 32) = true := by simp; omega
    have d3 : decide (32 < (l.length : Int)) = true := by simp; omega
    have HX : Hid (fcE l = 6) := Lib.hid (by unfold fcE; rw [if_pos h32])
    go_wp2
    go_ret
    exact ⟨by rw [HX.out]; rfl, Only.refl _ _⟩
  · have d2 : decide ((l.length : Int) > 32) = false := by simp; omega
    have d3 : decide (32 < (l.length : Int)) = false := by simp; omega
    have HX : Hid (fcE l = fe (fun i => ftE (l.getD i ft0)) l.length 0) := Lib.hid (by unfold fcE; rw [if_neg h32])
    go_wp2_with fail
    refine (pRanges w).mono ?_
    rintro e w1 ⟨rfl, hm1, ho1⟩
    have M1 := Lib.hid hm1; have O1 := Lib.hid ho1
    clear hm1 ho1
    go_wp2
    go_loopw [14] (fun vi wr => FcI w w.heap.size l vi wr) (fun vi _ => l.length - (intOf vi).toNat)
    case atStart => exact ⟨0, Nat.zero_le _, rfl, rfl, M1.out, O1.out⟩
    case round =>
      clear d2 d3
      obtain ⟨k, hk, rfl, hfe, hm, ho⟩ := hrel
      have HF := Lib.hid hfe; have MM := Lib.hid hm; have OO := Lib.hid ho
      clear hfe hm ho
      by_cases hlt : k < l.length
      · obtain ⟨bk, off, hp, c0, c1, c2, c3, c4, lb⟩ := HV.out.ft OO.out hlt
        subst hp
        have HNO : Hid (∀ r, ftE (l.getD k ft0) = r → r ≠ 0 → fcE l = r) := Lib.hid (fun r h h' => by rw [HX.out, HF.out, fe_no hlt (by rw [h]; exact h'), h])
        have HYE : Hid (ftE (l.getD k ft0) = 0 → fe (fun i => ftE (l.getD i ft0)) l.length 0 = fe (fun i => ftE (l.getD i ft0)) (l.length - (k + 1)) (k + 1)) := Lib.hid (fun h => by rw [HF.out, fe_yes hlt h])
        generalize l.getD k ft0 = s at c0 c1 c2 c3 c4 HNO HYE
        have hz := Tryd.zeroValue100
        have HZ := Lib.hid hz
        clear hz
        go_wp2_with (at_lookup; refine stop_here ?_)
        refine alloc_abs (G := fun w0 => Stop (wpList _ _ _ _ _ w0)) ?_
        intro w2 hb2 ho2 hs2
        have E2 := Lib.hid hb2; have O2 := Lib.hid (OO.out.nil_trans ho2); have M2 := Lib.hid (MM.out.kept ho2 (by simp))
        clear hb2 ho2 hs2 c0 c1 c2 c3 c4 lb
        refine stop_go ?_
        refine wpList_lookup_F (kE := fun n : Int => Value.int .i64 n) (vE := rgV) rfl _ _ 97 true rfl 3 100 (key_int Tryd.underlying3) Tryd.underlying97 (.agg #[.int .i64 0, .int .i64 0]) (HZ.out _) w.heap.size rgF rfl M2.out s.k rfl ?_
        have hsome : ∃ r1 r2 : Int, ((rgF s.k).map rgV).getD (.agg #[.int .i64 0, .int .i64 0]) = .agg #[.int .i64 r1, .int .i64 r2] ∧ (rgF s.k).isSome = inR s.k 1 9 ∧ (inR s.k 1 9 = true → fits s.k s.v = inR s.v r1 r2) := by
          by_cases h : inR s.k 1 9 = true
          · obtain ⟨r, h1, h2⟩ := rg_some h s.v
            exact ⟨r.1, r.2, by rw [h1]; rfl, by rw [h1, h]; rfl, fun _ => h2⟩
          · refine ⟨0, 0, by rw [rg_none h]; rfl, by rw [rg_none h]; rw [Bool.not_eq_true] at h; rw [h]; rfl, fun q => absurd q h⟩
        obtain ⟨r1, r2, hr, hs, hf⟩ := hsome
        rw [hr, hs]
        simp only [if_true]
        have HFI := Lib.hid hf
        clear hr hs hf
        go_upto_region 8 with (fail)
        refine alloc_abs (G := fun w0 => Code.wp _ _ _ _ w0) ?_
        intro w3 hb3 ho3 hs3
        have E3 := Lib.hid (ho3.got E2.out (by simp)); have O3 := Lib.hid (O2.out.nil_trans ho3); have M3 := Lib.hid (M2.out.kept ho3 (by simp)); have I3 := Lib.hid hb3
        clear hb3 ho3 hs3 E2 O2 M2
        have c0 := cell_got E3.out 0; have c1 := cell_got E3.out 1; have c2 := cell_got E3.out 2; have c4 := cell_got E3.out 4; have le := got_lt E3.out
        have i0 := cell_got I3.out 0; have i1 := cell_got I3.out 1; have li := got_lt I3.out
        have hE : ftE s = if inR s.n 0 23 = true ∧ inR s.f 0 1125899906842624 = true ∧ inR s.t 0 1125899906842624 = true then (if s.t < s.f then 12 else if inR s.k 1 9 = true then (if fits s.k s.v = true then 0 else 3) else 8) else 3 := rfl
        by_cases hn : inR s.n 0 23 = true
        · obtain ⟨hn0, hn1⟩ := inR_t.1 hn
          have hnx : decide (s.n < 0) = false := by simp; omega
          have hny : decide (s.n ≥ 24) = false := by simp; omega
          have hnz : decide (24 ≤ s.n) = false := by simp; omega
          by_cases hf : inR s.f 0 1125899906842624 = true
          · obtain ⟨hf0, hf1⟩ := inR_t.1 hf
            have hfx : decide (s.f < 0) = false := by simp; omega
            have hfy : decide (s.f > 1125899906842624) = false := by simp; omega
            have hfz : decide (1125899906842624 < s.f) = false := by simp; omega
            by_cases ht : inR s.t 0 1125899906842624 = true
            · obtain ⟨ht0, ht1⟩ := inR_t.1 ht
              have htx : decide (s.t < 0) = false := by simp; omega
              have hty : decide (s.t > 1125899906842624) = false := by simp; omega
              have htz : decide (1125899906842624 < s.t) = false := by simp; omega
              by_cases ho : s.t < s.f
              · have ox : decide (s.f > s.t) = true := by simp; omega
                have oy : decide (s.t < s.f) = true := by simp; omega
                have HQ : Hid (fcE l = 12) := Lib.hid (HNO.out _ (by rw [hE, if_pos ⟨hn, hf, ht⟩, if_pos ho]) (by decide))
                clear hE hn hf ht ho
                go_wp2
                go_ret
                exact ⟨by rw [HQ.out]; rfl, O3.out⟩
              · have ox : decide (s.f > s.t) = false := by simp; omega
                have oy : decide (s.t < s.f) = false := by simp; omega
                by_cases hk9 : inR s.k 1 9 = true
                · rw [hk9]
                  by_cases hv : inR s.v r1 r2 = true
                  · obtain ⟨v0, v1⟩ := inR_t.1 hv
                    have vx : decide (s.v < r1) = false := by simp; omega
                    have vy : decide (s.v > r2) = false := by simp; omega
                    have vz : decide (r2 < s.v) = false := by simp; omega
                    have HQ := Lib.hid (HYE.out (by rw [hE, if_pos ⟨hn, hf, ht⟩, if_neg ho, if_pos hk9, if_pos (by rw [HFI.out hk9, hv])]))
                    clear hE hn hf ht ho hk9 hv
                    go_wp2
                    go_roundw
                    case rel => exact ⟨k + 1, by omega, by go_num, HQ.out, M3.out, O3.out⟩
                    case measure => first | (simp [intOf]; done) | (simp [intOf]; omega)
                  · have HQ : Hid (fcE l = 3) := Lib.hid (HNO.out _ (by rw [hE, if_pos ⟨hn, hf, ht⟩, if_neg ho, if_pos hk9, if_neg (by rw [HFI.out hk9]; exact hv)]) (by decide))
                    rcases inR_no hv with hq | ⟨hq, hr⟩
                    · have vx : decide (s.v < r1) = true := by simp; omega
                      clear hE hn hf ht ho hk9 hv
                      go_wp2
                      go_ret
                      exact ⟨by rw [HQ.out]; rfl, O3.out⟩
                    · have vx : decide (s.v < r1) = false := by simp; omega
                      have vy : decide (s.v > r2) = true := by simp; omega
                      have vz : decide (r2 < s.v) = true := by simp; omega
                      clear hE hn hf ht ho hk9 hv
                      go_wp2
                      go_ret
                      exact ⟨by rw [HQ.out]; rfl, O3.out⟩
                · have HQ : Hid (fcE l = 8) := Lib.hid (HNO.out _ (by rw [hE, if_pos ⟨hn, hf, ht⟩, if_neg ho, if_neg hk9]) (by decide))
                  rw [Bool.not_eq_true] at hk9
                  rw [hk9]
                  clear hE hn hf ht ho hk9
                  go_wp2
                  go_ret
                  exact ⟨by rw [HQ.out]; rfl, O3.out⟩
            · have HQ : Hid (fcE l = 3) := Lib.hid (HNO.out _ (by rw [hE, if_neg (fun q => ht q.2.2)]) (by decide))
              rcases inR_no ht with hq | ⟨hq, hr⟩
              · have htx : decide (s.t < 0) = true := by simp; omega
                clear hE
                go_wp2
                go_ret
                exact ⟨by rw [HQ.out]; rfl, O3.out⟩
              · have htx : decide (s.t < 0) = false := by simp; omega
                have hty : decide (s.t > 1125899906842624) = true := by simp; omega
                have htz : decide (1125899906842624 < s.t) = true := by simp; omega
                clear hE
                go_wp2
                go_ret
                exact ⟨by rw [HQ.out]; rfl, O3.out⟩
          · have HQ : Hid (fcE l = 3) := Lib.hid (HNO.out _ (by rw [hE, if_neg (fun q => hf q.2.1)]) (by decide))
            rcases inR_no hf with hq | ⟨hq, hr⟩
            · have hfx : decide (s.f < 0) = true := by simp; omega
              clear hE
              go_wp2
              go_ret
              exact ⟨by rw [HQ.out]; rfl, O3.out⟩
            · have hfx : decide (s.f < 0) = false := by simp; omega
              have hfy : decide (s.f > 1125899906842624) = true := by simp; omega
              have hfz : decide (1125899906842624 < s.f) = true := by simp; omega
              clear hE
              go_wp2
              go_ret
              exact ⟨by rw [HQ.out]; rfl, O3.out⟩
        · have HQ : Hid (fcE l = 3) := Lib.hid (HNO.out _ (by rw [hE, if_neg (fun q => hn q.1)]) (by decide))
          rcases inR_no hn with hq | ⟨hq, hr⟩
          · have hnx : decide (s.n < 0) = true := by simp; omega
            clear hE
            go_wp2
            go_ret
            exact ⟨by rw [HQ.out]; rfl, O3.out⟩
          · have hnx : decide (s.n < 0) = false := by simp; omega
            have hny : decide (s.n ≥ 24) = true := by simp; omega
            have hnz : decide (24 ≤ s.n) = true := by simp; omega
            clear hE
            go_wp2
            go_ret
            exact ⟨by rw [HQ.out]; rfl, O3.out⟩
      · have HY : Hid (fcE l = 0) := Lib.hid (by rw [HX.out, HF.out, fe_end (by omega)])
        obtain rfl : k = l.length := by omega
        go_wp2
        go_ret
        exact ⟨by rw [HY.out]; rfl, OO.out⟩
end Go.Proofs.YthmeifdgkodjlaaDoor
