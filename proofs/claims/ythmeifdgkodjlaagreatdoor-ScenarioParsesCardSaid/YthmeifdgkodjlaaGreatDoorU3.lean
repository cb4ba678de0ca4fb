/- timesyncref55: within, fits and Check compute the error of a script of faults. Condition: the length. -/
import Derived.Test.YthmeifdgkodjlaaGreatDoorU1
namespace Go.Proofs.YthmeifdgkodjlaaGreatDoor
open Go.RowKit

theorem rWithin (n lo hi : Int) (w : World) : Calls Tryz.prog 53 #[.int .i64 n, .int .i64 lo, .int .i64 hi] w fun e w' => e = .returned (.bool (inR n lo hi)) ∧ w = w' := by
  by_cases h0 : lo ≤ n
  · have d2 : decide (lo ≤ n) = true := by simpa using h0
    have HR : Hid (inR n lo hi = decide (n ≤ hi)) := Lib.hid (by simp [inR, h0])
    clear h0
    go_enter Tryz.func53, Tryz.ntmps53
    go_wp2
    go_ret
    exact ⟨by rw [HR.out]; rfl, rfl⟩
  · have d2 : decide (lo ≤ n) = false := by simpa using h0
    have HR : Hid (inR n lo hi = false) := Lib.hid (by simp [inR, h0])
    clear h0
    go_enter Tryz.func53, Tryz.ntmps53
    go_wp2
    go_ret
    exact ⟨by rw [HR.out]; rfl, rfl⟩
set_option maxRecDepth 100000 in
set_option maxHeartbeats 2000000 in
theorem rFits (k v : Int) (w : World) : Calls Tryz.prog 54 #[.int .i64 k, .int .i64 v] w fun e w' => e = .returned (.bool (fits k v)) ∧ w = w' := by
  have key : fits k v = if k = 2 ∨ k = 3 then inR v (-1125899906842624) 1125899906842624 else if k = 5 then inR v 1 15 else if k = 6 then inR v 0 3 else if k = 9 then inR v 0 1125899906842624 else decide (v = 0) := rfl
  generalize fits k v = res at key ⊢
  have KEY := Lib.hid key
  clear key
  by_cases h2 : k = 2
  · have HQ : Hid (res = inR v (-1125899906842624) 1125899906842624) := Lib.hid (by rw [KEY.out, if_pos (.inl h2)])
    subst h2
    go_enter Tryz.func54, Tryz.ntmps54
    go_wp2_with fail
    refine (rWithin v _ _ w).mono ?_
    rintro e w5 ⟨rfl, rfl⟩
    go_wp2
    go_ret
    exact ⟨by rw [HQ.out]; rfl, rfl⟩
  · have e2 : (k == 2) = false := by simp [h2]
    by_cases h3 : k = 3
    · have HQ : Hid (res = inR v (-1125899906842624) 1125899906842624) := Lib.hid (by rw [KEY.out, if_pos (.inr h3)])
      subst h3
      go_enter Tryz.func54, Tryz.ntmps54
      go_wp2_with fail
      refine (rWithin v _ _ w).mono ?_
      rintro e w5 ⟨rfl, rfl⟩
      go_wp2
      go_ret
      exact ⟨by rw [HQ.out]; rfl, rfl⟩
    · have e3 : (k == 3) = false := by simp [h3]
      have h23 : ¬ (k = 2 ∨ k = 3) := fun q => q.elim h2 h3
      by_cases h5 : k = 5
      · have HQ : Hid (res = inR v 1 15) := Lib.hid (by rw [KEY.out, if_neg h23, if_pos h5])
        subst h5
        go_enter Tryz.func54, Tryz.ntmps54
        go_wp2_with fail
        refine (rWithin v _ _ w).mono ?_
        rintro e w5 ⟨rfl, rfl⟩
        go_wp2
        go_ret
        exact ⟨by rw [HQ.out]; rfl, rfl⟩
      · have e5 : (k == 5) = false := by simp [h5]
        by_cases h6 : k = 6
        · have HQ : Hid (res = inR v 0 3) := Lib.hid (by rw [KEY.out, if_neg h23, if_neg h5, if_pos h6])
          subst h6
          go_enter Tryz.func54, Tryz.ntmps54
          go_wp2_with fail
          refine (rWithin v _ _ w).mono ?_
          rintro e w5 ⟨rfl, rfl⟩
          go_wp2
          go_ret
          exact ⟨by rw [HQ.out]; rfl, rfl⟩
        · have e6 : (k == 6) = false := by simp [h6]
          by_cases h9 : k = 9
          · have HQ : Hid (res = inR v 0 1125899906842624) := Lib.hid (by rw [KEY.out, if_neg h23, if_neg h5, if_neg h6, if_pos h9])
            subst h9
            go_enter Tryz.func54, Tryz.ntmps54
            go_wp2_with fail
            refine (rWithin v _ _ w).mono ?_
            rintro e w5 ⟨rfl, rfl⟩
            go_wp2
            go_ret
            exact ⟨by rw [HQ.out]; rfl, rfl⟩
          · have e9 : (k == 9) = false := by simp [h9]
            have HQ : Hid (res = (v == 0)) := Lib.hid (by rw [KEY.out, if_neg h23, if_neg h5, if_neg h6, if_neg h9, Bool.eq_iff_iff]; simp)
            clear h2 h3 h23 h5 h6 h9
            go_enter Tryz.func54, Tryz.ntmps54
            go_wp2
            go_ret
            exact ⟨by rw [HQ.out]; rfl, rfl⟩
def FcJ (w : World) (l : List Ft) (vi : Value) (wr : World) : Prop :=
  ∃ k : Nat, k ≤ l.length ∧ vi = .int .i64 k ∧ fe (fun i => ftE (l.getD i ft0)) l.length 0 = fe (fun i => ftE (l.getD i ft0)) (l.length - k) k ∧ Only [] w wr
set_option maxRecDepth 100000 in
set_option maxHeartbeats 4000000 in
theorem rFault {w : World} {p : Option Addr} {n cap : Nat} {l : List Ft} (hv : VRow ftC 5 w p n cap l) (hn : n ≤ 100000) :
    Calls Tryz.prog 27 #[.slice p n cap] w fun e w' => e = .returned (.int .i64 (fcE l)) ∧ Only [] w w' := by
  have hl := hv.len
  subst hl
  have HV := Lib.hid hv; clear hv
  go_enter Tryz.func27, Tryz.ntmps27
  by_cases h32 : 32 < l.length
  · have d2 : decide ((l.length : Int) > 32) = true := by simp; omega
    have d3 : decide (32 < (l.length : Int)) = true := by simp; omega
    have HX : Hid (fcE l = 6) := Lib.hid (by unfold fcE; rw [if_pos h32])
    go_wp2
    go_ret
    exact ⟨by rw [HX.out]; rfl, Only.refl _ _⟩
  · have d2 : decide ((l.length : Int) > 32) = false := by simp; omega
    have d3 : decide (32 < (l.length : Int)) = false := by simp; omega
    have HX : Hid (fcE l = fe (fun i => ftE (l.getD i ft0)) l.length 0) := Lib.hid (by unfold fcE; rw [if_neg h32])
    go_wp2
    go_loopw [3] (fun vi wr => FcJ w l vi wr) (fun vi _ => l.length - (intOf vi).toNat)
    case atStart => exact ⟨0, Nat.zero_le _, rfl, rfl, Only.refl _ _⟩
    case round =>
      clear d2 d3
      obtain ⟨k, hk, rfl, hfe, ho⟩ := hrel
      have HF := Lib.hid hfe; have OO := Lib.hid ho
      clear hfe ho
      by_cases hlt : k < l.length
      · obtain ⟨bk, off, hp, c0, c1, c2, c3, c4, lb⟩ := HV.out.ft OO.out hlt
        subst hp
        have HNO : Hid (∀ r, ftE (l.getD k ft0) = r → r ≠ 0 → fcE l = r) := Lib.hid (fun r h h' => by rw [HX.out, HF.out, fe_no hlt (by rw [h]; exact h'), h])
        have HYE : Hid (ftE (l.getD k ft0) = 0 → fe (fun i => ftE (l.getD i ft0)) l.length 0 = fe (fun i => ftE (l.getD i ft0)) (l.length - (k + 1)) (k + 1)) := Lib.hid (fun h => by rw [HF.out, fe_yes hlt h])
        generalize l.getD k ft0 = s at c0 c1 c2 c3 c4 HNO HYE
        go_upto_region 7 with (fail)
        refine alloc_abs (G := fun w0 => Code.wp _ _ _ _ w0) ?_
        intro w2 hb2 ho2 hs2
        have E2 := Lib.hid hb2; have O2 := Lib.hid (OO.out.nil_trans ho2)
        clear hb2 ho2 hs2 c0 c1 c2 c3 c4 lb
        have c0 := cell_got E2.out 0; have c1 := cell_got E2.out 1; have c2 := cell_got E2.out 2; have c3 := cell_got E2.out 3; have c4 := cell_got E2.out 4; have le := got_lt E2.out
        have hE : ftE s = if inR s.n 0 23 = true ∧ inR s.f 0 1125899906842624 = true ∧ inR s.t 0 1125899906842624 = true then (if s.t < s.f then 12 else if inR s.k 1 9 = true then (if fits s.k s.v = true then 0 else 3) else 8) else 3 := rfl
        go_wp2_with fail
        refine (rWithin s.n 0 23 w2).mono ?_
        rintro e w5 ⟨rfl, rfl⟩
        by_cases hn : inR s.n 0 23 = true
        · rw [hn]
          go_wp2_with fail
          refine (rWithin s.f 0 1125899906842624 w2).mono ?_
          rintro e w5 ⟨rfl, rfl⟩
          by_cases hf : inR s.f 0 1125899906842624 = true
          · rw [hf]
            go_wp2_with fail
            refine (rWithin s.t 0 1125899906842624 w2).mono ?_
            rintro e w5 ⟨rfl, rfl⟩
            by_cases ht : inR s.t 0 1125899906842624 = true
            · rw [ht]
              by_cases ho : s.t < s.f
              · have ox : decide (s.f > s.t) = true := by simp; omega
                have oy : decide (s.t < s.f) = true := by simp; omega
                have HQ : Hid (fcE l = 12) := Lib.hid (HNO.out _ (by rw [hE, if_pos ⟨hn, hf, ht⟩, if_pos ho]) (by decide))
                clear hE hn hf ht ho
                go_wp2
                go_ret
                exact ⟨by rw [HQ.out]; rfl, O2.out⟩
              · have ox : decide (s.f > s.t) = false := by simp; omega
                have oy : decide (s.t < s.f) = false := by simp; omega
                have HE2 : Hid (ftE s = if inR s.k 1 9 = true then (if fits s.k s.v = true then 0 else 3) else 8) := Lib.hid (by rw [hE, if_pos ⟨hn, hf, ht⟩, if_neg ho])
                clear ho
                go_wp2_with fail
                refine (rWithin s.k 1 9 w2).mono ?_
                rintro e w5 ⟨rfl, rfl⟩
                by_cases hk9 : inR s.k 1 9 = true
                · rw [hk9]
                  go_wp2_with fail
                  refine (rFits s.k s.v w2).mono ?_
                  rintro e w5 ⟨rfl, rfl⟩
                  by_cases hv : fits s.k s.v = true
                  · rw [hv]
                    have HQ := Lib.hid (HYE.out (by rw [HE2.out, if_pos hk9, if_pos hv]))
                    clear hE hn hf ht hk9 hv
                    go_wp2
                    go_roundw
                    case rel => exact ⟨k + 1, by omega, by go_num, HQ.out, O2.out⟩
                    case measure => first | (simp [intOf]; done) | (simp [intOf]; omega)
                  · have HQ : Hid (fcE l = 3) := Lib.hid (HNO.out _ (by rw [HE2.out, if_pos hk9, if_neg hv]) (by decide))
                    rw [Bool.not_eq_true] at hv
                    rw [hv]
                    clear hE hn hf ht hk9 hv
                    go_wp2
                    go_ret
                    exact ⟨by rw [HQ.out]; rfl, O2.out⟩
                · have HQ : Hid (fcE l = 8) := Lib.hid (HNO.out _ (by rw [HE2.out, if_neg hk9]) (by decide))
                  rw [Bool.not_eq_true] at hk9
                  rw [hk9]
                  clear hE hn hf ht hk9
                  go_wp2
                  go_ret
                  exact ⟨by rw [HQ.out]; rfl, O2.out⟩
            · have HQ : Hid (fcE l = 3) := Lib.hid (HNO.out _ (by rw [hE, if_neg (fun q => ht q.2.2)]) (by decide))
              rw [Bool.not_eq_true] at ht
              rw [ht]
              clear hE
              go_wp2
              go_ret
              exact ⟨by rw [HQ.out]; rfl, O2.out⟩
          · have HQ : Hid (fcE l = 3) := Lib.hid (HNO.out _ (by rw [hE, if_neg (fun q => hf q.2.1)]) (by decide))
            rw [Bool.not_eq_true] at hf
            rw [hf]
            clear hE
            go_wp2
            go_ret
            exact ⟨by rw [HQ.out]; rfl, O2.out⟩
        · have HQ : Hid (fcE l = 3) := Lib.hid (HNO.out _ (by rw [hE, if_neg (fun q => hn q.1)]) (by decide))
          rw [Bool.not_eq_true] at hn
          rw [hn]
          clear hE
          go_wp2
          go_ret
          exact ⟨by rw [HQ.out]; rfl, O2.out⟩
      · have HY : Hid (fcE l = 0) := Lib.hid (by rw [HX.out, HF.out, fe_end (by omega)])
        obtain rfl : k = l.length := by omega
        go_wp2
        go_ret
        exact ⟨by rw [HY.out]; rfl, OO.out⟩
end Go.Proofs.YthmeifdgkodjlaaGreatDoor
