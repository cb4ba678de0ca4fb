/- The reference of layer 6: in, begins, old, Check. Condition: the length. -/
import Derived.Test.YtnfejojakikeeaaGreatDoorQ4
import Derived.Test.YtnfejojakikeeaaGreatDoorKh
namespace Go.Proofs.YtnfejojakikeeaaGreatDoor
open Go.RowKit

theorem rin (n m : Int) (w : World) (h0 : 0 ≤ m) (h1 : m ≤ 9223372036854775807) : Calls Tryz.prog 25 #[.int .i64 n, .int .i64 m] w fun e w' => e = .returned (.bool (inM n m)) ∧ w = w' := by
  by_cases h1 : -m ≤ n
  · have d1 : decide (n ≥ -m) = true := by simp [h1]
    have d1b : decide (-m ≤ n) = true := by simp [h1]
    by_cases h2 : n ≤ m
    · rw [inM_t.2 ⟨h1, h2⟩]
      have d2 : decide (n ≤ m) = true := by simp [h2]
      go_enter Tryz.func25, Tryz.ntmps25
      go_wp2
      go_ret
      exact ⟨rfl, rfl⟩
    · rw [inM_f.2 (fun h => h2 h.2)]
      have d2 : decide (n ≤ m) = false := by simpa using h2
      go_enter Tryz.func25, Tryz.ntmps25
      go_wp2
      go_ret
      exact ⟨rfl, rfl⟩
  · rw [inM_f.2 (fun h => h1 h.1)]
    have d1 : decide (n ≥ -m) = false := by simpa using h1
    have d1b : decide (-m ≤ n) = false := by simpa using h1
    go_enter Tryz.func25, Tryz.ntmps25
    go_wp2
    go_ret
    exact ⟨rfl, rfl⟩
set_option maxHeartbeats 1000000 in
theorem rbegins (sec : Int) (w : World) (h0 : -8000000000 ≤ sec) (h1 : sec ≤ 8000000000) : Calls Tryz.prog 26 #[.int .i64 sec] w fun e w' => e = .returned (.bool (mst sec)) ∧ Only [] w w' := by
  have hof := rof_yes sec w h0 h1
  have HOF := Lib.hid hof
  clear hof
  go_enter Tryz.func26, Tryz.ntmps26
  go_wp2_with fail
  refine HOF.out.mono ?_
  rintro e w1 ⟨⟨y, m, d, hcv, rfl⟩, ho1⟩
  have O1 := Lib.hid ho1
  have hm := mst_of hcv
  obtain ⟨H, hH⟩ : ∃ H, H = sec % 86400 / 3600 := ⟨_, rfl⟩
  obtain ⟨M, hM⟩ : ∃ M, M = sec % 86400 / 60 % 60 := ⟨_, rfl⟩
  obtain ⟨S, hS⟩ : ∃ S, S = sec % 86400 % 60 := ⟨_, rfl⟩
  rw [← hH, ← hM, ← hS]
  have hz : sec % 86400 = 0 ↔ H = 0 ∧ M = 0 ∧ S = 0 := by omega
  have HM := Lib.hid hm; have HZ := Lib.hid hz
  clear hm hz hcv ho1 hH hM hS HOF
  unfold civV
  by_cases hd1 : d = 1
  · have b1 : (d == 1) = true := by simp [hd1]
    by_cases hh : H = 0
    · have b2 : (H == 0) = true := by simp [hh]
      by_cases hmi : M = 0
      · have b3 : (M == 0) = true := by simp [hmi]
        by_cases hs : S = 0
        · have b4 : (S == 0) = true := by simp [hs]
          have HR : Hid (mst sec = true) := Lib.hid (by rw [HM.out]; simp [hd1, HZ.out.2 ⟨hh, hmi, hs⟩])
          clear hd1 hh hmi hs
          go_wp2
          go_ret
          exact ⟨by rw [HR.out]; rfl, O1.out.alloc _⟩
        · have b4 : (S == 0) = false := by simp [hs]
          have HR : Hid (mst sec = false) := Lib.hid (by rw [HM.out]; simp [show ¬ sec % 86400 = 0 from fun q => hs (HZ.out.1 q).2.2])
          clear hd1 hh hmi hs
          go_wp2
          go_ret
          exact ⟨by rw [HR.out]; rfl, O1.out.alloc _⟩
      · have b3 : (M == 0) = false := by simp [hmi]
        have HR : Hid (mst sec = false) := Lib.hid (by rw [HM.out]; simp [show ¬ sec % 86400 = 0 from fun q => hmi (HZ.out.1 q).2.1])
        clear hd1 hh hmi
        go_wp2
        go_ret
        exact ⟨by rw [HR.out]; rfl, O1.out.alloc _⟩
    · have b2 : (H == 0) = false := by simp [hh]
      have HR : Hid (mst sec = false) := Lib.hid (by rw [HM.out]; simp [show ¬ sec % 86400 = 0 from fun q => hh (HZ.out.1 q).1])
      clear hd1 hh
      go_wp2
      go_ret
      exact ⟨by rw [HR.out]; rfl, O1.out.alloc _⟩
  · have b1 : (d == 1) = false := by simp [hd1]
    have HR : Hid (mst sec = false) := Lib.hid (by rw [HM.out]; simp [hd1])
    clear hd1
    go_wp2
    go_ret
    exact ⟨by rw [HR.out]; rfl, O1.out.alloc _⟩
set_option maxRecDepth 100000 in
set_option maxHeartbeats 1000000 in
theorem rold {w : World} {p : Option Addr} {cap : Nat} {es : List Le} (b x : Int) (hv : VRow leC 2 w p es.length cap es) (hn : es.length ≤ 100000) (i : Nat) (hi : i < es.length) :
    Calls Tryz.prog 27 #[.agg #[.int .i64 b, .int .i64 x, .slice p es.length cap], .int .i64 i] w fun e w' => e = .returned (.int .i64 (prvO b es i)) ∧ Only [] w w' := by
  obtain ⟨bk, off, hp⟩ := hv.ptr hi
  subst hp
  have HV := Lib.hid hv
  have hij : (i : Int) < (es.length : Int) := by omega
  clear hv
  by_cases h0 : i = 0
  · subst h0
    have HS : Hid (prvO b es 0 = b) := Lib.hid (by simp [prvO])
    go_enter Tryz.func27, Tryz.ntmps27
    go_upto_region 1 with (fail)
    refine alloc_abs (G := fun w0 => Code.wp _ _ _ _ w0) ?_
    intro w1 hb1 ho1 hs1
    have g0 := cell_got hb1 0
    have l0 := got_lt hb1
    have O1 := Lib.hid ho1
    clear hb1 ho1 hs1
    go_wp2
    go_ret
    exact ⟨ret_int (by rw [HS.out]), O1.out⟩
  · have HS : Hid (prvO b es i = (es.getD (i - 1) ⟨0, 0⟩).o) := Lib.hid (by simp [prvO, h0])
    have b1 : ((i : Int) == 0) = false := by simp; omega
    go_enter Tryz.func27, Tryz.ntmps27
    go_upto_region 1 with (fail)
    refine alloc_abs (G := fun w0 => Code.wp _ _ _ _ w0) ?_
    intro w1 hb1 ho1 hs1
    obtain ⟨e0, e1, lb⟩ := HV.out.ent ho1 rfl (show i - 1 < es.length by omega)
    have g2 := cell_got hb1 2
    have l0 := got_lt hb1
    have O1 := Lib.hid ho1
    clear hb1 ho1 hs1
    obtain ⟨o1, ho1⟩ : ∃ o1, o1 = (es.getD (i - 1) ⟨0, 0⟩).o := ⟨_, rfl⟩
    rw [← ho1] at e1
    have HP := Lib.hid ho1
    clear ho1 e0
    have hi1 : (1 : Int) ≤ (i : Int) := by omega
    have hi2 : (i : Int) - 1 < (es.length : Int) := by omega
    have hi3 : IntKind.i64.wrap ((i : Int) - 1) = (i : Int) - 1 := IntWalk.i64_in _ (by omega)
    have hi4 : ((i : Int) - 1).toNat = i - 1 := by omega
    go_wp2
    go_ret
    exact ⟨ret_int (by rw [HS.out, HP.out]), O1.out⟩
end Go.Proofs.YtnfejojakikeeaaGreatDoor
