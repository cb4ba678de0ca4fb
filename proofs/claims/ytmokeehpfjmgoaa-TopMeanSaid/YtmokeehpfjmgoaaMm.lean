/- cluster.Spread and farthest: that they return, and a position in the list. Conditions: valid candidates, at least two. -/
import Derived.Test.YtmokeehpfjmgoaaMl
namespace Go.Proofs.Ytmokeehpfjmgoaa
open Go.RowKit

def SpdI (w : World) (l : List Cd) (vs vi : Value) (wr : World) : Prop := ∃ (k s : Nat), k ≤ l.length ∧ vi = .int .i64 k ∧ vs = .int .u64 s ∧ s < 18446744073709551616 ∧ Only [] w wr
set_option maxRecDepth 100000 in
set_option maxHeartbeats 2000000 in
theorem pSpread {w : World} {p : Option Addr} {n cap i : Nat} {l : List Cd} (hv : VRow cdC 5 w p n cap l) (hg : Gd l) (h2 : 2 ≤ l.length) (hi : i < l.length) :
    Calls Try.prog 31 #[.slice p n cap, .int .i64 i] w fun e w' => SomeI e ∧ Only [] w w' := by
  have hln := hv.len
  subst hln
  have hlb := hg.len
  have hck := pCheck hv (by omega)
  rw [chkC_ok.2 hg] at hck
  have HCK := Lib.hid hck; have HV := Lib.hid hv; have HG := Lib.hid hg
  have d1 : decide ((l.length : Int) < 2) = false := by simp; omega
  have d2 : decide ((l.length : Int) ≤ (i : Int)) = false := by simp; omega
  have d3 : decide (l.length ≤ i) = false := by simp; omega
  have d4 : decide (l.length < 2) = false := by simp; omega
  clear hv hg hck
  go_enter Try.func31, Try.ntmps31
  go_wp2_with fail
  refine HCK.out.mono ?_
  rintro e w1 ⟨rfl, ho1⟩
  have O1 := Lib.hid ho1
  clear ho1 HCK
  go_wp2_with fail
  go_loopw [5, 32] (fun vs vi wr => SpdI w1 l vs vi wr) (fun _ vi _ => l.length - (intOf vi).toNat)
  case atStart => exact ⟨0, 0, Nat.zero_le _, rfl, rfl, by omega, Only.refl _ _⟩
  case round =>
    obtain ⟨k, s, hk, rfl, rfl, hs, ho⟩ := hrel
    have OO := Lib.hid (O1.out.nil_trans ho)
    have OQ := Lib.hid ho
    clear ho
    by_cases hlt : k < l.length
    · obtain ⟨bk, off, hp, hb, c0, c1, c2, c3, c4⟩ := HV.out.cd OO.out hlt
      obtain ⟨bk', off', hp', hb', e0, e1, e2, e3, e4⟩ := HV.out.cd OO.out hi
      subst hp
      simp only [Option.some.injEq, Addr.mk.injEq, and_true] at hp'
      obtain ⟨rfl, rfl⟩ := hp'
      have hle := OO.out.size
      have hbb : bk < wr.heap.size := by omega
      have hb0 := okC_bd (HG.out.ok _ (List.getElem_mem hlt))
      have hb1 := okC_bd (HG.out.ok _ (List.getElem_mem hi))
      generalize l[k] = x at c0 c1 c2 c3 c4 hb0
      generalize l[i] = y at e0 e1 e2 e3 e4 hb1
      obtain ⟨id, of, di, ji, st⟩ := x
      obtain ⟨id2, of2, di2, ji2, st2⟩ := y
      dsimp only at c0 c1 c2 c3 c4 hb0 e0 e1 e2 e3 e4 hb1
      obtain ⟨_, _, o1, o2, _⟩ := hb0
      obtain ⟨_, _, o3, o4, _⟩ := hb1
      clear e0 e2 e3 e4
      go_upto_region 7 with (fail)
      refine alloc_abs (G := fun w0 => Code.wp _ _ _ _ w0) ?_
      intro w2 hb1 ho1 hs1
      have B2 := Lib.hid hb1; have O2 := Lib.hid (OQ.out.nil_trans ho1)
      have e1' : w2.cell? ⟨bk, off + i * 5 + 1, none⟩ = some (.int .i64 of2) := by rw [ho1.cell hbb (by simp)]; exact e1
      have hbb2 : bk < w2.heap.size := by omega
      clear hb1 ho1 hs1 c0 c1 c2 c3 c4 e1 hbb
      have k1 := cell_got B2.out 1; have lk := got_lt B2.out
      have HA := Lib.hid (fun w' => fabs (of2 - of) w' (by omega) (by omega))
      obtain ⟨m, hm⟩ : ∃ m, (of2 - of).natAbs = m := ⟨_, rfl⟩
      have hmb : m ≤ 9007199254740992 := by omega
      rw [hm] at HA
      clear hm
      have hwr : IntKind.i64.wrap (of2 - of) = of2 - of := by rw [IntKind.wrap_i64]; omega
      refine wp_region_grown [0, 1, 2, 3, 4, 5, 6, 7, 8, 9, 10, 11, 12, 13] [] (by kernel_rfl) (by kernel_rfl) ?_
      simp only [pick, List.map_cons, List.map_nil, List.getD_cons_succ, List.getD_cons_zero]
      iterate 8 (refine wpQuiet_step (fun K hK => ?_); go_simp; refine hK _ ?_; clear hK K)
      refine wpQuiet_enter_w (by kernel_rfl) 34 #[.int .i64 (of2 - of)] (fun _ => by kernel_rfl) (.tuple #[.int .i64 m, .bool true]) (fun w' hw' => (HA.out w').mono fun e w'' ⟨he, hq⟩ => ⟨he, hq ▸ hw'⟩) ?_
      iterate 5 (refine wpQuiet_step (fun K hK => ?_); go_simp; refine hK _ ?_; clear hK K)
      refine wpQuiet_nil ?_
      intro w3 hw3
      have O3 := Lib.hid (O2.out.nil_trans (only_of_plus hw3))
      clear hw3 k1 lk e1' hbb2
      obtain ⟨mn, hmn1, hmn2⟩ : ∃ mn : Nat, min (m : Int) 1073741824 = (mn : Int) ∧ mn ≤ 1073741824 := ⟨min m 1073741824, by omega, by omega⟩
      obtain ⟨sq, hsq⟩ : ∃ sq, mn * mn = sq := ⟨_, rfl⟩
      have hsqb : sq ≤ 1073741824 * 1073741824 := by rw [← hsq]; exact Nat.mul_le_mul hmn2 hmn2
      have hsqi : (mn : Int) * (mn : Int) = (sq : Int) := by rw [← hsq]; simp
      obtain ⟨s2, hs2, hs3⟩ : ∃ s2 : Nat, s2 < 18446744073709551616 ∧ IntKind.u64.wrap ((s : Int) + (sq : Int)) = (s2 : Int) := ⟨(s + sq) % 18446744073709551616, by omega, by rw [IntKind.wrap_u64]; omega⟩
      clear hsq
      go_wp2_with fail
      go_roundw
      case rel => exact ⟨k + 1, s2, by omega, by go_num, rfl, hs2, O3.out⟩
      case measure => first | (simp [intOf]; done) | (simp [intOf]; omega)
    · obtain ⟨dv, hdv⟩ : ∃ dv, l.length - 1 = dv := ⟨_, rfl⟩
      have hdi : (l.length : Int) - 1 = (dv : Int) := by omega
      have hd0 : ((dv : Int) == 0) = false := by rw [beq_eq_false_iff_ne]; omega
      have hd1 : ¬ (dv : Int) = 0 := by omega
      have hdb : dv ≤ 12 := by omega
      have hdp : 0 < dv := by omega
      obtain ⟨qt, hqt⟩ : ∃ qt, s / dv = qt := ⟨_, rfl⟩
      have hqb : qt < 18446744073709551616 := by rw [← hqt]; exact Nat.lt_of_le_of_lt (Nat.div_le_self _ _) hs
      have hqi : (s : Int) / (dv : Int) = (qt : Int) := by rw [← hqt]; simp
      obtain ⟨z, hz⟩ : ∃ z, wrap64 (qt : Int) = z := ⟨_, rfl⟩
      have hzb : -9223372036854775808 ≤ z ∧ z ≤ 9223372036854775807 := by rw [← hz]; unfold wrap64; omega
      have HSQ := Lib.hid (fsqrt z wr hzb.1 hzb.2)
      clear hqt hdv
      go_wp2_with fail
      refine HSQ.out.mono ?_
      rintro e w2 ⟨⟨r, b, hr1, hr2, rfl⟩, rfl⟩
      have HRB := Lib.hid (And.intro hr1 hr2)
      clear hr1 hr2 hz
      go_wp2
      go_ret
      exact ⟨⟨r, HRB.out.1, HRB.out.2, rfl⟩, OO.out⟩
/-- where farthest stands -/
def FaI (w : World) (l : List Cd) (vw vg vi : Value) (wr : World) : Prop := ∃ (k j : Nat) (m : Int), k ≤ l.length ∧ vi = .int .i64 k ∧ vw = .int .i64 j ∧ vg = .int .i64 m ∧ j < l.length ∧ -9223372036854775808 ≤ m ∧ m ≤ 9223372036854775807 ∧ Only [] w wr
/-- a position and some int -/
def FaR (l : List Cd) (e : Ending) : Prop := ∃ (j : Nat) (m : Int), j < l.length ∧ -9223372036854775808 ≤ m ∧ m ≤ 9223372036854775807 ∧ e = .returned (.tuple #[.int .i64 j, .int .i64 m])
set_option maxRecDepth 100000 in
set_option maxHeartbeats 2000000 in
theorem pFarthest {w : World} {p : Option Addr} {n cap : Nat} {l : List Cd} (hv : VRow cdC 5 w p n cap l) (hg : Gd l) (h2 : 2 ≤ l.length) :
    Calls Try.prog 15 #[.slice p n cap] w fun e w' => FaR l e ∧ Only [] w w' := by
  have hln := hv.len
  subst hln
  have hlb := hg.len
  have HV := Lib.hid hv; have HG := Lib.hid hg
  clear hv hg
  go_enter Try.func15, Try.ntmps15
  go_wp2_with fail
  go_loopw [4, 5, 10] (fun vw vg vi wr => FaI w l vw vg vi wr) (fun _ _ vi _ => l.length - (intOf vi).toNat)
  case atStart => exact ⟨0, 0, 0, Nat.zero_le _, rfl, rfl, rfl, by omega, by omega, by omega, Only.refl _ _⟩
  case round =>
    obtain ⟨k, j, m, hk, rfl, rfl, rfl, hj, hm1, hm2, ho⟩ := hrel
    have OO := Lib.hid ho
    clear ho
    by_cases hlt : k < l.length
    · have HSP := Lib.hid (pSpread (HV.out.kept OO.out) HG.out h2 hlt)
      go_wp2_with fail
      refine HSP.out.mono ?_
      rintro e w2 ⟨⟨r, hr1, hr2, rfl⟩, ho2⟩
      have O2 := Lib.hid (OO.out.nil_trans ho2)
      clear ho2 HSP
      by_cases hle : m ≤ r
      · have q1 : decide (m ≤ r) = true := decide_eq_true hle
        go_wp2_with fail
        go_roundw
        case rel => exact ⟨k + 1, k, r, by omega, by go_num, rfl, rfl, by omega, hr1, hr2, O2.out⟩
        case measure => first | (simp [intOf]; done) | (simp [intOf]; omega)
      · have q1 : decide (m ≤ r) = false := decide_eq_false hle
        go_wp2_with fail
        go_roundw
        case rel => exact ⟨k + 1, j, m, by omega, by go_num, rfl, rfl, hj, hm1, hm2, O2.out⟩
        case measure => first | (simp [intOf]; done) | (simp [intOf]; omega)
    · have HB := Lib.hid (And.intro hj (And.intro hm1 hm2))
      go_wp2
      go_ret2
      exact ⟨⟨j, m, HB.out.1, HB.out.2.1, HB.out.2.2, rfl⟩, OO.out⟩
end Go.Proofs.Ytmokeehpfjmgoaa
