/- cluster.Order, Spread and leastJitter: that they return, and what Order keeps. Conditions: valid candidates. -/
import Derived.Test.YtmokeehpfjmgoaaMk
namespace Go.Proofs.Ytmokeehpfjmgoaa
open Go.RowKit

/-- some int -/
def SomeI (e : Ending) : Prop := ∃ r : Int, -9223372036854775808 ≤ r ∧ r ≤ 9223372036854775807 ∧ e = .returned (.int .i64 r)
/-- a permutation in new memory -/
def OrR (w0 : World) (l : List Cd) (e : Ending) (w : World) : Prop := ∃ g cap l', e = .returned (.slice (some ⟨g, 0, none⟩) l'.length cap) ∧ w0.heap.size ≤ g ∧ RowAt cdC 31 5 w g cap l' ∧ l'.Perm l
set_option maxRecDepth 100000 in
set_option maxHeartbeats 1000000 in
theorem pOrder {w : World} {p : Option Addr} {n cap : Nat} {l : List Cd} (hv : VRow cdC 5 w p n cap l) (hg : Gd l) (h0 : 0 < l.length) :
    Calls Try.prog 14 #[.slice p n cap] w fun e w' => OrR w l e w' ∧ Only [] w w' := by
  have hln := hv.len
  subst hln
  have hlb := hg.len
  have hck := pCheck hv (by omega)
  rw [chkC_ok.2 hg] at hck
  have HCK := Lib.hid hck
  have HCL := Lib.hid (fun w' (ho : Only [] w w') => cloneC (hv.kept ho) h0 (by omega))
  clear hv hg hck
  go_enter Try.func14, Try.ntmps14
  go_wp2_with fail
  refine HCK.out.mono ?_
  rintro e w1 ⟨rfl, ho1⟩
  have O1 := Lib.hid ho1
  clear ho1
  go_wp2_with fail
  refine (HCL.out w1 O1.out).mono ?_
  rintro e w2 ⟨⟨g, cap', rfl, hg, hr⟩, ho2⟩
  have HG : Hid (w.heap.size ≤ g) := Lib.hid (Nat.le_trans O1.out.size hg)
  have O2 := Lib.hid (O1.out.nil_trans ho2); have HS := Lib.hid (sortf_own hr hlb)
  clear ho2 hg hr
  go_wp2_with fail
  refine HS.out.mono ?_
  rintro e w3 ⟨rfl, ⟨l', hp, hr⟩, ho3⟩
  have O3 := Lib.hid (O2.out.trans ho3 (fun x hx => .inr (by rw [List.mem_singleton] at hx; rw [hx]; exact HG.out))); have HR := Lib.hid hr; have HP := Lib.hid hp
  have hl := hp.length_eq
  clear ho3 hr hp
  go_wp2
  go_ret
  exact ⟨⟨g, cap', l', by rw [hl]; rfl, HG.out, HR.out, HP.out⟩, O3.out⟩
/-- where leastJitter stands -/
def LjI (w : World) (l : List Cd) (vm vi : Value) (wr : World) : Prop := ∃ (k : Nat) (m : Int), k ≤ l.length ∧ vi = .int .i64 k ∧ vm = .int .i64 m ∧ 0 ≤ m ∧ m ≤ 9007199254740992 ∧ Only [] w wr
set_option maxRecDepth 100000 in
set_option maxHeartbeats 1000000 in
theorem pLeast {w : World} {p : Option Addr} {n cap : Nat} {l : List Cd} (hv : VRow cdC 5 w p n cap l) (hg : Gd l) (h0 : 0 < l.length) :
    Calls Try.prog 16 #[.slice p n cap] w fun e w' => SomeI e ∧ Only [] w w' := by
  have hln := hv.len
  subst hln
  have hlb := hg.len
  have HV := Lib.hid hv; have HG := Lib.hid hg
  obtain ⟨bk, off, hp, hb, c0, c1, c2, c3, c4⟩ := hv.cd (Only.refl [] w) h0
  subst hp
  have hb0 := okC_bd (hg.ok _ (List.getElem_mem h0))
  generalize l[0] = x at c0 c1 c2 c3 c4 hb0
  obtain ⟨id, of, di, ji, st⟩ := x
  dsimp only at c0 c1 c2 c3 c4 hb0
  simp only [Nat.zero_mul, Nat.add_zero] at c0 c1 c2 c3 c4
  obtain ⟨_, _, _, _, _, _, j1, j2, _⟩ := hb0
  clear hv hg
  have hl0 : (0 : Int) < (l.length : Int) := by omega
  go_enter Try.func16, Try.ntmps16
  go_wp2_with fail
  clear c0 c1 c2 c3 c4
  go_loopw [3, 12] (fun vm vi wr => LjI w l vm vi wr) (fun _ vi _ => l.length - (intOf vi).toNat)
  case atStart => exact ⟨0, ji, Nat.zero_le _, rfl, rfl, j1, j2, Only.refl _ _⟩
  case round =>
    clear j1 j2
    obtain ⟨k, m, hk, rfl, rfl, j1, j2, ho⟩ := hrel
    have OO := Lib.hid ho
    clear ho
    by_cases hlt : k < l.length
    · obtain ⟨b', o', hp, hb', c0, c1, c2, c3, c4⟩ := HV.out.cd OO.out hlt
      simp only [Option.some.injEq, Addr.mk.injEq, and_true] at hp
      obtain ⟨rfl, rfl⟩ := hp
      have hle := OO.out.size
      have hbb : bk < wr.heap.size := by omega
      have hb0 := okC_bd (HG.out.ok _ (List.getElem_mem hlt))
      generalize l[k] = x at c0 c1 c2 c3 c4 hb0
      obtain ⟨id2, of2, di2, ji2, st2⟩ := x
      dsimp only at c0 c1 c2 c3 c4 hb0
      obtain ⟨_, _, _, _, _, _, j3, j4, _⟩ := hb0
      go_upto_region 5 with (fail)
      refine alloc_abs (G := fun w0 => Code.wp _ _ _ _ w0) ?_
      intro w2 hb1 ho1 hs1
      have B2 := Lib.hid hb1; have O2 := Lib.hid (OO.out.nil_trans ho1)
      clear hb1 ho1 hs1 c0 c1 c2 c3 c4
      have k3 := cell_got B2.out 3; have lk := got_lt B2.out
      by_cases hm : m ≤ ji2
      · have e1 : min m ji2 = m := by omega
        go_wp2_with fail
        go_roundw
        case rel => exact ⟨k + 1, m, by omega, by go_num, rfl, j1, j2, O2.out⟩
        case measure => first | (simp [intOf]; done) | (simp [intOf]; omega)
      · have e1 : min m ji2 = ji2 := by omega
        go_wp2_with fail
        go_roundw
        case rel => exact ⟨k + 1, ji2, by omega, by go_num, rfl, j3, j4, O2.out⟩
        case measure => first | (simp [intOf]; done) | (simp [intOf]; omega)
    · go_wp2
      go_ret
      exact ⟨⟨m, by omega, by omega, rfl⟩, OO.out⟩
end Go.Proofs.Ytmokeehpfjmgoaa
