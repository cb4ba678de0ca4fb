/- combine.distance and Dist: some candidate's distance from the mean. Conditions: valid candidates. -/
import Derived.Test.YtmokeehpfjmgoaaMq
namespace Go.Proofs.Ytmokeehpfjmgoaa
open Go.RowKit

def dstC (m : Int) (c : Cd) : Int := c.dist + ((c.off - m).natAbs : Int)
theorem dst_bd {m : Int} {c : Cd} (h : okC c = true) (h0 : -112589990684262400 ≤ m) (h1 : m ≤ 112589990684262400) : 0 ≤ dstC m c ∧ dstC m c ≤ 200000000000000000 := by
  have hb := okC_bd h
  unfold dstC
  omega
set_option maxRecDepth 100000 in
set_option maxHeartbeats 1000000 in
theorem pDistance (c : Cd) (m : Int) (hc : okC c = true) (h0 : -112589990684262400 ≤ m) (h1 : m ≤ 112589990684262400) (w : World) :
    Calls Try.prog 20 #[cdV c, .int .i64 m] w fun e w' => e = .returned (.int .i64 ((c.off - m).natAbs : Int)) ∧ Only [] w w' := by
  have hbd := okC_bd hc
  obtain ⟨id, of, di, ji, st⟩ := c
  unfold cdV
  dsimp only at hbd ⊢
  obtain ⟨_, _, b1, b2, _⟩ := hbd
  have HA := Lib.hid (fun w' => fabs (of - m) w' (by omega) (by omega))
  obtain ⟨r, hr⟩ : ∃ r, (of - m).natAbs = r := ⟨_, rfl⟩
  rw [hr] at HA ⊢
  have hrb : r ≤ 200000000000000000 := by omega
  obtain ⟨df, hdf⟩ : ∃ df, of - m = df := ⟨_, rfl⟩
  rw [hdf] at HA
  have hwr : wrap64 (of - m) = df := by unfold wrap64; omega
  have hwr2 : IntKind.i64.wrap (of - m) = df := by rw [IntKind.wrap_i64]; omega
  clear hc hr
  go_enter Try.func20, Try.ntmps20
  go_upto_region 1 with (fail)
  refine alloc_abs (G := fun w0 => Code.wp _ _ _ _ w0) ?_
  intro w1 hb1 ho1 hs1
  have B1 := Lib.hid hb1; have O1 := Lib.hid ho1
  clear hb1 ho1 hs1
  have k1 := cell_got B1.out 1; have lk := got_lt B1.out
  go_wp2_with fail
  refine (HA.out _).mono ?_
  rintro e w3 ⟨rfl, rfl⟩
  clear HA k1 lk
  go_wp2
  go_ret
  exact ⟨rfl, O1.out⟩
def DiI (w : World) (l : List Cd) (m : Int) (vm vi : Value) (wr : World) : Prop := ∃ (k : Nat) (c : Cd), k ≤ l.length ∧ vi = .int .i64 k ∧ c ∈ l ∧ vm = .int .i64 (dstC m c) ∧ Only [] w wr
def DiR (l : List Cd) (e : Ending) : Prop := ∃ c ∈ l, e = .returned (.int .i64 (dstC (meanC l) c))
set_option maxRecDepth 100000 in
set_option maxHeartbeats 2000000 in
theorem pDist {w : World} {p : Option Addr} {n cap : Nat} {l : List Cd} (hv : VRow cdC 5 w p n cap l) (hg : Gd l) (h0 : 0 < l.length) :
    Calls Try.prog 8 #[.slice p n cap] w fun e w' => DiR l e ∧ Only [] w w' := by
  have hln := hv.len
  subst hln
  have hlb := hg.len
  have HME := Lib.hid (pMean hv hg h0)
  have HV := Lib.hid hv; have HG := Lib.hid hg
  have HR : Hid (∀ e, DiR l e ↔ ∃ c ∈ l, e = .returned (.int .i64 (dstC (meanC l) c))) := Lib.hid (fun e => Iff.rfl)
  have hmb := mean_bd hg
  generalize meanC l = m at HME HR hmb
  have HMB := Lib.hid hmb
  have hl0 : (0 : Int) < (l.length : Int) := by omega
  clear hv hg hmb
  go_enter Try.func8, Try.ntmps8
  go_wp2_with fail
  refine HME.out.mono ?_
  rintro e w1 ⟨rfl, ho1⟩
  have O1 := Lib.hid ho1
  obtain ⟨bk, off, hp, hb, c0, c1, c2, c3, c4⟩ := HV.out.cd ho1 h0
  have hle := ho1.size
  have hbb : bk < w1.heap.size := by omega
  subst hp
  have hx := HG.out.ok _ (List.getElem_mem h0)
  have HXM : Hid (l[0] ∈ l) := Lib.hid (List.getElem_mem h0)
  simp only [Nat.zero_mul, Nat.add_zero] at c0 c1 c2 c3 c4
  have hdb := dst_bd hx HMB.out.1 HMB.out.2
  have HDI := Lib.hid (fun w' => pDistance l[0] m hx HMB.out.1 HMB.out.2 w')
  have HDE : Hid (dstC m l[0] = l[0].dist + ((l[0].off - m).natAbs : Int)) := Lib.hid rfl
  rw [HDE.out] at hdb
  have hxb := okC_bd hx
  generalize ((l[0].off - m).natAbs : Int) = r at HDI hdb HDE
  generalize hx0 : l[0] = x at c0 c1 c2 c3 c4 HDI hdb HDE HXM hxb
  obtain ⟨id, of, di, ji, st⟩ := x
  unfold cdV at HDI
  dsimp only at c0 c1 c2 c3 c4 HDI hdb HDE hxb
  obtain ⟨_, _, _, _, d1, d2, _⟩ := hxb
  obtain ⟨e1, e2⟩ := hdb
  have hwr : IntKind.i64.wrap (di + r) = di + r := by rw [IntKind.wrap_i64]; omega
  clear ho1 HME hx hx0
  go_upto_region 4 with (fail)
  refine wp_region_grown [0, 1, 2, 3, 4, 5, 6, 7, 8, 9, 10] [] (by kernel_rfl) (by kernel_rfl) ?_
  simp only [pick, List.map_cons, List.map_nil, List.getD_cons_succ, List.getD_cons_zero]
  iterate 8 (refine wpQuiet_step (fun K hK => ?_); go_simp; refine hK _ ?_; clear hK K)
  refine wpQuiet_enter_w (by kernel_rfl) 20 #[.agg #[.int .i64 id, .int .i64 of, .int .i64 di, .int .i64 ji, .int .i64 st], .int .i64 m] (fun _ => by kernel_rfl) (.int .i64 r) (grown_only2 (fun w' hw' => HDI.out w')) ?_
  iterate 2 (refine wpQuiet_step (fun K hK => ?_); go_simp; refine hK _ ?_; clear hK K)
  refine wpQuiet_nil ?_
  intro w3 hw3
  have O3 := Lib.hid (O1.out.nil_trans (only_of_plus hw3))
  have HX0 : Hid (∃ c ∈ l, (Value.int .i64 (di + r)) = .int .i64 (dstC m c)) := Lib.hid ⟨_, HXM.out, by rw [HDE.out]⟩
  clear hw3 c0 c1 c2 c3 c4 hbb hb hle HDI HXM HDE O1 d1 d2 e1 e2 hwr
  go_wp2_with fail
  go_loopw [5, 27] (fun vm vi wr => DiI w l m vm vi wr) (fun _ vi _ => l.length - (intOf vi).toNat)
  case atStart =>
    obtain ⟨c, hc, he⟩ := HX0.out
    exact ⟨0, c, Nat.zero_le _, rfl, hc, he, O3.out⟩
  case round =>
    clear HX0 O3
    obtain ⟨k, c, hk, rfl, hcl, rfl, ho⟩ := hrel
    have OO := Lib.hid ho; have HCM := Lib.hid hcl
    have hcb := dst_bd (HG.out.ok _ hcl) HMB.out.1 HMB.out.2
    generalize hd0 : dstC m c = d0 at hcb ⊢
    have HD0 := Lib.hid hd0
    clear ho hd0 hcl
    by_cases hlt : k < l.length
    · obtain ⟨b', o', hp, hb', c0, c1, c2, c3, c4⟩ := HV.out.cd OO.out hlt
      simp only [Option.some.injEq, Addr.mk.injEq, and_true] at hp
      obtain ⟨rfl, rfl⟩ := hp
      have hle := OO.out.size
      have hbb : bk < wr.heap.size := by omega
      have hx := HG.out.ok _ (List.getElem_mem hlt)
      have HXM : Hid (l[k] ∈ l) := Lib.hid (List.getElem_mem hlt)
      have hdb := dst_bd hx HMB.out.1 HMB.out.2
      have HDI := Lib.hid (fun w' => pDistance l[k] m hx HMB.out.1 HMB.out.2 w')
      have HDE : Hid (dstC m l[k] = l[k].dist + ((l[k].off - m).natAbs : Int)) := Lib.hid rfl
      rw [HDE.out] at hdb
      have hxb := okC_bd hx
      generalize ((l[k].off - m).natAbs : Int) = r at HDI hdb HDE
      generalize l[k] = x at c0 c1 c2 c3 c4 HDI hdb HDE HXM hxb
      obtain ⟨id, of, di, ji, st⟩ := x
      unfold cdV at HDI
      dsimp only at c0 c1 c2 c3 c4 HDI hdb HDE hxb
      obtain ⟨_, _, _, _, d1, d2, _⟩ := hxb
      obtain ⟨e1, e2⟩ := hdb
      obtain ⟨e3, e4⟩ := hcb
      have hwr : IntKind.i64.wrap (di + r) = di + r := by rw [IntKind.wrap_i64]; omega
      clear hx hb'
      go_upto_region 8 with (fail)
      refine alloc_abs (G := fun w0 => Code.wp _ _ _ _ w0) ?_
      intro w2 hb1 ho1 hs1
      have B2 := Lib.hid hb1; have O2 := Lib.hid (OO.out.nil_trans ho1)
      clear hb1 ho1 hs1 c0 c1 c2 c3 c4 hbb hle OO
      have k0 := cell_got B2.out 0; have k1 := cell_got B2.out 1; have k2 := cell_got B2.out 2; have k3 := cell_got B2.out 3; have k4 := cell_got B2.out 4; have lk := got_lt B2.out
      have hmn : min d0 (di + r) = d0 ∨ min d0 (di + r) = di + r := by omega
      have HMN : Hid (∃ c ∈ l, (Value.int .i64 (min d0 (di + r))) = .int .i64 (dstC m c)) := Lib.hid (by
        rcases hmn with h | h
        · exact ⟨_, HCM.out, by rw [h, HD0.out]⟩
        · exact ⟨_, HXM.out, by rw [h, HDE.out]⟩)
      clear hmn
      refine wp_region_grown [0, 1, 2, 3, 4, 5, 6, 7, 8] [] (by kernel_rfl) (by kernel_rfl) ?_
      simp only [pick, List.map_cons, List.map_nil, List.getD_cons_succ, List.getD_cons_zero]
      iterate 5 (refine wpQuiet_step (fun K hK => ?_); go_simp; refine hK _ ?_; clear hK K)
      refine wpQuiet_enter_w (by kernel_rfl) 20 #[.agg #[.int .i64 id, .int .i64 of, .int .i64 di, .int .i64 ji, .int .i64 st], .int .i64 m] (fun _ => by kernel_rfl) (.int .i64 r) (grown_only2 (fun w' hw' => HDI.out w')) ?_
      iterate 3 (refine wpQuiet_step (fun K hK => ?_); go_simp; refine hK _ ?_; clear hK K)
      refine wpQuiet_nil ?_
      intro w3 hw3
      have O3 := Lib.hid (O2.out.nil_trans (only_of_plus hw3))
      clear hw3 k0 k1 k2 k3 k4 lk HDI
      go_wp2_with fail
      go_roundw
      case rel =>
        obtain ⟨c', hc', he'⟩ := HMN.out
        exact ⟨k + 1, c', by omega, by go_num, hc', he', O3.out⟩
      case measure => first | (simp [intOf]; done) | (simp [intOf]; omega)
    · go_wp2
      go_ret
      exact ⟨(HR.out _).2 ⟨c, HCM.out, by rw [HD0.out]; rfl⟩, OO.out⟩
end Go.Proofs.Ytmokeehpfjmgoaa
