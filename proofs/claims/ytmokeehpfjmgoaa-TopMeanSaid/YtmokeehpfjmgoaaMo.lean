/- combine.Weights and weighted. Conditions: valid candidates. -/
import Derived.Test.YtmokeehpfjmgoaaMn
namespace Go.Proofs.Ytmokeehpfjmgoaa
open Go.RowKit

/-- the weight of a candidate -/
def wtC (c : Cd) : Int := max 1 (1073741824 / (c.dist / 1000 + 1))
theorem wtC_bd {c : Cd} (h : okC c = true) : 1 ≤ wtC c ∧ wtC c ≤ 1073741824 := by
  have hb := okC_bd h
  unfold wtC
  have h0 : 0 ≤ c.dist / 1000 := Int.ediv_nonneg hb.2.2.2.2.1 (by omega)
  have h1 : 1073741824 / (c.dist / 1000 + 1) ≤ 1073741824 := Int.ediv_le_self _ (by omega)
  omega
def totC (l : List Cd) : Int := (l.map wtC).sum
theorem sum_snoc (l : List Int) (x : Int) : (l ++ [x]).sum = l.sum + x := by simp
theorem tot_bd : ∀ {l : List Cd}, (∀ c ∈ l, okC c = true) → (l.length : Int) ≤ totC l ∧ totC l ≤ l.length * 1073741824 ∧ ∀ c ∈ l, wtC c ≤ totC l
  | [], _ => ⟨by simp [totC], by simp [totC], by simp⟩
  | c :: r, h => by
    obtain ⟨h1, h2, h3⟩ := tot_bd (l := r) (fun x hx => h x (List.mem_cons_of_mem _ hx))
    obtain ⟨h4, h5⟩ := wtC_bd (h c (List.mem_cons_self ..))
    have e : totC (c :: r) = wtC c + totC r := by simp [totC]
    rw [e]
    refine ⟨by simp only [List.length_cons]; omega, by simp only [List.length_cons]; push_cast; rw [Int.add_mul]; omega, fun x hx => ?_⟩
    rcases List.mem_cons.1 hx with rfl | hx
    · omega
    · have := h3 x hx; omega
def WtI (w : World) (l : List Cd) (vo vi : Value) (wr : World) : Prop :=
  ∃ k : Nat, k ≤ l.length ∧ vi = .int .i64 k ∧ Own intC 3 1 w.heap.size wr vo ((l.take k).map wtC) ∧ Only [] w wr
set_option maxRecDepth 100000 in
set_option maxHeartbeats 2000000 in
theorem pWeights {w : World} {p : Option Addr} {n cap : Nat} {l : List Cd} (hv : VRow cdC 5 w p n cap l) (hg : Gd l) :
    Calls Try.prog 32 #[.slice p n cap] w fun e w' => PeR w (l.map wtC) e w' ∧ Only [] w w' := by
  have hln := hv.len
  subst hln
  have hlb := hg.len
  have hck := pCheck hv (by omega)
  rw [chkC_ok.2 hg] at hck
  have HCK := Lib.hid hck; have HV := Lib.hid hv; have HG := Lib.hid hg
  clear hv hg hck
  go_enter Try.func32, Try.ntmps32
  go_wp2_with fail
  refine HCK.out.mono ?_
  rintro e w1 ⟨rfl, ho1⟩
  have O1 := Lib.hid ho1
  clear ho1 HCK
  go_wp2_with fail
  go_loopw [3, 11] (fun vo vi wr => WtI w l vo vi wr) (fun _ vi _ => l.length - (intOf vi).toNat)
  case atStart => exact ⟨0, Nat.zero_le _, rfl, own_nil _ _, O1.out⟩
  case round =>
    obtain ⟨k, hk, rfl, hown, ho⟩ := hrel
    have OW := Lib.hid hown; have OO := Lib.hid ho
    clear hown ho
    by_cases hlt : k < l.length
    · obtain ⟨bk, off, hp, hb, c0, c1, c2, c3, c4⟩ := HV.out.cd OO.out hlt
      subst hp
      have hle := OO.out.size
      have hb' : bk < wr.heap.size := by omega
      have hok := HG.out.ok _ (List.getElem_mem hlt)
      have hbd := okC_bd hok
      have hwb := wtC_bd hok
      have HSN : Hid ((l.take (k + 1)).map wtC = (l.take k).map wtC ++ [wtC l[k]]) := Lib.hid (by
        rw [List.take_succ_eq_append_getElem hlt, List.map_append]; rfl)
      have hfl2 : ((l.take k).map wtC).length ≤ k := by rw [List.length_map, List.length_take]; omega
      generalize (l.take k).map wtC = acc at OW HSN hfl2
      have hwt : wtC l[k] = max 1 (1073741824 / (l[k].dist / 1000 + 1)) := rfl
      generalize wtC l[k] = wt at HSN hwb hwt
      generalize l[k] = x at c0 c1 c2 c3 c4 hbd hwt
      obtain ⟨id, of, di, ji, st⟩ := x
      dsimp only at c0 c1 c2 c3 c4 hbd hwt
      obtain ⟨_, _, _, _, b1, b2, _⟩ := hbd
      clear hok
      obtain ⟨x1, hx1⟩ : ∃ x1, di / 1000 = x1 := ⟨_, rfl⟩
      have hx1b : 0 ≤ x1 ∧ x1 ≤ 9007199254740992 := by omega
      obtain ⟨y1, hy1⟩ : ∃ y1, 1073741824 / (x1 + 1) = y1 := ⟨_, rfl⟩
      rw [hx1, hy1] at hwt
      obtain ⟨x1n, x1p⟩ := hx1b
      have hd0 : ((x1 + 1 : Int) == 0) = false := by rw [beq_eq_false_iff_ne]; omega
      obtain ⟨pp, cap', rfl, _⟩ := Own.vrow (enc := intC) (s := 1) intC_len OW.out
      go_upto_region 7 with (fail)
      refine alloc_abs (G := fun w0 => Code.wp _ _ _ _ w0) ?_
      intro w2 hb1 ho1 hs1
      have B2 := Lib.hid hb1; have O2 := Lib.hid (OO.out.nil_trans ho1); have W2 := Lib.hid (OW.out.kept ho1)
      clear hb1 ho1 hs1 c0 c1 c2 c3 c4 OO OW
      have k2 := cell_got B2.out 2; have lk := got_lt B2.out
      have HWT := Lib.hid hwt
      clear hwt
      go_wp2_with (at_builtin; refine stop_here ?_)
      refine alloc_abs (G := fun w0 => Stop (wpList _ _ _ _ _ w0)) ?_
      intro w5 hb5 ho5 hs5
      have B5 := Lib.hid hb5; have O5 := Lib.hid (O2.out.nil_trans ho5); have R5 := Lib.hid (W2.out.kept ho5)
      clear hb5 ho5 hs5 k2 lk
      refine stop_go ?_
      refine wpList_append_one (w0 := w) rfl _ _ 23 rfl 3 (.int .i64 0) 1 8 Try.underlying23 (by kernel_rfl) rfl (by decide) intC intC_len intC_one acc _ rfl R5.out w2.heap.size wt rfl (fun j u hj => ?_) (by simp [maxLen]; omega) (by omega) O5.out ?_
      · rw [cell_got B5.out, ← hj, HWT.out]; simp [intC]
      intro v6 w6 hown6 ho6 _
      have W6 := Lib.hid hown6; have O6 := Lib.hid ho6
      clear hown6 ho6
      go_wp2
      go_roundw
      case rel => exact ⟨k + 1, by omega, by go_num, by rw [HSN.out]; exact W6.out, O6.out⟩
      case measure => first | (simp [intOf]; done) | (simp [intOf]; omega)
    · have HC : Hid ((l.take k).map wtC = l.map wtC) := Lib.hid (by rw [List.take_of_length_le (by omega)])
      rw [HC.out] at OW
      go_wp2
      go_ret
      exact ⟨⟨_, rfl, OW.out⟩, OO.out⟩
end Go.Proofs.Ytmokeehpfjmgoaa
