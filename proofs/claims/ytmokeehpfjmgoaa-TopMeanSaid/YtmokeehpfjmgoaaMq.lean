/- combine.weighted and Mean. Conditions: valid candidates. -/
import Derived.Test.YtmokeehpfjmgoaaMo
namespace Go.Proofs.Ytmokeehpfjmgoaa
open Go.RowKit

/-- the part of a candidate -/
def prtC (tot first : Int) (c : Cd) : Int := wtC c * (c.off - first) / tot
def psum (tot first : Int) (l : List Cd) : Int := (l.map (prtC tot first)).sum
def meanC : List Cd → Int
  | [] => 0
  | c :: r => c.off + psum (totC (c :: r)) c.off (c :: r)
theorem prt_bd {c : Cd} {tot first : Int} (h : okC c = true) (ht : wtC c ≤ tot) (h0 : -4503599627370496 ≤ first) (h1 : first ≤ 4503599627370496) : -9007199254740992 ≤ prtC tot first c ∧ prtC tot first c ≤ 9007199254740992 := by
  have hb := okC_bd h
  have hw := wtC_bd h
  have hm := md_bd (a := wtC c) (b := c.off - first) (c := tot) (by omega) ht (by omega)
  unfold prtC
  by_cases hn : c.off - first < 0
  · have := hm.2 hn; omega
  · have := hm.1 (by omega); omega
theorem psum_bd {tot first : Int} (h0 : -4503599627370496 ≤ first) (h1 : first ≤ 4503599627370496) : ∀ {l : List Cd}, (∀ c ∈ l, okC c = true ∧ wtC c ≤ tot) → -((l.length : Int) * 9007199254740992) ≤ psum tot first l ∧ psum tot first l ≤ (l.length : Int) * 9007199254740992
  | [], _ => by simp [psum]
  | c :: r, h => by
    have hr := psum_bd h0 h1 (l := r) (fun x hx => h x (List.mem_cons_of_mem _ hx))
    have hc := h c (List.mem_cons_self ..)
    have hp := prt_bd hc.1 hc.2 h0 h1
    have e : psum tot first (c :: r) = prtC tot first c + psum tot first r := by simp [psum]
    rw [e]
    simp only [List.length_cons]
    push_cast
    omega
theorem psum_snoc (tot first : Int) (l : List Cd) (c : Cd) : psum tot first (l ++ [c]) = psum tot first l + prtC tot first c := by simp [psum]
theorem tot_snoc (l : List Cd) (c : Cd) : totC (l ++ [c]) = totC l + wtC c := by simp [totC]
theorem mean_bd {l : List Cd} (hg : Gd l) : -112589990684262400 ≤ meanC l ∧ meanC l ≤ 112589990684262400 := by
  cases l with
  | nil => simp [meanC]
  | cons c r =>
    have hc := okC_bd (hg.ok c (List.mem_cons_self ..))
    have ht := tot_bd hg.ok
    have hp := psum_bd (tot := totC (c :: r)) (first := c.off) hc.2.2.1 hc.2.2.2.1 (l := c :: r) (fun x hx => ⟨hg.ok x hx, ht.2.2 x hx⟩)
    have hl := hg.len
    show -112589990684262400 ≤ c.off + psum (totC (c :: r)) c.off (c :: r) ∧ c.off + psum (totC (c :: r)) c.off (c :: r) ≤ 112589990684262400
    omega
theorem VRow.i64 {w w' : World} {p : Option Addr} {n cap : Nat} {l : List Int} (hv : VRow intC 1 w p n cap l) (ho : Only [] w w') {k : Nat} (hlt : k < l.length) : ∃ b off, p = some ⟨b, off, none⟩ ∧ b < w.heap.size ∧
    w'.cell? ⟨b, off + k, none⟩ = some (.int .i64 l[k]) := by
  obtain ⟨b, off, hp, hb, hc⟩ := hv.cell k l[k] (List.getElem?_eq_getElem hlt)
  refine ⟨b, off, hp, hb, ?_⟩
  rw [ho.cell hb (by simp)]
  have := hc 0 _ rfl
  simpa using this
set_option maxRecDepth 100000 in
set_option maxHeartbeats 1000000 in
theorem pMean1 {w : World} {b : Nat} {first : Int} (hb : w.heap[b]? = some (.cells #[.int .i64 first] 3 (0, 0))) (c : Cd) (hc : okC c = true) (h0 : -4503599627370496 ≤ first) (h1 : first ≤ 4503599627370496) :
    Calls Try.prog 19 #[cdV c, .pointer (some ⟨b, 0, none⟩)] w fun e w' => e = .returned (.int .i64 (c.off - first)) ∧ Only [] w w' := by
  have hbd := okC_bd hc
  obtain ⟨id, of, di, ji, st⟩ := c
  unfold cdV
  dsimp only at hbd ⊢
  obtain ⟨_, _, b1, b2, _⟩ := hbd
  have BB := Lib.hid hb
  clear hc hb
  go_enter Try.func19, Try.ntmps19
  go_upto_region 1 with (fail)
  refine alloc_abs (G := fun w0 => Code.wp _ _ _ _ w0) ?_
  intro w1 hb1 ho1 hs1
  have B1 := Lib.hid hb1; have O1 := Lib.hid ho1; have C1 := Lib.hid (ho1.got BB.out (by simp))
  clear hb1 ho1 hs1
  have k1 := cell_got B1.out 1; have lk := got_lt B1.out; have m0 := cell_got C1.out 0; have lm := got_lt C1.out
  go_wp2
  go_ret
  exact ⟨rfl, O1.out⟩
def W1I (w : World) (l : List Cd) (vt vi : Value) (wr : World) : Prop :=
  ∃ k : Nat, k ≤ l.length ∧ vi = .int .i64 k ∧ vt = .int .i64 (totC (l.take k)) ∧ Only [] w wr
def W2I (w : World) (l : List Cd) (tot first : Int) (vs vi : Value) (wr : World) : Prop :=
  ∃ k : Nat, k ≤ l.length ∧ vi = .int .i64 k ∧ vs = .int .i64 (psum tot first (l.take k)) ∧ Only [] w wr
set_option maxRecDepth 100000 in
set_option maxHeartbeats 2000000 in
theorem pWeighted {w : World} {p : Option Addr} {n cap b : Nat} {l : List Cd} {first : Int} (hv : VRow cdC 5 w p n cap l) (hg : Gd l) (hb : w.heap[b]? = some (.cells #[.int .i64 first] 3 (0, 0))) (h0 : -4503599627370496 ≤ first) (h1 : first ≤ 4503599627370496) :
    Calls Try.prog 18 #[.slice p n cap, .func (.func 19) #[] #[.pointer (some ⟨b, 0, none⟩)]] w fun e w' => e = .returned (.int .i64 (psum (totC l) first l)) ∧ Only [] w w' := by
  have hln := hv.len
  subst hln
  have hlb := hg.len
  have HW := Lib.hid (pWeights hv hg)
  have HV := Lib.hid hv; have HG := Lib.hid hg; have BB := Lib.hid hb; have HF := Lib.hid (And.intro h0 h1)
  clear hv hg hb h0 h1
  go_enter Try.func18, Try.ntmps18
  go_wp2_with fail
  refine HW.out.mono ?_
  rintro e w1 ⟨⟨v1, rfl, hown⟩, ho1⟩
  have O1 := Lib.hid ho1
  obtain ⟨pw, cw, rfl, hvw⟩ := Own.vrow (enc := intC) (s := 1) intC_len hown
  rw [List.length_map] at hvw ⊢
  have VW := Lib.hid hvw
  clear ho1 hown HW hvw
  go_wp2_with fail
  go_loopw [6, 18] (fun vt vi wr => W1I w1 l vt vi wr) (fun _ vi _ => l.length - (intOf vi).toNat)
  case atStart => exact ⟨0, Nat.zero_le _, rfl, rfl, Only.refl _ _⟩
  case round =>
    obtain ⟨k, hk, rfl, rfl, ho⟩ := hrel
    have OO := Lib.hid ho
    clear ho
    by_cases hlt : k < l.length
    · obtain ⟨bk, off, hp, hb, c0⟩ := VW.out.i64 (k := k) OO.out (by rw [List.length_map]; exact hlt)
      subst hp
      have hle := OO.out.size
      have hb' : bk < wr.heap.size := by omega
      rw [List.getElem_map] at c0
      have hwb := wtC_bd (HG.out.ok _ (List.getElem_mem hlt))
      have HSN : Hid (totC (l.take (k + 1)) = totC (l.take k) + wtC l[k]) := Lib.hid (by
        rw [List.take_succ_eq_append_getElem hlt, tot_snoc])
      have htb := tot_bd (l := l.take k) (fun c hc => HG.out.ok c (List.mem_of_mem_take hc))
      rw [List.length_take, Nat.min_eq_left hk] at htb
      obtain ⟨tb1, tb2, _⟩ := htb
      generalize totC (l.take k) = acc at HSN tb1 tb2 ⊢
      generalize wtC l[k] = wt at HSN c0 hwb
      have tb3 : acc ≤ 12884901888 := by omega
      clear tb2
      go_wp2_with fail
      go_roundw
      case rel => exact ⟨k + 1, by omega, by go_num, by rw [HSN.out], OO.out⟩
      case measure => first | (simp [intOf]; done) | (simp [intOf]; omega)
    · have HC : Hid (l.take k = l) := Lib.hid (List.take_of_length_le (by omega))
      have htb := tot_bd HG.out.ok
      rw [HC.out]
      obtain ⟨tot, htot⟩ : ∃ tot, totC l = tot := ⟨_, rfl⟩
      rw [htot] at htb ⊢
      have HT := Lib.hid htb; have HTO := Lib.hid htot
      have ht2 : tot < 17179869184 := by have := htb.2.1; omega
      have VX := Lib.hid (VW.out.kept OO.out); have HVX := Lib.hid (HV.out.kept (O1.out.nil_trans OO.out)); have BX := Lib.hid ((O1.out.nil_trans OO.out).got BB.out (by simp)); have OX := Lib.hid (O1.out.nil_trans OO.out)
      clear htb htot HC VW HV BB O1 OO
      obtain ⟨wo, hwo⟩ : ∃ wo : World, wo = wr := ⟨_, rfl⟩
      subst hwo
      go_wp2_with fail
      clear hk hlt
      go_loopw [9, 28] (fun vs vi wr => W2I wo l tot first vs vi wr) (fun _ vi _ => l.length - (intOf vi).toNat)
      case atStart => exact ⟨0, Nat.zero_le _, rfl, rfl, Only.refl _ _⟩
      case round =>
        obtain ⟨k, hk, rfl, rfl, ho⟩ := hrel
        have OO := Lib.hid ho
        clear ho
        by_cases hlt : k < l.length
        · obtain ⟨bw, ow, hp, hb, d0⟩ := VX.out.i64 (k := k) OO.out (by rw [List.length_map]; exact hlt)
          subst hp
          obtain ⟨bk, off, hp, hb2, c0, c1, c2, c3, c4⟩ := HVX.out.cd OO.out hlt
          subst hp
          have hle := OO.out.size
          have hb' : bw < wr.heap.size := by omega
          have hb2' : bk < wr.heap.size := by omega
          rw [List.getElem_map] at d0
          have hxo := HG.out.ok _ (List.getElem_mem hlt)
          have hwb := wtC_bd hxo
          have hwt : wtC l[k] ≤ tot := HT.out.2.2 _ (List.getElem_mem hlt)
          have hxb := okC_bd hxo
          have HSN : Hid (psum tot first (l.take (k + 1)) = psum tot first (l.take k) + wtC l[k] * (l[k].off - first) / tot) := Lib.hid (by
            rw [List.take_succ_eq_append_getElem hlt, psum_snoc]; rfl)
          have hprt : -9007199254740992 ≤ wtC l[k] * (l[k].off - first) / tot ∧ wtC l[k] * (l[k].off - first) / tot ≤ 9007199254740992 := prt_bd hxo hwt HF.out.1 HF.out.2
          have hpb := psum_bd (tot := tot) HF.out.1 HF.out.2 (l := l.take k) (fun c hc => ⟨HG.out.ok c (List.mem_of_mem_take hc), HT.out.2.2 c (List.mem_of_mem_take hc)⟩)
          rw [List.length_take, Nat.min_eq_left hk] at hpb
          have hpb1 : -108086391056891904 ≤ psum tot first (l.take k) := by omega
          have hpb2 : psum tot first (l.take k) ≤ 108086391056891904 := by omega
          have HM1 := Lib.hid (fun w' (ho : Only [] wo w') => pMean1 (ho.got BX.out (by simp)) l[k] hxo HF.out.1 HF.out.2)
          have HMD := Lib.hid (fun w' => muldiv (wtC l[k]) (l[k].off - first) tot (by omega) hwt (by omega) ht2 (by have := HF.out; omega) (by have := HF.out; omega) w')
          generalize psum tot first (l.take k) = acc at HSN hpb1 hpb2 ⊢
          generalize wtC l[k] * (l[k].off - first) / tot = pr at HSN hprt HMD
          obtain ⟨pr1, pr2⟩ := hprt
          generalize wtC l[k] = wt at d0 HMD
          generalize l[k] = x at c0 c1 c2 c3 c4 HM1 HMD
          obtain ⟨id, of, di, ji, st⟩ := x
          unfold cdV at HM1
          dsimp only at c0 c1 c2 c3 c4 HM1 HMD
          generalize of - first = df at HM1 HMD
          clear hpb hxo hwb hwt hxb
          go_wp2_with fail
          refine (HM1.out wr OO.out).mono ?_
          rintro e w3 ⟨rfl, ho3⟩
          have O3 := Lib.hid (OO.out.nil_trans ho3)
          clear ho3 HM1 OO c0 c1 c2 c3 c4 d0 hb' hb2'
          go_wp2_with fail
          refine (HMD.out w3).mono ?_
          rintro e w4 ⟨rfl, nd, rfl⟩
          have O4 : Hid (Only [] wo (w3.drewN nd)) := Lib.hid (O3.out.nil_trans ⟨rfl, rfl, rfl, Nat.le_refl _, fun _ _ _ => rfl⟩)
          clear HMD O3
          go_wp2
          go_roundw
          case rel => exact ⟨k + 1, by omega, by go_num, by rw [HSN.out], O4.out⟩
          case measure => first | (simp [intOf]; done) | (simp [intOf]; omega)
        · have HC : Hid (l.take k = l) := Lib.hid (List.take_of_length_le (by omega))
          rw [HC.out]
          go_wp2
          go_ret
          exact ⟨by rw [HTO.out]; rfl, OX.out.nil_trans OO.out⟩
set_option maxRecDepth 100000 in
set_option maxHeartbeats 2000000 in
theorem pMean {w : World} {p : Option Addr} {n cap : Nat} {l : List Cd} (hv : VRow cdC 5 w p n cap l) (hg : Gd l) (h0 : 0 < l.length) :
    Calls Try.prog 7 #[.slice p n cap] w fun e w' => e = .returned (.tuple #[.int .i64 (meanC l), .int .i64 0]) ∧ Only [] w w' := by
  have hln := hv.len
  subst hln
  have hlb := hg.len
  have hck := pCheck hv (by omega)
  rw [chkC_ok.2 hg] at hck
  have HCK := Lib.hid hck; have HV := Lib.hid hv; have HG := Lib.hid hg
  obtain ⟨first, hfirst⟩ : ∃ first, l[0].off = first := ⟨_, rfl⟩
  have hx := okC_bd (hg.ok _ (List.getElem_mem h0))
  rw [hfirst] at hx
  obtain ⟨_, _, f0, f1, _⟩ := hx
  have HME : Hid (meanC l = first + psum (totC l) first l) := Lib.hid (by
    cases l with
    | nil => simp at h0
    | cons c r => rw [← hfirst]; rfl)
  have hpb := psum_bd (tot := totC l) f0 f1 (l := l) (fun c hc => ⟨hg.ok c hc, (tot_bd hg.ok).2.2 c hc⟩)
  have hpb1 : -108086391056891904 ≤ psum (totC l) first l := by omega
  have hpb2 : psum (totC l) first l ≤ 108086391056891904 := by omega
  have hne : ((l.length : Int) == 0) = false := by rw [beq_eq_false_iff_ne]; omega
  have hl0 : (0 : Int) < (l.length : Int) := by omega
  have HWT := Lib.hid (fun w' b (ho : Only [] w w') (hb : w'.heap[b]? = some (Obj.cells #[.int .i64 first] 3 (0, 0))) => pWeighted (hv.kept ho) hg hb f0 f1)
  generalize psum (totC l) first l = ps at HME HWT hpb1 hpb2
  clear hv hg hck hpb
  go_enter Try.func7, Try.ntmps7
  go_wp2_with fail
  refine HCK.out.mono ?_
  rintro e w1 ⟨rfl, ho1⟩
  have O1 := Lib.hid ho1
  obtain ⟨bk, off, hp, hb, c0, c1, c2, c3, c4⟩ := HV.out.cd ho1 h0
  have hle := ho1.size
  have hbb : bk < w1.heap.size := by omega
  subst hp
  rw [hfirst] at c1
  simp only [Nat.zero_mul, Nat.add_zero] at c0 c1 c2 c3 c4
  clear ho1 HCK c0 c2 c3 c4 hfirst
  go_upto_region 7 with (fail)
  refine alloc_abs (G := fun w0 => Code.wp _ _ _ _ w0) ?_
  intro w2 hb2 ho2 hs2
  obtain ⟨b, hbe⟩ : ∃ b, w1.heap.size = b := ⟨_, rfl⟩
  rw [hbe] at hb2
  rw [hbe]
  have B2 := Lib.hid hb2; have O2 := Lib.hid (O1.out.nil_trans ho2)
  clear hb2 ho2 hs2 hbe c1 hbb
  have hwr : IntKind.i64.wrap (first + ps) = first + ps := by rw [IntKind.wrap_i64]; omega
  have k0 := cell_got B2.out 0; have lk := got_lt B2.out
  refine wp_region_grown [0, 1, 2, 3, 4, 5, 6] [] (by kernel_rfl) (by kernel_rfl) ?_
  simp only [pick, List.map_cons, List.map_nil, List.getD_cons_succ, List.getD_cons_zero]
  iterate 3 (refine wpQuiet_step (fun K hK => ?_); go_simp; refine hK _ ?_; clear hK K)
  refine wpQuiet_enter_w (by kernel_rfl) 18 #[.slice (some ⟨bk, off, none⟩) l.length cap, .func (.func 19) #[] #[.pointer (some ⟨b, 0, none⟩)]] (fun _ => by kernel_rfl) (.int .i64 ps) (grown_only2 (fun w' hw' => HWT.out w' b (O2.out.nil_trans hw') (hw'.got B2.out (by simp)))) ?_
  iterate 3 (refine wpQuiet_step (fun K hK => ?_); go_simp; refine hK _ ?_; clear hK K)
  refine wpQuiet_nil ?_
  intro w3 hw3
  have O3 := Lib.hid (O2.out.nil_trans (only_of_plus hw3))
  clear hw3
  go_wp2
  go_ret2
  exact ⟨by rw [HME.out]; rfl, O3.out⟩
end Go.Proofs.Ytmokeehpfjmgoaa
