/- TopMean: the true offset, where it lies within the distance of every candidate that is kept, differs from their combined offset by at most the distance that combination states: the law returns true for every input. No condition. -/
import Derived.Test.YtmokeehpfjmgoaaMs
import Derived.Test.YtmokeehpfjmgoaaSt
namespace Go.Proofs.Ytmokeehpfjmgoaa
open Go.ChangeShapes Go.WideShapes Go.ChangeAt Go.RowKit Go.Deep

section
variable {H : Type} {enc : TypeId × Value → H} {w : World}
theorem vrow_cands {p : Option Addr} {n cap : Nat} {d : DataW H} {ps : List MemPlace} (h : DataW.Trod enc Try.prog w 0 (fun _ => true) true 22 (.slice p n cap) d ps) : ∃ l : List Cd, VRow cdC 5 w p n cap l := by
  obtain ⟨l, hl, _⟩ := vrow_of cdC 5 (fun _ => rfl) (by decide) (fun _ => True) Try.underlying22 (by kernel_rfl) h (fun fuel cs x hx => by
    obtain ⟨zs, h1, rfl, _⟩ := ints_of_struct Try.underlying31 (by kernel_rfl) (by kernel_rfl) (by kernel_rfl) hx
    match zs, h1 with
    | [a, b, c, d, e], _ => exact ⟨⟨a, b, c, d, e⟩, rfl, trivial⟩)
  exact ⟨l, hl⟩
end
/-- the true offset lies within a candidate's distance -/
def inC (t : Int) (c : Cd) : Prop := c.off - c.dist ≤ t ∧ t ≤ c.off + c.dist
theorem mean_law {t m : Int} {c : Cd} (h : inC t c) : m - t ≤ dstC m c ∧ t - m ≤ dstC m c := by
  unfold inC at h
  unfold dstC
  omega
def KeI (w : World) (ks : List Cd) (vo vi : Value) (wr : World) : Prop :=
  ∃ k : Nat, k ≤ ks.length ∧ vi = .int .i64 k ∧ Own cdC 31 5 w.heap.size wr vo (ks.take k) ∧ Only [] w wr
def TrI (w : World) (l : List Cd) (t : Int) (vi : Value) (wr : World) : Prop :=
  ∃ k : Nat, k ≤ l.length ∧ vi = .int .i64 k ∧ (∀ c ∈ l.take k, inC t c) ∧ Only [] w wr
set_option maxRecDepth 100000 in
set_option maxHeartbeats 4000000 in
theorem mean_walk {w : World} {p : Option Addr} {n cap : Nat} {l : List Cd} (hv : VRow cdC 5 w p n cap l) (t keep : Int) :
    Calls Try.prog 3 #[.slice p n cap, .int .i64 t, .int .i64 keep] w fun e w' => e = .returned (.bool true) ∧ Only [] w w' := by
  by_cases hbig : 100 < n
  · have d1 : decide (100 < (n : Int)) = true := by simp; omega
    have d2 : decide (100 < n) = true := by simp; omega
    go_enter Try.func3, Try.ntmps3
    go_wp2
    go_ret
    exact ⟨rfl, Only.refl _ _⟩
  have d1 : decide (100 < (n : Int)) = false := by simp; omega
  have d2 : decide (100 < n) = false := by simp; omega
  by_cases ht0 : t < -4503599627370496
  · have d3 : decide (t < -4503599627370496) = true := decide_eq_true ht0
    go_enter Try.func3, Try.ntmps3
    go_wp2
    go_ret
    exact ⟨rfl, Only.refl _ _⟩
  have d3 : decide (t < -4503599627370496) = false := decide_eq_false ht0
  by_cases ht1 : 4503599627370496 < t
  · have d4 : decide (4503599627370496 < t) = true := decide_eq_true ht1
    go_enter Try.func3, Try.ntmps3
    go_wp2
    go_ret
    exact ⟨rfl, Only.refl _ _⟩
  have d4 : decide (4503599627370496 < t) = false := decide_eq_false ht1
  have HTB : Hid (-4503599627370496 ≤ t ∧ t ≤ 4503599627370496) := Lib.hid (by omega)
  have HS := Lib.hid (pSelect hv (by omega)); have HV := Lib.hid hv; have HN := Lib.hid hv.len
  clear hv ht0 ht1
  go_enter Try.func3, Try.ntmps3
  go_wp2_with fail
  refine HS.out.mono ?_
  rintro e w1 ⟨⟨v, h, ins, er, rfl, hown, hor⟩, ho1⟩
  have O1 := Lib.hid ho1; have W1 := Lib.hid hown; have HOR := Lib.hid hor
  clear ho1 hown hor HS d1 d2 d3 d4
  obtain ⟨lo, hi⟩ := h
  unfold ivV
  go_upto_region 4 with (fail)
  refine alloc_abs (G := fun w0 => Code.wp _ _ _ _ w0) ?_
  intro w2 hb2 ho2 hs2
  have O2 := Lib.hid (O1.out.nil_trans ho2); have W2 := Lib.hid (W1.out.kept ho2)
  clear hb2 ho2 hs2 O1 W1
  by_cases her : er = 0
  · subst her
    have hp : SelP l ins := by
      rcases HOR.out with ⟨_, hg, hs⟩ | ⟨hne, _⟩
      · exact selP hg hs
      · exact absurd rfl hne
    have HP := Lib.hid hp
    clear hp HOR
    obtain ⟨p2, c2, rfl, hv2⟩ := Own.vrow (enc := intC) (s := 1) intC_len W2.out
    have V2 := Lib.hid hv2
    clear hv2 W2
    obtain ⟨ks, hks⟩ : ∃ ks, ins.map (atC l) = ks := ⟨_, rfl⟩
    have HKL : Hid (ks.length = ins.length) := Lib.hid (by rw [← hks, List.length_map])
    have hil : ins.length ≤ 100 := by have := HP.out.len; have := HN.out; omega
    go_wp2_with fail
    go_loopw [10, 39] (fun vo vi wr => KeI w2 ks vo vi wr) (fun _ vi _ => ins.length - (intOf vi).toNat)
    case atStart => exact ⟨0, Nat.zero_le _, rfl, own_nil _ _, Only.refl _ _⟩
    case round =>
      obtain ⟨k, hk, rfl, hown, ho⟩ := hrel
      have OW := Lib.hid hown; have OO := Lib.hid ho
      clear hown ho
      by_cases hlt : k < ins.length
      · have hkk : k < ks.length := by have := HKL.out; omega
        obtain ⟨bi, oi, hp, hbi, i0⟩ := V2.out.i64 OO.out hlt
        subst hp
        obtain ⟨j, hj, hz⟩ := HP.out.mem ins[k] (List.getElem_mem hlt)
        have HSN : Hid (ks.take (k + 1) = ks.take k ++ [l[j]]) := Lib.hid (by
          rw [List.take_succ_eq_append_getElem (by omega)]
          congr 2
          simp only [← hks, List.getElem_map, hz, atC, Int.toNat_natCast, List.getD_eq_getElem?_getD, List.getElem?_eq_getElem hj, Option.getD_some])
        rw [hz] at i0
        have hacc : (ks.take k).length ≤ k := by rw [List.length_take]; omega
        generalize ks.take k = acc at OW HSN hacc
        obtain ⟨bk, off, hp, hb, c0, c1, c2, c3, c4⟩ := HV.out.cd (O2.out.nil_trans OO.out) hj
        subst hp
        generalize l[j] = x at c0 c1 c2 c3 c4 HSN
        have hle := OO.out.size
        have hle2 := (O2.out.nil_trans OO.out).size
        have hb' : bk < wr.heap.size := by omega
        have hbi' : bi < wr.heap.size := by omega
        have hn := HN.out
        have hjn : j < n := by omega
        have q1 : decide ((j : Int) < 0) = false := by rw [decide_eq_false_iff_not]; omega
        have q2 : decide ((n : Int) ≤ (j : Int)) = false := by rw [decide_eq_false_iff_not]; omega
        have q3 : decide (n ≤ j) = false := by rw [decide_eq_false_iff_not]; omega
        obtain ⟨id, of, di, ji, st⟩ := x
        dsimp only at c0 c1 c2 c3 c4
        obtain ⟨pp, cap', rfl, _⟩ := Own.vrow (enc := cdC) (s := 5) cdC_len OW.out
        clear hz
        go_wp2_with (at_builtin; refine stop_here ?_)
        refine alloc_abs (G := fun w0 => Stop (wpList _ _ _ _ _ w0)) ?_
        intro w5 hb5 ho5 hs5
        have B5 := Lib.hid hb5; have O5 := Lib.hid (OO.out.nil_trans ho5); have R5 := Lib.hid (OW.out.kept ho5)
        clear hb5 ho5 hs5 c0 c1 c2 c3 c4 i0
        refine stop_go ?_
        refine wpList_append_one (w0 := w2) rfl _ _ 22 rfl 31 cdZ 5 40 Try.underlying22 cd_info rfl (by decide) cdC cdC_len cdC_one acc _ rfl R5.out wr.heap.size ⟨id, of, di, ji, st⟩ rfl (fun j u hj => ?_) (by simp [maxLen]; omega) (by omega) O5.out ?_
        · rw [cell_got B5.out, ← hj]; simp [cdC]
        intro v6 w6 hown6 ho6 _
        have W6 := Lib.hid hown6; have O6 := Lib.hid ho6
        clear hown6 ho6
        go_wp2
        go_roundw
        case rel => exact ⟨k + 1, by omega, by go_num, by rw [HSN.out]; exact W6.out, O6.out⟩
        case measure => first | (simp [intOf]; done) | (simp [intOf]; omega)
      · rw [List.take_of_length_le (by have := HKL.out; omega)] at OW
        obtain ⟨w3, hw3⟩ : ∃ w3 : World, w3 = wr := ⟨_, rfl⟩
        subst hw3
        obtain ⟨p3, c3, rfl, hv3⟩ := Own.vrow (enc := cdC) (s := 5) cdC_len OW.out
        have hpos := HP.out.pos
        have hgd := HP.out.gd
        rw [hks] at hpos hgd
        have HPR := Lib.hid (pPrune hv3 hgd hpos keep); have O3 := Lib.hid (O2.out.nil_trans OO.out)
        clear hv3 hgd hpos OW OO O2 V2 HP hks
        go_wp2_with fail
        refine HPR.out.mono ?_
        rintro e w4 ⟨hpr, ho4⟩
        have O4 := Lib.hid (O3.out.nil_trans ho4)
        clear ho4 HPR O3 hlt hk HKL hil
        unfold PrR at hpr
        by_cases hkp : keep < 1
        · rw [if_pos hkp] at hpr
          obtain rfl := hpr
          have q1 : decide (keep < 1) = true := decide_eq_true hkp
          go_wp2
          go_ret
          exact ⟨rfl, O4.out⟩
        · rw [if_neg hkp] at hpr
          obtain ⟨g, cap4, l4, rfl, hge, hr4, hg4, hl4⟩ := hpr
          have V4 := Lib.hid (hr4.vrow cdC_len rfl); have G4 := Lib.hid hg4; have HL4 := Lib.hid hl4
          have hlb := hg4.len
          clear hr4 hg4 hl4 hge hkp
          go_wp2_with fail
          go_loopw [71] (fun vi wr => TrI w4 l4 t vi wr) (fun vi _ => l4.length - (intOf vi).toNat)
          case atStart => exact ⟨0, Nat.zero_le _, rfl, by simp, Only.refl _ _⟩
          case round =>
            obtain ⟨k, hk, rfl, hin, ho⟩ := hrel
            have OO := Lib.hid ho; have HIN := Lib.hid hin
            clear ho hin
            by_cases hlt : k < l4.length
            · obtain ⟨bk, off, hp, hb, c0, c1, c2, c3, c4⟩ := V4.out.cd OO.out hlt
              simp only [Option.some.injEq, Addr.mk.injEq, and_true] at hp
              obtain ⟨rfl, rfl⟩ := hp
              have hle := OO.out.size
              have hb' : g < wr.heap.size := by omega
              have hxb := okC_bd (G4.out.ok _ (List.getElem_mem hlt))
              have HSN : Hid (inC t l4[k] → ∀ c ∈ l4.take (k + 1), inC t c) := Lib.hid (by
                intro hc c hm
                rw [List.take_succ_eq_append_getElem hlt, List.mem_append, List.mem_singleton] at hm
                rcases hm with hm | rfl
                · exact HIN.out c hm
                · exact hc)
              generalize l4[k] = x at c0 c1 c2 c3 c4 HSN hxb
              obtain ⟨id, of, di, ji, st⟩ := x
              dsimp only at c0 c1 c2 c3 c4 hxb
              obtain ⟨_, _, b1, b2, b3, b4, _⟩ := hxb
              simp only [Nat.zero_add] at c0 c1 c2 c3 c4
              go_upto_region 20 with (fail)
              refine alloc_abs (G := fun w0 => Code.wp _ _ _ _ w0) ?_
              intro w5 hb5 ho5 hs5
              have B5 := Lib.hid hb5; have O5 := Lib.hid (OO.out.nil_trans ho5)
              clear hb5 ho5 hs5 c0 c1 c2 c3 c4 OO
              have k1 := cell_got B5.out 1; have k2 := cell_got B5.out 2; have lk := got_lt B5.out
              have hwr1 : IntKind.i64.wrap (of - di) = of - di := by rw [IntKind.wrap_i64]; omega
              have hwr2 : IntKind.i64.wrap (of + di) = of + di := by rw [IntKind.wrap_i64]; omega
              by_cases h1 : t < of - di
              · have q1 : decide (t < of - di) = true := decide_eq_true h1
                go_wp2
                go_ret
                exact ⟨rfl, O4.out.nil_trans O5.out⟩
              · have q1 : decide (t < of - di) = false := decide_eq_false h1
                by_cases h2 : of + di < t
                · have q2 : decide (of + di < t) = true := decide_eq_true h2
                  go_wp2
                  go_ret
                  exact ⟨rfl, O4.out.nil_trans O5.out⟩
                · have q2 : decide (of + di < t) = false := decide_eq_false h2
                  have HI2 := Lib.hid (HSN.out ⟨Int.not_lt.1 h1, Int.not_lt.1 h2⟩)
                  clear HSN h1 h2
                  go_wp2
                  go_roundw
                  case rel => exact ⟨k + 1, by omega, by go_num, HI2.out, O5.out⟩
                  case measure => first | (simp [intOf]; done) | (simp [intOf]; omega)
            · have hall := HIN.out
              rw [List.take_of_length_le (by omega)] at hall
              have HALL := Lib.hid hall
              have HM := Lib.hid (pMean (V4.out.kept OO.out) G4.out HL4.out)
              have HD := Lib.hid (fun w' (ho : Only [] wr w') => pDist ((V4.out.kept OO.out).kept ho) G4.out HL4.out)
              have hmb := mean_bd G4.out
              have HR : Hid (∀ e, DiR l4 e → ∃ d, e = .returned (.int .i64 d) ∧ meanC l4 - t ≤ d ∧ t - meanC l4 ≤ d ∧ 0 ≤ d ∧ d ≤ 200000000000000000) := Lib.hid (by
                rintro e ⟨c, hc, rfl⟩
                have h1 := mean_law (m := meanC l4) (hall c hc)
                have h2 := dst_bd (m := meanC l4) (G4.out.ok c hc) hmb.1 hmb.2
                exact ⟨_, rfl, h1.1, h1.2, h2.1, h2.2⟩)
              generalize meanC l4 = m at HM HR hmb
              clear hall HIN HALL
              obtain ⟨m0, m1⟩ := hmb
              obtain ⟨t0, t1⟩ := HTB.out
              have hp4 : 0 < l4.length := HL4.out
              go_wp2_with fail
              refine HM.out.mono ?_
              rintro e w5 ⟨rfl, ho5⟩
              have O5 := Lib.hid (O4.out.nil_trans (OO.out.nil_trans ho5)); have HD5 := Lib.hid (HD.out w5 ho5)
              clear ho5 HM HD OO
              go_wp2_with fail
              refine HD5.out.mono ?_
              rintro e w6 ⟨hd, ho6⟩
              obtain ⟨d, rfl, e1, e2, e3, e4⟩ := HR.out e hd
              have O6 := Lib.hid (O5.out.nil_trans ho6)
              clear ho6 HD5 hd HR
              have hwr1 : IntKind.i64.wrap (m - t) = m - t := by rw [IntKind.wrap_i64]; omega
              have hwr2 : IntKind.i64.wrap (t - m) = t - m := by rw [IntKind.wrap_i64]; omega
              have q1 : decide (m - t ≤ d) = true := decide_eq_true e1
              have q2 : decide (t - m ≤ d) = true := decide_eq_true e2
              go_wp2
              go_ret
              exact ⟨rfl, O6.out⟩
  · have q1 : (er == 0) = false := by rw [beq_eq_false_iff_ne]; exact her
    go_wp2_with fail
    refine (awake_any _).mono ?_
    rintro e w3 ⟨rfl, ho3⟩
    go_wp2
    go_ret
    exact ⟨rfl, O2.out.nil_trans ho3⟩

set_option maxRecDepth 100000 in
theorem topMean_lifted (os : Os) (started : os.Started) (H : Type) (enc : TypeId × Value → H) :
    ReturnsInHanded {} Try.checked os 3 .any (Rows.topMeanSpec.pre6 enc Try.prog Try.f3 Rows.topMeanRow.domain false) (Rows.topMeanSpec.post enc Try.prog Try.f3 false true false false) := by
  refine returnsInHanded_of_change (C := Try.checked) law_own started (by kernel_rfl) Try.func3
    (ChangeSpec.witness6 (enc := enc) (C := Try.checked) false ⟨#[], #[.slice none 0 0, .int .i64 0, .int .i64 0], []⟩ 8 (by kernel_rfl) (by kernel_rfl) (by kernel_rfl) (by kernel_rfl)) ?_
  intro W base args ds gs before hval0 hW hcnd _
  have hval : ∀ (j : Nat) t v, Try.f3.params[j]? = some t → args[j]? = some v → Value.okWide Try.prog W .any base t v := hval0
  have hW' := hW
  obtain ⟨p, q, hA0, hV, rfl, hfz, hnd⟩ := hW
  have hA : DataW.TrodAll enc Try.prog W 0 (fun _ => true) true Try.f3.params.toList args.toList ds p := hA0
  rw [Try.params3] at hA hval
  obtain ⟨v0, vs0, d0, ds0, p0, q0, hargs, rfl, rfl, h0, r0⟩ := trodAll_cons hA
  obtain ⟨v1, vs1, d1, ds1, p1, q1, rfl, rfl, rfl, h1, r1⟩ := trodAll_cons r0
  obtain ⟨v2, vs2, d2, ds2, p2, q2, rfl, rfl, rfl, h2, r2⟩ := trodAll_cons r1
  obtain ⟨rfl, rfl, rfl⟩ := trodAll_nil r2
  obtain rfl : args = #[v0, v1, v2] := by cases args; simp_all
  obtain ⟨rfl, rfl⟩ := trodVars_none hV
  have k0 := h0
  have lt0 : ∀ x ∈ p0, x.block < W.heap.size := by obtain ⟨m, hm⟩ := k0; exact DataW.trod_lt m _ _ _ hm
  obtain ⟨a0, len0, cap0, rfl⟩ := okWide_slice Try.underlying22 (hval 0 22 v0 rfl rfl)
  obtain ⟨z0, w0⟩ := vrow_cands h0
  obtain ⟨a1, rfl, rfl, rfl, w1⟩ := open_int Try.underlying3 (hval 1 3 v1 rfl rfl) h1
  obtain ⟨a2, rfl, rfl, rfl, w2⟩ := open_int Try.underlying3 (hval 2 3 v2 rfl rfl) h2
  clear hA0 hval0
  refine (mean_walk w0 a1 a2).mono fun e W' ⟨he, ho⟩ => ?_
  subst he
  have bel : Below W.heap.size W W' := ho.nil_below
  exact ⟨_, rfl, _, _, _, [], _, [], hW', trodAll_mk1 (shut_bool Try.underlying4 _), (trodAll_cons_mk (Below.trod law_laidOut (by kernel_rfl) (of_decide_eq_true (by kernel_rfl)) k0 bel lt0) (trodAll_cons_mk (shut_int Try.underlying3 w1) (trodAll_cons_mk (shut_int Try.underlying3 w2) trodAll_mk0))), rfl, bel.frame _, fun h => by cases h⟩

theorem topMean_over : Rows.topMeanRow.holds Try.pinned (OpenSpec.ofChange Rows.topMeanSpec) :=
  OpenClaim.holds_of_wide 3 Try.f3 rfl rfl rfl rfl rfl rfl rfl ⟨rfl, rfl, rfl, rfl, rfl⟩ rfl rfl rfl rfl rfl (by kernel_rfl) Try.func3 (by kernel_rfl)
    (of_decide_eq_true (by kernel_rfl)) (by unfold Func.isWrapper; first | (rw [if_pos (by decide +kernel)]; kernel_rfl) | (rw [if_neg (by decide +kernel)]; exact ⟨rfl, rfl⟩))
    (fun os started H enc _ => topMean_lifted os started H enc)

theorem topMean_holds : Rows.TopMeanSaid := topMean_over
end Go.Proofs.Ytmokeehpfjmgoaa
