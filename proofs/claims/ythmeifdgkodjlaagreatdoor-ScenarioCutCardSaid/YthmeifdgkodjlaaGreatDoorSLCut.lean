/- ScenarioCut: what is left of a valid scene's text when it is cut: it has the right form, or the error is at the line after the last whole one, for every scene and every place. Conditions: those of the given row. -/
import Derived.Test.YthmeifdgkodjlaaGreatDoorG7
namespace Go.Proofs.YthmeifdgkodjlaaGreatDoor
open Go.ChangeShapes Go.WideShapes Go.ChangeAt Go.RowKit

theorem pcs_take (c : UInt8) : ∀ (T : List UInt8) (p : Nat), (pcs c (T.take p)).length ≤ (pcs c T).length ∧ ∀ i, ((pcs c (T.take p)).getD i []).length ≤ ((pcs c T).getD i []).length
  | [], p => by simp
  | x :: r, 0 => by
    refine ⟨?_, fun i => ?_⟩
    · have := pcs_ne c (x :: r)
      have h1 : 1 ≤ (pcs c (x :: r)).length := by
        cases h : pcs c (x :: r) with
        | nil => exact absurd h this
        | cons a b => simp
      simpa [pcs] using h1
    · cases i <;> simp [pcs]
  | x :: r, p + 1 => by
    obtain ⟨h1, h2⟩ := pcs_take c r p
    rw [List.take_succ_cons]
    unfold pcs
    by_cases hx : x = c
    · rw [if_pos hx, if_pos hx]
      refine ⟨by simpa using h1, fun i => ?_⟩
      cases i with
      | zero => simp
      | succ i => simpa using h2 i
    · rw [if_neg hx, if_neg hx]
      cases e1 : pcs c (r.take p) with
      | nil => exact absurd e1 (pcs_ne c _)
      | cons a t =>
        cases e2 : pcs c r with
        | nil => exact absurd e2 (pcs_ne c _)
        | cons b u =>
          rw [e1, e2] at h1 h2
          refine ⟨by simpa using h1, fun i => ?_⟩
          cases i with
          | zero => have := h2 0; simpa using this
          | succ i => have := h2 (i + 1); simpa using this
theorem scW_len {s : Sc} (h : chkS s = 0) : (scW s).length ≤ 2000 := by
  have ho := chkS_ok h
  have hn1 := ho.n1; have hl1 := ho.l1; have hfl := ho.fl
  have hNL : ∀ i, i < s.nd.length → (s.nd.getD i nd0).sg.length ≤ 16 ∧ (s.nd.getD i nd0).sv.length ≤ 12 := fun i hi => ⟨(oscE_ok (ho.nd i hi).osc).2.2.1, (ho.nd i hi).len⟩
  have hLL : ∀ i, i < s.lk.length → (s.lk.getD i lk0).ch.length ≤ 16 := fun i hi => linkE_len (ho.lk i hi).lk
  have c1 := ndsW_len s.nd 0 (fun n hn => by obtain ⟨i, h', rfl⟩ := mem_getD (z := nd0) hn; exact hNL i h')
  have c2 := lksW_len s.lk (fun n hn => by obtain ⟨i, h', rfl⟩ := mem_getD (z := lk0) hn; exact hLL i h')
  unfold scW
  simp only [List.length_append, List.length_cons, List.length_nil, List.length_map]
  omega
/-- a cut text can be read -/
theorem cut_bounds {s : Sc} (h : chkS s = 0) (hs : SdOk s) (p : Nat) : (∀ q ∈ pcs 10 ((scT s).take p), q.length ≤ 99999) ∧ (lnsO 1 (pcs 10 ((scT s).take p))).length ≤ 99999 := by
  obtain ⟨h1, h2⟩ := pcs_take 10 (scT s) p
  refine ⟨fun q hq => ?_, ?_⟩
  · obtain ⟨i, hi, rfl⟩ := mem_getD (z := []) hq
    refine Nat.le_trans (h2 i) ?_
    by_cases hb : i < (pcs 10 (scT s)).length
    · exact (sc_bounds h hs).2.1 _ (getD_mem [] hb)
    · rw [List.getD_eq_getElem?_getD, List.getElem?_eq_none (by omega)]; simp
  · have hc := lnsO_length (pcs 10 ((scT s).take p)) 1
    have hl := scW_len h
    rw [pcs_scT] at h1
    simp only [List.length_append, List.length_map, List.length_cons, List.length_nil] at h1
    omega

/-- what is known where a text is cut -/
theorem cut_key {S : ByteArray} {T : List UInt8} (hsz : S.size = T.length) (hget : ∀ k (h1 : k < S.size) (h2 : k < T.length), S[k]'h1 = T[k]'h2) {n cn m : Nat} {E : Int} (hlt : n < T.length) (hcn : cn = (T.take n).count 10)
    (hcs : (m = 0 ∧ E ≠ 19 ∧ 2 ≤ cn ∧ (T.take n).getLast? = some 10) ∨ (m = cn + 1 ∧ E = 19)) :
    (n = 0 ∧ cn < 2 ∧ m = cn + 1 ∧ E = 19) ∨ (∃ k, ∃ hk : k < S.size, n = k + 1 ∧ (((S[k]'hk).toNat : Int) == 10) = false ∧ m = cn + 1 ∧ E = 19) ∨
    (∃ k, ∃ hk : k < S.size, n = k + 1 ∧ (((S[k]'hk).toNat : Int) == 10) = true ∧ cn < 2 ∧ m = cn + 1 ∧ E = 19) ∨
    (∃ k, ∃ hk : k < S.size, n = k + 1 ∧ (((S[k]'hk).toNat : Int) == 10) = true ∧ 2 ≤ cn ∧ m = cn + 1 ∧ E = 19) ∨
    (∃ k, ∃ hk : k < S.size, n = k + 1 ∧ (((S[k]'hk).toNat : Int) == 10) = true ∧ 2 ≤ cn ∧ m = 0 ∧ (E == 19) = false) := by
  rcases Nat.eq_zero_or_pos n with rfl | hn0
  · have h0 : cn = 0 := by rw [hcn]; simp
    rcases hcs with ⟨_, _, h2, _⟩ | ⟨rfl, rfl⟩
    · omega
    · exact .inl ⟨rfl, by omega, rfl, rfl⟩
  · obtain ⟨k, rfl⟩ : ∃ k, n = k + 1 := ⟨n - 1, by omega⟩
    have hk : k < S.size := by omega
    rcases hcs with ⟨rfl, hE, h2, hlast⟩ | ⟨rfl, rfl⟩
    · refine .inr (.inr (.inr (.inr ⟨k, hk, rfl, ?_, h2, rfl, by simp [hE]⟩)))
      rw [List.getLast?_eq_getElem?, List.length_take, Nat.min_eq_left (by omega), Nat.add_sub_cancel, List.getElem?_take, if_pos (by omega), List.getElem?_eq_getElem (by omega)] at hlast
      rw [hget k hk (by omega), Option.some.inj hlast]
      rfl
    · cases hb : (((S[k]'hk).toNat : Int) == 10) with
      | false => exact .inr (.inl ⟨k, hk, rfl, hb, rfl, rfl⟩)
      | true =>
        by_cases h2 : cn < 2
        · exact .inr (.inr (.inl ⟨k, hk, rfl, hb, h2, rfl, rfl⟩))
        · exact .inr (.inr (.inr (.inl ⟨k, hk, rfl, hb, by omega, rfl, rfl⟩)))

set_option maxRecDepth 100000 in
set_option maxHeartbeats 3000000 in
theorem cut_walk {w : World} (s : ScW) (hv : s.Ok0 w) (a : Int) (wf : (Lit.int .i64 a).wf = true) (he : Env w) :
    Calls Tryz.prog 6 #[scV s, .int .i64 a] w fun e w' => e = .returned (.bool true) ∧ Only [] w w' := by
  have HV := Lib.hid hv; have HE := Lib.hid he
  have HSD := Lib.hid hv.sdOk
  obtain ⟨sc, hsc⟩ : ∃ sc, s.sc = sc := ⟨_, rfl⟩
  have HSC := Lib.hid hsc
  rw [hsc] at HSD
  clear hv he hsc
  obtain ⟨nd, lk, ft, un, sd, pn, cn, pl, cl, pf, cf⟩ := s
  simp only [scV]
  go_enter Tryz.func6, Tryz.ntmps6
  go_upto_region 1 with (fail)
  refine alloc_abs (G := fun w0 => Code.wp _ _ _ _ w0) ?_
  intro w1 hb1 ho1 hs1
  have B1 := Lib.hid hb1; have O1 := Lib.hid ho1
  clear hb1 ho1 hs1
  have c0 := cell_got B1.out 0; have c1 := cell_got B1.out 1; have c2 := cell_got B1.out 2; have c3 := cell_got B1.out 3; have c4 := cell_got B1.out 4; have lc := got_lt B1.out
  have HSM := Lib.hid (pSmall _ (HV.out.nd.kept O1.out) (HV.out.lk.kept O1.out))
  go_wp2_with fail
  refine HSM.out.mono ?_
  rintro e w2 ⟨rfl, ho2⟩
  have O2 := Lib.hid (O1.out.nil_trans ho2); have B2 := Lib.hid (ho2.got B1.out (by simp))
  clear ho2 O1 B1 HSM c0 c1 c2 c3 c4 lc
  have c0 := cell_got B2.out 0; have c1 := cell_got B2.out 1; have c2 := cell_got B2.out 2; have c3 := cell_got B2.out 3; have c4 := cell_got B2.out 4; have lc := got_lt B2.out
  by_cases hsm : smW ⟨nd, lk, ft, un, sd, pn, cn, pl, cl, pf, cf⟩ = true
  · have HOK := Lib.hid (HV.out.ok hsm)
    rw [hsm]
    clear hsm
    have hck := pCheck _ (HOK.out.kept O2.out)
    rw [HSC.out] at hck
    by_cases hc : chkS sc = 0
    · have htx : txtS sc = (scT sc, 0) := by unfold txtS; rw [if_pos hc]
      rw [hc] at hck
      have HCK := Lib.hid hck
      have HCB := Lib.hid (fun p => cut_bounds hc HSD.out p)
      have HBS := Lib.hid (back_sc hc HSD.out)
      have HCS := Lib.hid (fun p (hp : p < (scT sc).length) => cut_sc hc HSD.out hp)
      have hlen := (sc_bounds hc HSD.out).1
      clear hck
      go_wp2_with fail
      refine HCK.out.mono ?_
      rintro e w3 ⟨rfl, ho3⟩
      have O3 := Lib.hid (O2.out.nil_trans ho3); have B3 := Lib.hid (ho3.got B2.out (by simp))
      clear ho3 O2 B2 HCK c0 c1 c2 c3 c4 lc
      have c0 := cell_got B3.out 0; have c1 := cell_got B3.out 1; have c2 := cell_got B3.out 2; have c3 := cell_got B3.out 3; have c4 := cell_got B3.out 4; have lc := got_lt B3.out
      have ht := pText _ (HOK.out.kept O3.out) (by rw [HSC.out]; exact HSD.out) (HE.out.kept O3.out).tab
      rw [HSC.out, htx] at ht
      obtain ⟨T, hT⟩ : ∃ T, T = scT sc := ⟨_, rfl⟩
      rw [← hT] at ht HCB HBS HCS hlen
      obtain ⟨S, hS⟩ : ∃ S, S = bstr T := ⟨_, rfl⟩
      have hsz : S.size = T.length := by rw [hS, bstr_size]
      have hex : ∀ n, S.extract 0 n = bstr (T.take n) := fun n => by
        apply bstr_eq; rw [hS, ByteArray.data_extract, Array.toList_extract]; simp [bstr]
      have HGT : Hid (∀ k (h1 : k < S.size) (h2 : k < T.length), S[k]'h1 = T[k]'h2) := Lib.hid (fun k h1 h2 => by subst hS; rfl)
      simp only [← hS] at ht
      have HT := Lib.hid ht; have HX := Lib.hid hex
      clear ht hT hS hc htx hex
      go_wp2_with fail
      refine HT.out.mono ?_
      rintro e w4 ⟨rfl, ho4⟩
      have O4 := Lib.hid (O3.out.nil_trans ho4)
      clear ho4 O3 B3 HT c0 c1 c2 c3 c4 lc
      by_cases h0 : a < 0
      · have d1 : decide (a < 0) = true := by simp [h0]
        have HA := Lib.hid (pAwake w4 (HE.out.kept O4.out))
        go_wp2_with fail
        refine HA.out.mono ?_
        rintro e w8 ⟨rfl, ho8⟩
        have O8 := Lib.hid (O4.out.nil_trans ho8)
        clear ho8
        go_wp2
        go_ret
        exact ⟨rfl, O8.out⟩
      · obtain ⟨n, rfl⟩ : ∃ n : Nat, a = n := ⟨a.toNat, by omega⟩
        have d1 : decide ((n : Int) < 0) = false := by simp
        by_cases h1 : S.size < n
        · have d2 : decide ((n : Int) > (S.size : Int)) = true := by simp; omega
          have d3 : decide ((S.size : Int) < (n : Int)) = true := by simp; omega
          have HA := Lib.hid (pAwake w4 (HE.out.kept O4.out))
          go_wp2_with fail
          refine HA.out.mono ?_
          rintro e w8 ⟨rfl, ho8⟩
          have O8 := Lib.hid (O4.out.nil_trans ho8)
          clear ho8
          go_wp2
          go_ret
          exact ⟨rfl, O8.out⟩
        · have d2 : decide ((n : Int) > (S.size : Int)) = false := by simp; omega
          have d3 : decide ((S.size : Int) < (n : Int)) = false := by simp; omega
          have hnz : (n : Int) ≤ (S.size : Int) := by omega
          have hes : (S.extract 0 n).size = n := by rw [ByteArray.size_extract]; omega
          have htl : (S.extract 0 n).data.toList = T.take n := by rw [HX.out]; simp [bstr]
          have HP := Lib.hid (pParse (S.extract 0 n) (T.take n) htl (by omega) (HCB.out n).1 (HCB.out n).2 w4 (HE.out.kept O4.out))
          have hf := pFeeds (S.extract 0 n) (by omega)
          rw [htl] at hf
          have HF := Lib.hid hf
          clear hf htl hes h0
          have hcl : (T.take n).count 10 ≤ n := by have := List.count_le_length (a := (10 : UInt8)) (l := T.take n); rw [List.length_take] at this; omega
          obtain ⟨cn, hcn⟩ : ∃ cn, cn = (T.take n).count 10 := ⟨_, rfl⟩
          go_wp2_with fail
          refine HP.out.mono ?_
          rintro e w5 ⟨⟨s2, hs2, hok, rfl⟩, ho5⟩
          have O5 := Lib.hid (O4.out.nil_trans ho5)
          clear ho5 HP O4 hok hs2
          obtain ⟨nd2, lk2, ft2, un2, sd2, pn2, cn2, pl2, cl2, pf2, cf2⟩ := s2
          simp only [scV]
          obtain ⟨s1, m, E, hr⟩ : ∃ s1 m E, prsS (T.take n) = (s1, m, E) := ⟨_, _, _, rfl⟩
          have HR := Lib.hid hr
          rw [hr]
          simp only
          clear hr
          go_upto_region 7 with (fail)
          refine alloc_abs (G := fun w0 => Code.wp _ _ _ _ w0) ?_
          intro w6 hb6 ho6 hs6
          have O6 := Lib.hid (O5.out.nil_trans ho6)
          clear hb6 ho6 hs6 O5
          rw [← hcn] at HF
          by_cases hn : n = S.size
          · have hr := HR.out
            rw [show T.take n = T from List.take_of_length_le (by omega), HBS.out] at hr
            obtain ⟨rfl, rfl, rfl⟩ : sc = s1 ∧ 0 = m ∧ 0 = E := by simpa using hr
            have z1 : ((n : Int) == (S.size : Int)) = true := by rw [beq_iff_eq]; omega
            clear hr hn
            have HA := Lib.hid (pAwake w6 (HE.out.kept O6.out))
            go_wp2_with fail
            refine HA.out.mono ?_
            rintro e w8 ⟨rfl, ho8⟩
            have O8 := Lib.hid (O6.out.nil_trans ho8)
            clear ho8
            go_wp2
            go_ret
            exact ⟨rfl, O8.out⟩
          · have z1 : ((n : Int) == (S.size : Int)) = false := by rw [beq_eq_false_iff_ne]; omega
            have hlt : n < T.length := by omega
            have hcs := HCS.out n hlt
            rw [HR.out, ← hcn] at hcs
            simp only at hcs
            have hcn' : cn ≤ 400000 := by omega
            have key := cut_key hsz HGT.out hlt hcn hcs
            clear hcs hn hlt HCS HBS HCB HR HGT
            rcases key with ⟨hn0, h2, hm, rfl⟩ | ⟨k, hk, hn, hc, hm, rfl⟩ | ⟨k, hk, hn, hc, h2, hm, rfl⟩ | ⟨k, hk, hn, hc, h2, hm, rfl⟩ | ⟨k, hk, hn, hc, h2, hm, hE⟩
            · have p1 : decide ((n : Int) > 0) = false := decide_eq_false (by omega)
              have p2 : decide (0 < (n : Int)) = false := decide_eq_false (by omega)
              have p3 : decide (0 < n) = false := decide_eq_false (by omega)
              have m1 : ((m : Int) == (cn : Int) + 1) = true := by rw [beq_iff_eq]; omega
              have m2 : ((m : Int) == 0) = false := by rw [beq_eq_false_iff_ne]; omega
              have e1 : decide ((cn : Int) < 2) = true := decide_eq_true (by omega)
              have e2 : decide (cn < 2) = true := decide_eq_true (by omega)
              clear hn0 h2 hm hcn
              go_wp2_with fail
              refine (HF.out w6).mono ?_
              rintro e w7 ⟨rfl, rfl⟩
              go_wp2_with fail
              refine (HF.out w6).mono ?_
              rintro e w7 ⟨rfl, rfl⟩
              have HA := Lib.hid (pAwake w6 (HE.out.kept O6.out))
              go_wp2_with fail
              refine HA.out.mono ?_
              rintro e w8 ⟨rfl, ho8⟩
              have O8 := Lib.hid (O6.out.nil_trans ho8)
              clear ho8
              go_wp2
              go_ret
              exact ⟨rfl, O8.out⟩
            · have p1 : decide ((n : Int) > 0) = true := decide_eq_true (by omega)
              have p2 : decide (0 < (n : Int)) = true := decide_eq_true (by omega)
              have p3 : decide (0 < n) = true := decide_eq_true (by omega)
              have hks : (n : Int) - 1 = (k : Int) := by omega
              have hki : (k : Int) < (S.size : Int) := by omega
              have hn1 : (1 : Int) ≤ (n : Int) := by omega
              have m1 : ((m : Int) == (cn : Int) + 1) = true := by rw [beq_iff_eq]; omega
              have m2 : ((m : Int) == 0) = false := by rw [beq_eq_false_iff_ne]; omega
              have hc2 : (((S[k]'hk).toNat : Int) != 10) = true := by simp only [bne, hc]; rfl
              clear hn hm hcn
              go_wp2_with fail
              refine (HF.out w6).mono ?_
              rintro e w7 ⟨rfl, rfl⟩
              have HA := Lib.hid (pAwake w6 (HE.out.kept O6.out))
              go_wp2_with fail
              refine HA.out.mono ?_
              rintro e w8 ⟨rfl, ho8⟩
              have O8 := Lib.hid (O6.out.nil_trans ho8)
              clear ho8
              go_wp2
              go_ret
              exact ⟨rfl, O8.out⟩
            · have p1 : decide ((n : Int) > 0) = true := decide_eq_true (by omega)
              have p2 : decide (0 < (n : Int)) = true := decide_eq_true (by omega)
              have p3 : decide (0 < n) = true := decide_eq_true (by omega)
              have hks : (n : Int) - 1 = (k : Int) := by omega
              have hki : (k : Int) < (S.size : Int) := by omega
              have hn1 : (1 : Int) ≤ (n : Int) := by omega
              have m1 : ((m : Int) == (cn : Int) + 1) = true := by rw [beq_iff_eq]; omega
              have m2 : ((m : Int) == 0) = false := by rw [beq_eq_false_iff_ne]; omega
              have e1 : decide ((cn : Int) < 2) = true := decide_eq_true (by omega)
              have e2 : decide (cn < 2) = true := decide_eq_true (by omega)
              have hc2 : (((S[k]'hk).toNat : Int) != 10) = false := by simp only [bne, hc]; rfl
              clear hn hm hcn h2
              go_wp2_with fail
              refine (HF.out w6).mono ?_
              rintro e w7 ⟨rfl, rfl⟩
              go_wp2_with fail
              refine (HF.out w6).mono ?_
              rintro e w7 ⟨rfl, rfl⟩
              have HA := Lib.hid (pAwake w6 (HE.out.kept O6.out))
              go_wp2_with fail
              refine HA.out.mono ?_
              rintro e w8 ⟨rfl, ho8⟩
              have O8 := Lib.hid (O6.out.nil_trans ho8)
              clear ho8
              go_wp2
              go_ret
              exact ⟨rfl, O8.out⟩
            · have p1 : decide ((n : Int) > 0) = true := decide_eq_true (by omega)
              have p2 : decide (0 < (n : Int)) = true := decide_eq_true (by omega)
              have p3 : decide (0 < n) = true := decide_eq_true (by omega)
              have hks : (n : Int) - 1 = (k : Int) := by omega
              have hki : (k : Int) < (S.size : Int) := by omega
              have hn1 : (1 : Int) ≤ (n : Int) := by omega
              have m1 : ((m : Int) == (cn : Int) + 1) = true := by rw [beq_iff_eq]; omega
              have m2 : ((m : Int) == 0) = false := by rw [beq_eq_false_iff_ne]; omega
              have e1 : decide ((cn : Int) < 2) = false := decide_eq_false (by omega)
              have e2 : decide (cn < 2) = false := decide_eq_false (by omega)
              have hc2 : (((S[k]'hk).toNat : Int) != 10) = false := by simp only [bne, hc]; rfl
              clear hn hm hcn h2
              go_wp2_with fail
              refine (HF.out w6).mono ?_
              rintro e w7 ⟨rfl, rfl⟩
              go_wp2_with fail
              refine (HF.out w6).mono ?_
              rintro e w7 ⟨rfl, rfl⟩
              have HA := Lib.hid (pAwake w6 (HE.out.kept O6.out))
              go_wp2_with fail
              refine HA.out.mono ?_
              rintro e w8 ⟨rfl, ho8⟩
              have O8 := Lib.hid (O6.out.nil_trans ho8)
              clear ho8
              go_wp2
              go_ret
              exact ⟨rfl, O8.out⟩
            · have p1 : decide ((n : Int) > 0) = true := decide_eq_true (by omega)
              have p2 : decide (0 < (n : Int)) = true := decide_eq_true (by omega)
              have p3 : decide (0 < n) = true := decide_eq_true (by omega)
              have hks : (n : Int) - 1 = (k : Int) := by omega
              have hki : (k : Int) < (S.size : Int) := by omega
              have hn1 : (1 : Int) ≤ (n : Int) := by omega
              have e1 : decide ((cn : Int) < 2) = false := decide_eq_false (by omega)
              have e2 : decide (cn < 2) = false := decide_eq_false (by omega)
              have m2 : ((m : Int) == 0) = true := by rw [beq_iff_eq]; omega
              have hE2 : (E != 19) = true := by simp only [bne, hE]; rfl
              have hc2 : (((S[k]'hk).toNat : Int) != 10) = false := by simp only [bne, hc]; rfl
              clear hn hm hcn h2
              go_wp2_with fail
              refine (HF.out w6).mono ?_
              rintro e w7 ⟨rfl, rfl⟩
              have HA := Lib.hid (pAwake w6 (HE.out.kept O6.out))
              go_wp2_with fail
              refine HA.out.mono ?_
              rintro e w8 ⟨rfl, ho8⟩
              have O8 := Lib.hid (O6.out.nil_trans ho8)
              clear ho8
              go_wp2
              go_ret
              exact ⟨rfl, O8.out⟩
    · obtain ⟨E, hE⟩ : ∃ E, E = chkS sc := ⟨_, rfl⟩
      rw [← hE] at hc hck
      have HCK := Lib.hid hck
      have z0 : (E == 0) = false := by simp [hc]
      have z0n : (E != 0) = true := by simp [hc]
      clear hE hc hck
      go_wp2_with fail
      refine HCK.out.mono ?_
      rintro e w4 ⟨rfl, ho4⟩
      have O4 := Lib.hid (O2.out.nil_trans ho4)
      clear ho4 c0 c1 c2 c3 c4 lc HCK
      have HA := Lib.hid (pAwake w4 (HE.out.kept O4.out))
      go_wp2_with fail
      refine HA.out.mono ?_
      rintro e w8 ⟨rfl, ho8⟩
      have O8 := Lib.hid (O4.out.nil_trans ho8)
      clear ho8
      go_wp2
      go_ret
      exact ⟨rfl, O8.out⟩
  · rw [show smW ⟨nd, lk, ft, un, sd, pn, cn, pl, cl, pf, cf⟩ = false by simpa using hsm]
    clear hsm
    have HA := Lib.hid (pAwake w2 (HE.out.kept O2.out))
    go_wp2_with fail
    refine HA.out.mono ?_
    rintro e w8 ⟨rfl, ho8⟩
    have O8 := Lib.hid (O2.out.nil_trans ho8)
    clear ho8
    go_wp2
    go_ret
    exact ⟨rfl, O8.out⟩
set_option maxRecDepth 100000 in
theorem scenarioCut_lifted (os : Os) (started : os.Started) (H : Type) (enc : TypeId × Value → H) :
    ReturnsInHanded {} Tryz.checked os 6 .any (fun w args => (Rows.scenarioCutSpec.pre enc Tryz.prog Tryz.f6 Rows.scenarioCutRow.domain false w args ∧ laidMetH Tryz.prog Rows.scenarioCutRow.laid w) ∧ sizedMet enc Tryz.prog Tryz.f6 (OpenSpec.ofChange Rows.scenarioCutSpec) false w args)
      (Rows.scenarioCutSpec.post enc Tryz.prog Tryz.f6 false true false false) := by
  refine returnsInHanded_of_change_and_shaped (C := Tryz.checked) (X := fun w _ => laidMetH Tryz.prog Rows.scenarioCutRow.laid w) (fun _ _ _ hh h => h.of_heap hh) law_own started (by kernel_rfl) Tryz.func6
    (ChangeSpec.witness_shaped (enc := enc) (C := Tryz.checked) (os := os) (X := fun w _ => laidMetH Tryz.prog Rows.scenarioCutRow.laid w) false (World.laidAll Tryz.prog os Rows.scenarioCutRow.laid) #[.agg #[.slice none 0 0, .slice none 0 0, .slice none 0 0, .int .i64 0, .int .u64 0], .int .i64 0] 8 (World.laidAll_os _ _ _)
      (World.shaped_of_ZipB (by kernel_rfl) (by kernel_rfl)) (by kernel_rfl) (by kernel_rfl) (by kernel_rfl)
      (by rw [MakeChecks.laidMetH_plain _ _ _ (by kernel_rfl)]; exact laidMet_laidAll _ (by kernel_rfl) (by kernel_rfl))) ?_
  intro W base args ds gs before hval0 hW hcnd _ hL hsh _
  have hval : ∀ (j : Nat) t v, Tryz.f6.params[j]? = some t → args[j]? = some v → Value.okWide Tryz.prog W .any base t v := hval0
  have hW' := hW
  obtain ⟨p, q, hA0, hV, rfl, hfz, hnd⟩ := hW
  have hA : DataW.TrodAll enc Tryz.prog W 0 (fun _ => true) true Tryz.f6.params.toList args.toList ds p := hA0
  rw [Tryz.params6] at hA hval
  obtain ⟨v0, vs0, d0, ds0, p0, q0, hargs, rfl, rfl, h0, r0⟩ := trodAll_cons hA
  obtain ⟨v1, vs1, d1, ds1, p1, q1, rfl, rfl, rfl, h1, r1⟩ := trodAll_cons r0
  obtain ⟨rfl, rfl, rfl⟩ := trodAll_nil r1
  obtain rfl : args = #[v0, v1] := by cases args; simp_all
  obtain ⟨rfl, rfl⟩ := trodVars_none hV
  have k0 := h0
  have lt0 : ∀ x ∈ p0, x.block < W.heap.size := by obtain ⟨m, hm⟩ := k0; exact DataW.trod_lt m _ _ _ hm
  obtain ⟨s0, rfl, z0⟩ := scene_of (hval 0 27 v0 rfl rfl) h0
  obtain ⟨a1, rfl, rfl, rfl, w1⟩ := open_int Tryz.underlying3 (hval 1 3 v1 rfl rfl) h1
  clear hA0 hval0
  refine (cut_walk s0 z0 a1 w1 (env_of_laid (by kernel_rfl) (by simp [Rows.scenarioCutRow]) (by simp [Rows.scenarioCutRow]) (by simp [Rows.scenarioCutRow]) hL hsh)).mono fun e W' ⟨he, ho⟩ => ?_
  subst he
  have bel : Below W.heap.size W W' := ho.nil_below
  exact ⟨_, rfl, _, _, _, [], _, [], hW', trodAll_mk1 (shut_bool Tryz.underlying4 _), (trodAll_cons_mk (Below.trod law_laidOut (by kernel_rfl) (of_decide_eq_true (by kernel_rfl)) k0 bel lt0) (trodAll_cons_mk (shut_int Tryz.underlying3 w1) trodAll_mk0)), rfl, bel.frame _, fun h => by cases h⟩

theorem scenarioCut_over : Rows.scenarioCutRow.holds Tryz.pinned (OpenSpec.ofChange Rows.scenarioCutSpec) :=
  OpenClaim.holds_of_wide 6 Tryz.f6 rfl rfl rfl rfl rfl rfl rfl ⟨rfl, rfl, rfl, rfl, rfl⟩ rfl rfl rfl rfl rfl (by kernel_rfl) Tryz.func6 (by kernel_rfl)
    (of_decide_eq_true (by kernel_rfl)) (by unfold Func.isWrapper; first | (rw [if_pos (by decide +kernel)]; kernel_rfl) | (rw [if_neg (by decide +kernel)]; exact ⟨rfl, rfl⟩))
    (fun os started H enc _ => scenarioCut_lifted os started H enc)

theorem scenarioCut_holds : Rows.ScenarioCutCardSaid :=
  Claim7.holds_tied_plain_at .later [] [.data, .data, .data, .data, .sentinel, .sentinel, .pinned] true (true, "ad56d0d74317d7d29a88cd7d6ee526fd1d84a70b822a4bf7753bf90f46e7eb24") true scenarioCut_over (fun _ h => by cases h) (by kernel_rfl) (fun _ h => by cases h) scenarioCut_row_tie rfl ⟨rfl, rfl⟩ (by kernel_rfl) rfl
    (fun f fn hf hfn => by
      obtain rfl : f = 6 := Option.some.inj ((show Tryz.prog.funcNamed "timesync/timesynclaw56.ScenarioCut" = some 6 by kernel_rfl).symm.trans hf) |>.symm
      obtain rfl : fn = Tryz.f6 := (Option.some.inj (Tryz.func6.symm.trans hfn)).symm
      exact ⟨by kernel_rfl, fun j t ht => by
        rw [Tryz.params6] at ht
        have hm : t ∈ [27, 3] := by simpa using Array.mem_of_getElem? ht
        have hall : ([27, 3].all fun u => !Tryz.prog.wantsStandIn u) = true := by kernel_rfl
        exact (show Tryz.prog.wantsStandIn t = false by simpa using List.all_eq_true.1 hall t hm)⟩)
    (by kernel_rfl)
end Go.Proofs.YthmeifdgkodjlaaGreatDoor
