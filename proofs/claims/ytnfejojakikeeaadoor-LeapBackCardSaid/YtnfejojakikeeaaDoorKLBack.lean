/- LeapBack: a valid table is parsed from its text as it was; whatever is parsed is valid and is parsed from its own text again, for every table and every text. Conditions: those of the given row. -/
import Derived.Test.YtnfejojakikeeaaDoorKs
namespace Go.Proofs.YtnfejojakikeeaaDoor
open Go.ChangeShapes Go.WideShapes Go.ChangeAt Go.RowKit

theorem txT_len {b x : Int} {es : List Le} (h : chkT b x es = 0) : (bstr (txT b x es)).size ≤ 90000 := by
  obtain ⟨h0, hb, hx, hr, _⟩ := chkT_ok h
  have h1 := hdT_len hb hx
  have h2 := bodT_len hr
  rw [bstr_size]
  unfold txT
  rw [List.length_append]; omega
theorem back_txt {w : World} {p : Option Addr} {n cap : Nat} {es : List Le} (b x : Int) (hc : chkT b x es = 0) (hv : VRow leC 2 w p n cap es) (he : Env w) (hd : Mdy w) :
    ∃ X : ByteArray, Hid (Calls Tryd.prog 14 #[.agg #[.int .i64 b, .int .i64 x, .slice p n cap]] w fun e w' => e = .returned (.string X) ∧ Only [] w w') ∧
      Hid (∀ w1, Env w1 → Mdy w1 → Calls Tryd.prog 13 #[.string X] w1 fun e w' => (∃ p1 cap1, e = .returned (.tuple #[.agg #[.int .i64 b, .int .i64 x, .slice p1 n cap1], .int .i64 0]) ∧ VRow leC 2 w' p1 n cap1 es) ∧ Only [] w1 w') := by
  have hl := hv.len
  have h64 := (chkT_ok hc).1
  have h1 := kText b x hv (by omega) hd he.tab
  rw [show txtK b x es = txT b x es by unfold txtK; rw [if_pos hc]] at h1
  refine ⟨_, Lib.hid h1, Lib.hid fun w1 he1 hd1 => ?_⟩
  have h2 := kParse (bstr (txT b x es)) (txT b x es) rfl (txT_len hc) w1 he1 hd1
  rw [text_backK hc] at h2
  rw [← hl]
  exact h2
set_option maxRecDepth 100000 in
set_option maxHeartbeats 6000000 in
theorem back_walk {w : World} {p : Option Addr} {n cap : Nat} {es : List Le} (b x : Int) (X : ByteArray) (hv : VRow leC 2 w p n cap es) (he : Env w) (hd : Mdy w) :
    Calls Tryd.prog 5 #[.agg #[.int .i64 b, .int .i64 x, .slice p n cap], .string X] w fun e w' => e = .returned (.bool true) ∧ Only [] w w' := by
  have HV := Lib.hid hv; have HE := Lib.hid he; have HD := Lib.hid hd; have HN := Lib.hid (vrow_n hv)
  clear he hd
  go_enter Tryd.func5, Tryd.ntmps5
  go_upto_region 1 with (fail)
  refine alloc_abs (G := fun w0 => Code.wp _ _ _ _ w0) ?_
  intro w1 hb1 ho1 hs1
  have B1 := Lib.hid hb1; have O1 := Lib.hid ho1
  clear hb1 ho1 hs1
  have g0 := cell_got B1.out 0; have g1 := cell_got B1.out 1; have g2 := cell_got B1.out 2; have l0 := got_lt B1.out
  go_wp2_with fail
  refine (ksmall b x p n cap HN.out).mono ?_
  rintro e w2 ⟨rfl, ho2⟩
  have B2 := Lib.hid (ho2.got B1.out (by simp)); have O2 := Lib.hid (O1.out.nil_trans ho2)
  clear ho2 g0 g1 g2 l0
  have g0 := cell_got B2.out 0; have g1 := cell_got B2.out 1; have g2 := cell_got B2.out 2; have l0 := got_lt B2.out
  by_cases h70 : n ≤ 70
  · rw [decide_eq_true h70]
    have hn : n ≤ 100000 := by omega
    clear h70
    by_cases h3 : 3000 < X.size
    · have d1 : decide ((X.size : Int) > 3000) = true := by simp; omega
      have d2 : decide (3000 < (X.size : Int)) = true := by simp; omega
      go_wp2_with fail
      refine (awake_any w2 (HE.out.kept O2.out) (HD.out.kept O2.out)).mono ?_
      rintro e w3 ⟨rfl, ho3⟩
      go_wp2
      go_ret
      exact ⟨rfl, O2.out.nil_trans ho3⟩
    · have d1 : decide ((X.size : Int) > 3000) = false := by simp; omega
      have d2 : decide (3000 < (X.size : Int)) = false := by simp; omega
      go_wp2_with fail
      refine (kcheck b x (HV.out.kept O2.out) hn (HD.out.kept O2.out)).mono ?_
      rintro e w3 ⟨rfl, ho3⟩
      have B3 := Lib.hid (ho3.got B2.out (by simp)); have O3 := Lib.hid (O2.out.nil_trans ho3)
      clear ho3 g0 g1 g2 l0
      have g0 := cell_got B3.out 0; have g1 := cell_got B3.out 1; have g2 := cell_got B3.out 2; have l0 := got_lt B3.out
      have HPX := Lib.hid (fun w1 he1 hd1 => kParse X X.data.toList rfl (by omega) w1 he1 hd1)
      have hpo := prsK_ok (s := X.data.toList)
      have hpb := prsK_bad (s := X.data.toList)
      generalize prsK X.data.toList = R at HPX hpo hpb
      obtain ⟨⟨b2, x2, es2⟩, f⟩ := R
      simp only at hpo hpb
      have HPO := Lib.hid hpo; have HPB := Lib.hid hpb
      clear hpo hpb h3 d1 d2
      by_cases hc : chkT b x es = 0
      · obtain ⟨TX, HTX, HPT⟩ := back_txt b x hc (HV.out.kept O3.out) (HE.out.kept O3.out) (HD.out.kept O3.out)
        rw [hc]
        clear hc
        go_wp2_with fail
        refine (HTX.out).mono ?_
        rintro e w4 ⟨rfl, ho4⟩
        have B4 := Lib.hid (ho4.got B3.out (by simp)); have O4 := Lib.hid (O3.out.nil_trans ho4)
        clear ho4 g0 g1 g2 l0
        have g0 := cell_got B4.out 0; have g1 := cell_got B4.out 1; have g2 := cell_got B4.out 2; have l0 := got_lt B4.out
        go_wp2_with fail
        refine (HPT.out w4 (HE.out.kept O4.out) (HD.out.kept O4.out)).mono ?_
        rintro e w5 ⟨⟨p5, cap5, rfl, hv5⟩, ho5⟩
        have B5 := Lib.hid (ho5.got B4.out (by simp)); have O5 := Lib.hid (O4.out.nil_trans ho5); have VQ5 := Lib.hid hv5
        clear ho5 hv5 g0 g1 g2 l0
        go_upto_region 5 with (fail)
        refine alloc_abs (G := fun w0 => Code.wp _ _ _ _ w0) ?_
        intro w6 hb6 ho6 hs6
        have B6 := Lib.hid (ho6.got B5.out (by simp)); have O6 := Lib.hid (O5.out.nil_trans ho6); have Q6 := Lib.hid hb6; have VQ6 := Lib.hid (VQ5.out.kept ho6)
        clear hb6 ho6 hs6
        have g0 := cell_got B6.out 0; have g1 := cell_got B6.out 1; have g2 := cell_got B6.out 2; have l0 := got_lt B6.out
        have q0 := cell_got Q6.out 0; have q1 := cell_got Q6.out 1; have q2 := cell_got Q6.out 2; have lq := got_lt Q6.out
        have hsm := ksame b x b x VQ6.out (HV.out.kept O6.out) hn hn
        rw [decide_eq_true ⟨rfl, rfl, rfl⟩] at hsm
        have HSM := Lib.hid hsm
        clear hsm
        clear VQ5
        go_wp2_with fail
        refine (HSM.out).mono ?_
        rintro e w7 ⟨rfl, ho7⟩
        have B7 := Lib.hid (ho7.got B6.out (by simp)); have O7 := Lib.hid (O6.out.nil_trans ho7)
        clear ho7 g0 g1 g2 l0
        have g0 := cell_got B7.out 0; have g1 := cell_got B7.out 1; have g2 := cell_got B7.out 2; have l0 := got_lt B7.out
        clear q0 q1 q2 lq
        go_wp2_with fail
        refine (HPX.out w7 (HE.out.kept O7.out) (HD.out.kept O7.out)).mono ?_
        rintro e w8 ⟨⟨p8, cap8, rfl, hv8⟩, ho8⟩
        simp only at hv8 ⊢
        have B8 := Lib.hid (ho8.got B7.out (by simp)); have O8 := Lib.hid (O7.out.nil_trans ho8); have VR8 := Lib.hid hv8
        clear ho8 hv8 g0 g1 g2 l0
        go_upto_region 10 with (fail)
        refine alloc_abs (G := fun w0 => Code.wp _ _ _ _ w0) ?_
        intro w9 hb9 ho9 hs9
        have B9 := Lib.hid (ho9.got B8.out (by simp)); have O9 := Lib.hid (O8.out.nil_trans ho9); have R9 := Lib.hid hb9; have VR9 := Lib.hid (VR8.out.kept ho9)
        clear hb9 ho9 hs9 VR8
        have r0 := cell_got R9.out 0; have r1 := cell_got R9.out 1; have r2 := cell_got R9.out 2; have lr := got_lt R9.out
        by_cases h0 : f = 0
        · subst h0
          have hck : chkT b2 x2 es2 = 0 := HPO.out rfl
          have hn2 : es2.length ≤ 100000 := by have := (chkT_ok hck).1; omega
          obtain ⟨TY, HTY, HPU⟩ := back_txt b2 x2 hck VR9.out (HE.out.kept O9.out) (HD.out.kept O9.out)
          have hk := fun w1 (h : VRow leC 2 w1 p8 es2.length cap8 es2) hd1 => kcheck b2 x2 h hn2 hd1
          rw [hck] at hk
          have HCK := Lib.hid hk
          clear hk hck
          go_wp2_with fail
          refine (HTY.out).mono ?_
          rintro e w10 ⟨rfl, ho10⟩
          have O10 := Lib.hid (O9.out.nil_trans ho10); have R10 := Lib.hid (ho10.got R9.out (by simp)); have VR10 := Lib.hid (VR9.out.kept ho10)
          clear ho10 r0 r1 r2 lr
          have r0 := cell_got R10.out 0; have r1 := cell_got R10.out 1; have r2 := cell_got R10.out 2; have lr := got_lt R10.out
          go_wp2_with fail
          refine (HPU.out w10 (HE.out.kept O10.out) (HD.out.kept O10.out)).mono ?_
          rintro e w11 ⟨⟨p11, cap11, rfl, hv11⟩, ho11⟩
          have O11 := Lib.hid (O10.out.nil_trans ho11); have R11 := Lib.hid (ho11.got R10.out (by simp)); have VR11 := Lib.hid (VR10.out.kept ho11); have VS11 := Lib.hid hv11
          clear ho11 r0 r1 r2 lr
          have r0 := cell_got R11.out 0; have r1 := cell_got R11.out 1; have r2 := cell_got R11.out 2; have lr := got_lt R11.out
          clear hv11
          go_upto_region 13 with (fail)
          refine alloc_abs (G := fun w0 => Code.wp _ _ _ _ w0) ?_
          intro w12 hb12 ho12 hs12
          have O12 := Lib.hid (O11.out.nil_trans ho12); have R12 := Lib.hid (ho12.got R11.out (by simp)); have VR12 := Lib.hid (VR11.out.kept ho12); have VS12 := Lib.hid (VS11.out.kept ho12); have S12 := Lib.hid hb12
          clear ho12 r0 r1 r2 lr
          have r0 := cell_got R12.out 0; have r1 := cell_got R12.out 1; have r2 := cell_got R12.out 2; have lr := got_lt R12.out
          clear hb12 hs12 VS11
          have s0 := cell_got S12.out 0; have s1 := cell_got S12.out 1; have s2 := cell_got S12.out 2; have ls := got_lt S12.out
          go_wp2_with fail
          refine (HCK.out w12 VR12.out (HD.out.kept O12.out)).mono ?_
          rintro e w13 ⟨rfl, ho13⟩
          have O13 := Lib.hid (O12.out.nil_trans ho13); have R13 := Lib.hid (ho13.got R12.out (by simp)); have VR13 := Lib.hid (VR12.out.kept ho13); have VS13 := Lib.hid (VS12.out.kept ho13); have S13 := Lib.hid (ho13.got S12.out (by simp))
          clear ho13 r0 r1 r2 lr
          have r0 := cell_got R13.out 0; have r1 := cell_got R13.out 1; have r2 := cell_got R13.out 2; have lr := got_lt R13.out
          clear s0 s1 s2 ls VS12
          have s0 := cell_got S13.out 0; have s1 := cell_got S13.out 1; have s2 := cell_got S13.out 2; have ls := got_lt S13.out
          have hsm := ksame b2 x2 b2 x2 VR13.out VS13.out hn2 hn2
          rw [decide_eq_true ⟨rfl, rfl, rfl⟩] at hsm
          have HSN := Lib.hid hsm
          clear hsm
          go_wp2_with fail
          refine (HSN.out).mono ?_
          rintro e w14 ⟨rfl, ho14⟩
          have O14 := Lib.hid (O13.out.nil_trans ho14)
          go_wp2_with fail
          refine (awake_any w14 (HE.out.kept O14.out) (HD.out.kept O14.out)).mono ?_
          rintro e w15 ⟨rfl, ho15⟩
          go_wp2
          go_ret
          exact ⟨rfl, O14.out.nil_trans ho15⟩
        · have b2 : (f != 0) = true := by simp [h0]
          have hz := HPB.out h0
          simp only [Prod.mk.injEq] at hz
          obtain ⟨rfl, rfl, rfl⟩ := hz
          clear h0
          simp only [List.length_nil] at r2 ⊢
          have hsm := ksame 0 0 0 0 VR9.out (vrow_nil w9) (by decide) (by decide)
          rw [decide_eq_true ⟨rfl, rfl, rfl⟩] at hsm
          simp only [List.length_nil] at hsm
          have HSN := Lib.hid hsm
          clear hsm
          go_wp2_with fail
          refine (HSN.out).mono ?_
          rintro e w10 ⟨rfl, ho10⟩
          have O10 := Lib.hid (O9.out.nil_trans ho10)
          go_wp2_with fail
          refine (awake_any w10 (HE.out.kept O10.out) (HD.out.kept O10.out)).mono ?_
          rintro e w11 ⟨rfl, ho11⟩
          go_wp2
          go_ret
          exact ⟨rfl, O10.out.nil_trans ho11⟩
      · have b1 : (chkT b x es == 0) = false := by simp [hc]
        have htx := kText b x (HV.out.kept O3.out) hn (HD.out.kept O3.out) (HE.out.kept O3.out).tab
        rw [show txtK b x es = [] by unfold txtK; rw [if_neg hc], show bstr [] = ⟨#[]⟩ from rfl] at htx
        have HTX := Lib.hid htx
        clear htx hc
        go_wp2_with fail
        refine (HTX.out).mono ?_
        rintro e w4 ⟨rfl, ho4⟩
        have B4 := Lib.hid (ho4.got B3.out (by simp)); have O4 := Lib.hid (O3.out.nil_trans ho4)
        clear ho4 g0 g1 g2 l0
        have g0 := cell_got B4.out 0; have g1 := cell_got B4.out 1; have g2 := cell_got B4.out 2; have l0 := got_lt B4.out
        go_wp2_with fail
        refine (HPX.out w4 (HE.out.kept O4.out) (HD.out.kept O4.out)).mono ?_
        rintro e w5 ⟨⟨p5, cap5, rfl, hv5⟩, ho5⟩
        simp only at hv5 ⊢
        have B5 := Lib.hid (ho5.got B4.out (by simp)); have O5 := Lib.hid (O4.out.nil_trans ho5); have VR5 := Lib.hid hv5
        clear ho5 hv5 g0 g1 g2 l0
        go_upto_region 10 with (fail)
        refine alloc_abs (G := fun w0 => Code.wp _ _ _ _ w0) ?_
        intro w6 hb6 ho6 hs6
        have B6 := Lib.hid (ho6.got B5.out (by simp)); have O6 := Lib.hid (O5.out.nil_trans ho6); have R6 := Lib.hid hb6; have VR6 := Lib.hid (VR5.out.kept ho6)
        clear hb6 ho6 hs6 VR5
        have r0 := cell_got R6.out 0; have r1 := cell_got R6.out 1; have r2 := cell_got R6.out 2; have lr := got_lt R6.out
        by_cases h0 : f = 0
        · subst h0
          have hck : chkT b2 x2 es2 = 0 := HPO.out rfl
          have hn2 : es2.length ≤ 100000 := by have := (chkT_ok hck).1; omega
          obtain ⟨TY, HTY, HPU⟩ := back_txt b2 x2 hck VR6.out (HE.out.kept O6.out) (HD.out.kept O6.out)
          have hk := fun w1 (h : VRow leC 2 w1 p5 es2.length cap5 es2) hd1 => kcheck b2 x2 h hn2 hd1
          rw [hck] at hk
          have HCK := Lib.hid hk
          clear hk hck
          go_wp2_with fail
          refine (HTY.out).mono ?_
          rintro e w7 ⟨rfl, ho7⟩
          have O7 := Lib.hid (O6.out.nil_trans ho7); have R7 := Lib.hid (ho7.got R6.out (by simp)); have VR7 := Lib.hid (VR6.out.kept ho7)
          clear ho7 r0 r1 r2 lr
          have r0 := cell_got R7.out 0; have r1 := cell_got R7.out 1; have r2 := cell_got R7.out 2; have lr := got_lt R7.out
          go_wp2_with fail
          refine (HPU.out w7 (HE.out.kept O7.out) (HD.out.kept O7.out)).mono ?_
          rintro e w8 ⟨⟨p8, cap8, rfl, hv8⟩, ho8⟩
          have O8 := Lib.hid (O7.out.nil_trans ho8); have R8 := Lib.hid (ho8.got R7.out (by simp)); have VR8 := Lib.hid (VR7.out.kept ho8); have VS8 := Lib.hid hv8
          clear ho8 r0 r1 r2 lr
          have r0 := cell_got R8.out 0; have r1 := cell_got R8.out 1; have r2 := cell_got R8.out 2; have lr := got_lt R8.out
          clear hv8
          go_upto_region 13 with (fail)
          refine alloc_abs (G := fun w0 => Code.wp _ _ _ _ w0) ?_
          intro w9 hb9 ho9 hs9
          have O9 := Lib.hid (O8.out.nil_trans ho9); have R9 := Lib.hid (ho9.got R8.out (by simp)); have VR9 := Lib.hid (VR8.out.kept ho9); have VS9 := Lib.hid (VS8.out.kept ho9); have S9 := Lib.hid hb9
          clear ho9 r0 r1 r2 lr
          have r0 := cell_got R9.out 0; have r1 := cell_got R9.out 1; have r2 := cell_got R9.out 2; have lr := got_lt R9.out
          clear hb9 hs9 VS8
          have s0 := cell_got S9.out 0; have s1 := cell_got S9.out 1; have s2 := cell_got S9.out 2; have ls := got_lt S9.out
          go_wp2_with fail
          refine (HCK.out w9 VR9.out (HD.out.kept O9.out)).mono ?_
          rintro e w10 ⟨rfl, ho10⟩
          have O10 := Lib.hid (O9.out.nil_trans ho10); have R10 := Lib.hid (ho10.got R9.out (by simp)); have VR10 := Lib.hid (VR9.out.kept ho10); have VS10 := Lib.hid (VS9.out.kept ho10); have S10 := Lib.hid (ho10.got S9.out (by simp))
          clear ho10 r0 r1 r2 lr
          have r0 := cell_got R10.out 0; have r1 := cell_got R10.out 1; have r2 := cell_got R10.out 2; have lr := got_lt R10.out
          clear s0 s1 s2 ls VS9
          have s0 := cell_got S10.out 0; have s1 := cell_got S10.out 1; have s2 := cell_got S10.out 2; have ls := got_lt S10.out
          have hsm := ksame b2 x2 b2 x2 VR10.out VS10.out hn2 hn2
          rw [decide_eq_true ⟨rfl, rfl, rfl⟩] at hsm
          have HSN := Lib.hid hsm
          clear hsm
          go_wp2_with fail
          refine (HSN.out).mono ?_
          rintro e w11 ⟨rfl, ho11⟩
          have O11 := Lib.hid (O10.out.nil_trans ho11)
          go_wp2_with fail
          refine (awake_any w11 (HE.out.kept O11.out) (HD.out.kept O11.out)).mono ?_
          rintro e w12 ⟨rfl, ho12⟩
          go_wp2
          go_ret
          exact ⟨rfl, O11.out.nil_trans ho12⟩
        · have b2 : (f != 0) = true := by simp [h0]
          have hz := HPB.out h0
          simp only [Prod.mk.injEq] at hz
          obtain ⟨rfl, rfl, rfl⟩ := hz
          clear h0
          simp only [List.length_nil] at r2 ⊢
          have hsm := ksame 0 0 0 0 VR6.out (vrow_nil w6) (by decide) (by decide)
          rw [decide_eq_true ⟨rfl, rfl, rfl⟩] at hsm
          simp only [List.length_nil] at hsm
          have HSN := Lib.hid hsm
          clear hsm
          go_wp2_with fail
          refine (HSN.out).mono ?_
          rintro e w7 ⟨rfl, ho7⟩
          have O7 := Lib.hid (O6.out.nil_trans ho7)
          go_wp2_with fail
          refine (awake_any w7 (HE.out.kept O7.out) (HD.out.kept O7.out)).mono ?_
          rintro e w8 ⟨rfl, ho8⟩
          go_wp2
          go_ret
          exact ⟨rfl, O7.out.nil_trans ho8⟩
  · rw [decide_eq_false h70]
    clear h70
    go_wp2_with fail
    refine (awake_any w2 (HE.out.kept O2.out) (HD.out.kept O2.out)).mono ?_
    rintro e w3 ⟨rfl, ho3⟩
    go_wp2
    go_ret
    exact ⟨rfl, O2.out.nil_trans ho3⟩

set_option maxRecDepth 100000 in
theorem leapBack_lifted (os : Os) (started : os.Started) (H : Type) (enc : TypeId × Value → H) :
    ReturnsInHanded {} Tryd.checked os 5 .any (fun w args => (Rows.leapBackSpec.pre enc Tryd.prog Tryd.f5 Rows.leapBackRow.domain false w args ∧ laidMetH Tryd.prog Rows.leapBackRow.laid w) ∧ sizedMet enc Tryd.prog Tryd.f5 (OpenSpec.ofChange Rows.leapBackSpec) false w args)
      (Rows.leapBackSpec.post enc Tryd.prog Tryd.f5 false true false false) := by
  refine returnsInHanded_of_change_and_shaped (C := Tryd.checked) (X := fun w _ => laidMetH Tryd.prog Rows.leapBackRow.laid w) (fun _ _ _ hh h => h.of_heap hh) law_own started (by kernel_rfl) Tryd.func5
    (ChangeSpec.witness_shaped (enc := enc) (C := Tryd.checked) (os := os) (X := fun w _ => laidMetH Tryd.prog Rows.leapBackRow.laid w) false (World.laidAll Tryd.prog os Rows.leapBackRow.laid) #[.agg #[.int .i64 0, .int .i64 0, .slice none 0 0], .string ⟨#[]⟩] 8 (World.laidAll_os _ _ _)
      (World.shaped_of_ZipB (by kernel_rfl) (by kernel_rfl)) (by kernel_rfl) (by kernel_rfl) (by kernel_rfl)
      (by rw [MakeChecks.laidMetH_plain _ _ _ (by kernel_rfl)]; exact laidMet_laidAll _ (by kernel_rfl) (by kernel_rfl))) ?_
  intro W base args ds gs before hval0 hW hcnd _ hL hsh _
  have hval : ∀ (j : Nat) t v, Tryd.f5.params[j]? = some t → args[j]? = some v → Value.okWide Tryd.prog W .any base t v := hval0
  have hW' := hW
  obtain ⟨p, q, hA0, hV, rfl, hfz, hnd⟩ := hW
  have hA : DataW.TrodAll enc Tryd.prog W 0 (fun _ => true) true Tryd.f5.params.toList args.toList ds p := hA0
  rw [Tryd.params5] at hA hval
  obtain ⟨v0, vs0, d0, ds0, p0, q0, hargs, rfl, rfl, h0, r0⟩ := trodAll_cons hA
  obtain ⟨v1, vs1, d1, ds1, p1, q1, rfl, rfl, rfl, h1, r1⟩ := trodAll_cons r0
  obtain ⟨rfl, rfl, rfl⟩ := trodAll_nil r1
  obtain rfl : args = #[v0, v1] := by cases args; simp_all
  obtain ⟨rfl, rfl⟩ := trodVars_none hV
  have k0 := h0
  have lt0 : ∀ x ∈ p0, x.block < W.heap.size := by obtain ⟨m, hm⟩ := k0; exact DataW.trod_lt m _ _ _ hm
  obtain ⟨c00, c01, c02, y00, y01, y02, m0, rfl, _, _, hy00, hy01, hy02⟩ := Joins.open_agg3 Tryd.underlying24 (by kernel_rfl) (by kernel_rfl) (hval 0 24 v0 rfl rfl) h0
  obtain ⟨b0, eb0, _, wb0⟩ := DataW.trod_int Tryd.underlying3 hy00
  obtain ⟨x0, ex0, _, wx0⟩ := DataW.trod_int Tryd.underlying3 hy01
  simp at eb0 ex0
  subst eb0 ex0
  obtain ⟨p0', n0, cap0, ec02⟩ := Joins.slice_form Tryd.underlying22 hy02
  simp at ec02
  subst ec02
  obtain ⟨z0, w0⟩ := vrow_les (p := p0') (n := n0) (cap := cap0) ⟨m0, hy02⟩
  have k1 := h1
  have lt1 : ∀ x ∈ p1, x.block < W.heap.size := by obtain ⟨m, hm⟩ := k1; exact DataW.trod_lt m _ _ _ hm
  obtain ⟨a1, rfl, _, _, w1⟩ := Go.ChangeMaps.open_string Tryd.underlying9 (hval 1 9 v1 rfl rfl) h1
  clear hA0 hval0
  refine (back_walk b0 x0 a1 w0 (env_of_laid (by kernel_rfl) (by simp [Rows.leapBackRow]) (by simp [Rows.leapBackRow]) (by simp [Rows.leapBackRow]) hL hsh) (mdy_of_laid (by kernel_rfl) (by simp [Rows.leapBackRow]) hL)).mono fun e W' ⟨he, ho⟩ => ?_
  subst he
  have bel : Below W.heap.size W W' := ho.nil_below
  exact ⟨_, rfl, _, _, _, [], _, [], hW', trodAll_mk1 (shut_bool Tryd.underlying4 _), (trodAll_cons_mk (Below.trod law_laidOut (by kernel_rfl) (of_decide_eq_true (by kernel_rfl)) k0 bel lt0) (trodAll_cons_mk (Below.trod law_laidOut (by kernel_rfl) (of_decide_eq_true (by kernel_rfl)) k1 bel lt1) trodAll_mk0)), rfl, bel.frame _, fun h => by cases h⟩

theorem leapBack_over : Rows.leapBackRow.holds Tryd.pinned (OpenSpec.ofChange Rows.leapBackSpec) :=
  OpenClaim.holds_of_wide 5 Tryd.f5 rfl rfl rfl rfl rfl rfl rfl ⟨rfl, rfl, rfl, rfl, rfl⟩ rfl rfl rfl rfl rfl (by kernel_rfl) Tryd.func5 (by kernel_rfl)
    (of_decide_eq_true (by kernel_rfl)) (by unfold Func.isWrapper; first | (rw [if_pos (by decide +kernel)]; kernel_rfl) | (rw [if_neg (by decide +kernel)]; exact ⟨rfl, rfl⟩))
    (fun os started H enc _ => leapBack_lifted os started H enc)

theorem leapBack_holds : Rows.LeapBackCardSaid :=
  Claim7.holds_tied_plain_at .later [] [.data, .data, .data, .data, .sentinel, .sentinel, .data, .pinned] true (true, "5732520129394a119826d989098d2e7a7d6df8f14fb532af2e1e32a7a3b67be6") true leapBack_over (fun _ h => by cases h) (by kernel_rfl) (fun _ h => by cases h) leapBack_row_tie rfl ⟨rfl, rfl⟩ (by kernel_rfl) rfl
    (fun f fn hf hfn => by
      obtain rfl : f = 5 := Option.some.inj ((show Tryd.prog.funcNamed "timesync/timesynclaw06.LeapBack" = some 5 by kernel_rfl).symm.trans hf) |>.symm
      obtain rfl : fn = Tryd.f5 := (Option.some.inj (Tryd.func5.symm.trans hfn)).symm
      exact ⟨by kernel_rfl, fun j t ht => by
        rw [Tryd.params5] at ht
        have hm : t ∈ [24, 9] := by simpa using Array.mem_of_getElem? ht
        have hall : ([24, 9].all fun u => !Tryd.prog.wantsStandIn u) = true := by kernel_rfl
        exact (show Tryd.prog.wantsStandIn t = false by simpa using List.all_eq_true.1 hall t hm)⟩)
    (by kernel_rfl)
end Go.Proofs.YtnfejojakikeeaaDoor
