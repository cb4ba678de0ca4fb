/- The reference of layer 6: offset, change, TAI. Condition: the length. -/
import Derived.Test.YtnfejojakikeeaaGreatDoorQ6
namespace Go.Proofs.YtnfejojakikeeaaGreatDoor
open Go.RowKit

def OfsQ (w1 : World) (b utc : Int) (es : List Le) (v vi : Value) (wr : World) : Prop :=
  ∃ k : Nat, k ≤ es.length ∧ vi = .int .i64 k ∧ v = .int .i64 (ofsL b utc (es.take k)) ∧ Only [] w1 wr
set_option maxRecDepth 100000 in
set_option maxHeartbeats 1000000 in
theorem roffset {w : World} {p : Option Addr} {cap : Nat} {es : List Le} (b x utc : Int) (hv : VRow leC 2 w p es.length cap es) (hn : es.length ≤ 100000) :
    Calls Tryz.prog 31 #[.agg #[.int .i64 b, .int .i64 x, .slice p es.length cap], .int .i64 utc] w fun e w' => e = .returned (.int .i64 (ofsL b utc es)) ∧ Only [] w w' := by
  have HV := Lib.hid hv; clear hv
  go_enter Tryz.func31, Tryz.ntmps31
  go_upto_region 1 with (fail)
  refine alloc_abs (G := fun w0 => Code.wp _ _ _ _ w0) ?_
  intro w1 hb1 ho1 hs1
  have B1 := Lib.hid hb1; have O1 := Lib.hid ho1
  clear hb1 ho1 hs1
  have g0 := cell_got B1.out 0; have g1 := cell_got B1.out 1; have g2 := cell_got B1.out 2
  have l0 := got_lt B1.out
  go_wp2
  go_loopw [5, 6] (fun v vi wr => OfsQ w1 b utc es v vi wr) (fun _ vi _ => es.length - (intOf vi).toNat)
  case atStart => exact ⟨0, Nat.zero_le _, rfl, rfl, Only.refl _ _⟩
  case round =>
    obtain ⟨k, hk, rfl, rfl, ho⟩ := hrel
    have OO := Lib.hid ho; have OA := Lib.hid (O1.out.nil_trans ho); have B2 := Lib.hid (ho.got B1.out (by simp))
    clear ho g0 g1 g2 l0
    have g2 := cell_got B2.out 2
    have l0 := got_lt B2.out
    by_cases hlt : k < es.length
    · obtain ⟨bk, off, hp, c0, c1, lb⟩ := HV.out.pt OA.out hlt
      subst hp
      have hgk : es[k]? = some (es.getD k ⟨0, 0⟩) := by simp [List.getD_eq_getElem?_getD, hlt]
      have htk : ofsL b utc (es.take (k + 1)) = if (es.getD k ⟨0, 0⟩).a ≤ utc then (es.getD k ⟨0, 0⟩).o else ofsL b utc (es.take k) := by rw [List.take_add_one, hgk]; exact ofsL_snoc _ _ _ _
      generalize es.getD k ⟨0, 0⟩ = e at c0 c1 htk
      generalize ofsL b utc (es.take k) = z at htk ⊢
      have HTK := Lib.hid htk
      clear hgk htk
      have hkl : (k : Int) < (es.length : Int) := by omega
      have q1 : decide ((k : Int) < (es.length : Int)) = true := by simp [hlt]
      by_cases hle : e.a ≤ utc
      · have d1 : decide (e.a ≤ utc) = true := by simp [hle]
        have HX : Hid (ofsL b utc (es.take (k + 1)) = e.o) := Lib.hid (by rw [HTK.out, if_pos hle])
        clear hle
        go_wp2
        go_roundw
        case rel => exact ⟨k + 1, by omega, by go_num, by rw [HX.out], OO.out⟩
        case measure => simp [intOf]; omega
      · have d1 : decide (e.a ≤ utc) = false := by simpa using hle
        have HX : Hid (ofsL b utc (es.take (k + 1)) = z) := Lib.hid (by rw [HTK.out, if_neg hle])
        clear hle
        go_wp2
        go_roundw
        case rel => exact ⟨k + 1, by omega, by go_num, by rw [HX.out], OO.out⟩
        case measure => simp [intOf]; omega
    · rw [List.take_of_length_le (by omega)]
      have q1 : decide ((k : Int) < (es.length : Int)) = false := by simp; omega
      go_wp2
      go_ret
      exact ⟨rfl, OA.out⟩

set_option maxRecDepth 100000 in
set_option maxHeartbeats 1000000 in
theorem rchange {w : World} {p : Option Addr} {cap : Nat} {es : List Le} (b x utc : Int) (hv : VRow leC 2 w p es.length cap es) (hn : es.length ≤ 100000) (hb : inM b 1000 = true) (hr : ∀ e ∈ es, inM e.o 1000 = true) :
    Calls Tryz.prog 30 #[.agg #[.int .i64 b, .int .i64 x, .slice p es.length cap], .int .i64 utc] w fun e w' => e = .returned (.int .i64 (chg b utc es)) ∧ Only [] w w' := by
  have HV := Lib.hid hv; have HB := Lib.hid hb; have HR := Lib.hid hr; clear hv hb hr
  go_enter Tryz.func30, Tryz.ntmps30
  go_upto_region 1 with (fail)
  refine alloc_abs (G := fun w0 => Code.wp _ _ _ _ w0) ?_
  intro w1 hb1 ho1 hs1
  have B1 := Lib.hid hb1; have O1 := Lib.hid ho1
  clear hb1 ho1 hs1
  go_wp2
  go_loopw [5] (fun vi wr => ChgR w1 b utc es vi wr) (fun vi _ => es.length - (intOf vi).toNat)
  case atStart => exact ⟨0, Nat.zero_le _, rfl, rfl, Only.refl _ _⟩
  case round =>
    obtain ⟨k, hk, rfl, hch, ho⟩ := hrel
    have HC := Lib.hid hch; have OO := Lib.hid ho; have OA := Lib.hid (O1.out.nil_trans ho); have B2 := Lib.hid (ho.got B1.out (by simp))
    clear ho hch
    have g0 := cell_got B2.out 0; have g1 := cell_got B2.out 1; have g2 := cell_got B2.out 2
    have l0 := got_lt B2.out
    by_cases hlt : k < es.length
    · obtain ⟨bk, off, hp, c0, c1, lb⟩ := HV.out.pt OA.out hlt
      subst hp
      have hst : chg b utc es = if (es.getD k ⟨0, 0⟩).a = utc then (es.getD k ⟨0, 0⟩).o - prvO b es k else chgF b utc es (es.length - (k + 1)) (k + 1) := by
        rw [HC.out, show es.length - k = (es.length - (k + 1)) + 1 by omega]; rfl
      have hgk : es[k]? = some (es.getD k ⟨0, 0⟩) := by simp [List.getD_eq_getElem?_getD, hlt]
      have iob := inM_t.1 (HR.out _ (List.mem_of_getElem? hgk))
      have hpv : -1000 ≤ prvO b es k ∧ prvO b es k ≤ 1000 := by
        unfold prvO
        split
        · exact inM_t.1 HB.out
        · have hg1 : es[k - 1]? = some (es.getD (k - 1) ⟨0, 0⟩) := by simp [List.getD_eq_getElem?_getD, show k - 1 < es.length by omega]
          exact inM_t.1 (HR.out _ (List.mem_of_getElem? hg1))
      have hold := fun w' (ho' : Only [] w w') => rold b x (HV.out.kept ho') hn k hlt
      generalize es.getD k ⟨0, 0⟩ = e at c0 c1 hst iob
      generalize prvO b es k = pv at hst hpv hold
      have HST := Lib.hid hst; have HOL := Lib.hid hold
      clear hst HC hgk hold
      have hkl : (k : Int) < (es.length : Int) := by omega
      have q1 : decide ((k : Int) < (es.length : Int)) = true := by simp [hlt]
      by_cases heq : e.a = utc
      · have d1 : (e.a == utc) = true := by simp [heq]
        have HX : Hid (chg b utc es = e.o - pv) := Lib.hid (by rw [HST.out, if_pos heq])
        clear heq
        obtain ⟨pv0, pv1⟩ := hpv
        obtain ⟨io0, io1⟩ := iob
        have wp1 : IntKind.i64.wrap (e.o - pv) = e.o - pv := IntWalk.i64_in _ (by omega)
        go_wp2_with fail
        refine wp_region_grown [0, 1, 2, 3, 4, 5, 6, 7, 8, 9, 10] [] (by kernel_rfl) (by kernel_rfl) ?_
        simp only [pick, List.map_cons, List.map_nil, List.getD_cons_succ, List.getD_cons_zero]
        iterate 8 (refine wpQuiet_step (fun K hK => ?_); go_simp; refine hK _ ?_; clear hK K)
        refine wpQuiet_enter_w (by kernel_rfl) 27 #[.agg #[.int .i64 b, .int .i64 x, .slice (some ⟨bk, off, none⟩) es.length cap], .int .i64 k] (fun _ => by kernel_rfl) (.int .i64 pv) (grown_only2 fun w' ho' => HOL.out w' (OA.out.nil_trans ho')) ?_
        iterate 2 (refine wpQuiet_step (fun K hK => ?_); go_simp; refine hK _ ?_; clear hK K)
        refine wpQuiet_nil ?_
        intro w5 hw5
        have ho5 := only_of_plus hw5; clear hw5
        go_wp2
        go_ret
        exact ⟨by rw [HX.out]; rfl, OA.out.nil_trans ho5⟩
      · have d1 : (e.a == utc) = false := by simp [heq]
        have HX : Hid (chg b utc es = chgF b utc es (es.length - (k + 1)) (k + 1)) := Lib.hid (by rw [HST.out, if_neg heq])
        clear heq
        go_wp2
        go_roundw
        case rel => exact ⟨k + 1, by omega, by go_num, HX.out, OO.out⟩
        case measure => simp [intOf]; omega
    · have HX : Hid (chg b utc es = 0) := Lib.hid (by rw [HC.out, show es.length - k = 0 by omega]; rfl)
      have q1 : decide ((k : Int) < (es.length : Int)) = false := by simp; omega
      go_wp2
      go_ret
      exact ⟨by rw [HX.out]; rfl, OA.out⟩
set_option maxRecDepth 100000 in
set_option maxHeartbeats 2000000 in
theorem rTAI {w : World} {p : Option Addr} {n cap : Nat} {es : List Le} (b x utc : Int) (extra : Bool) (hv : VRow leC 2 w p n cap es) (hn : n ≤ 100000) :
    Calls Tryz.prog 11 #[.agg #[.int .i64 b, .int .i64 x, .slice p n cap], .int .i64 utc, .bool extra] w fun e w' => e = .returned (.tuple #[.int .i64 (taiR b x es utc extra).1, .int .i64 (taiR b x es utc extra).2]) ∧ Only [] w w' := by
  have hl := hv.len
  subst hl
  have HV := Lib.hid hv; clear hv
  go_enter Tryz.func11, Tryz.ntmps11
  go_wp2_with fail
  refine alloc_abs (G := fun w0 => Calls _ _ _ w0 _) ?_
  intro w1 hb1 ho1 hs1
  have B1 := Lib.hid hb1; have O1 := Lib.hid ho1
  clear hb1 ho1 hs1
  refine (rCheck b x (HV.out.kept O1.out) hn).mono ?_
  rintro e w2 ⟨rfl, ho2⟩
  have B2 := Lib.hid (ho2.got B1.out (by simp)); have O2 := Lib.hid (O1.out.nil_trans ho2)
  clear ho2 B1 O1
  have g0 := cell_got B2.out 0; have g1 := cell_got B2.out 1; have g2 := cell_got B2.out 2
  have l0 := got_lt B2.out
  by_cases hc : chkT b x es = 0
  · obtain ⟨_, cb, _, cr, _⟩ := chkT_ok hc
    have HCB := Lib.hid cb; have HCR := Lib.hid (fun e he => (cr e he).1)
    clear cb cr
    have HR : Hid (taiR b x es utc extra = if inM utc 8000000000 = true then (if (extra = true ∧ chg b (utc + 1) es ≠ 1) ∨ (extra = false ∧ chg b (utc + 1) es = -1) then (0, 11) else (utc + ofsL b utc es + (if extra then 1 else 0), 0)) else (0, 3)) := Lib.hid (by unfold taiR; rw [if_pos hc])
    rw [hc]
    clear hc
    have hwi := rin utc 8000000000 w2 (by omega) (by omega)
    by_cases hi : inM utc 8000000000 = true
    · rw [hi] at hwi
      have HWI := Lib.hid hwi
      have hib := inM_t.1 hi
      have HR2 : Hid (taiR b x es utc extra = if (extra = true ∧ chg b (utc + 1) es ≠ 1) ∨ (extra = false ∧ chg b (utc + 1) es = -1) then (0, 11) else (utc + ofsL b utc es + (if extra then 1 else 0), 0)) := Lib.hid (by rw [HR.out, if_pos hi])
      clear hwi hi HR
      have hob := inM_t.1 (ofsL_bd (utc := utc) (es := es) HCB.out HCR.out)
      have hch := fun w' (ho : Only [] w w') => rchange b x (utc + 1) (HV.out.kept ho) hn HCB.out HCR.out
      have hof := fun w' (ho : Only [] w w') => roffset b x utc (HV.out.kept ho) hn
      obtain ⟨cg, hcg⟩ : ∃ cg, cg = chg b (utc + 1) es := ⟨_, rfl⟩
      obtain ⟨og, hog⟩ : ∃ og, og = ofsL b utc es := ⟨_, rfl⟩
      rw [← hcg] at hch HR2
      rw [← hog] at hof hob HR2
      have HCH := Lib.hid hch; have HOF := Lib.hid hof
      clear hch hof hcg hog
      go_wp2_with fail
      refine HWI.out.mono ?_
      rintro e w' ⟨rfl, rfl⟩
      go_wp2_with fail
      refine (HCH.out w2 O2.out).mono ?_
      rintro e w3 ⟨rfl, ho3⟩
      have B3 := Lib.hid (ho3.got B2.out (by simp)); have O3 := Lib.hid (O2.out.nil_trans ho3)
      clear ho3 B2 O2 g0 g1 g2 l0
      have g0 := cell_got B3.out 0; have g1 := cell_got B3.out 1; have g2 := cell_got B3.out 2
      have l0 := got_lt B3.out
      cases extra with
      | true =>
        by_cases h1 : cg = 1
        · have q1 : (cg != 1) = false := by simp [h1]
          have q2 : (cg == 1) = true := by simp [h1]
          have HX : Hid (taiR b x es utc true = (utc + og + 1, 0)) := Lib.hid (by rw [HR2.out, if_neg (by simp [h1])]; rfl)
          clear h1
          go_wp2_with fail
          refine (HOF.out w3 O3.out).mono ?_
          rintro e w4 ⟨rfl, ho4⟩
          go_wp2
          go_ret2
          exact ⟨by rw [HX.out]; rfl, O3.out.nil_trans ho4⟩
        · have q1 : (cg != 1) = true := by simp [h1]
          have q2 : (cg == 1) = false := by simp [h1]
          have HX : Hid (taiR b x es utc true = (0, 11)) := Lib.hid (by rw [HR2.out, if_pos (.inl ⟨rfl, h1⟩)])
          clear h1
          go_wp2
          go_ret2
          exact ⟨by rw [HX.out]; rfl, O3.out⟩
      | false =>
        by_cases h1 : cg = -1
        · have q1 : (cg == -1) = true := by simp [h1]
          have HX : Hid (taiR b x es utc false = (0, 11)) := Lib.hid (by rw [HR2.out, if_pos (.inr ⟨rfl, h1⟩)])
          clear h1
          go_wp2
          go_ret2
          exact ⟨by rw [HX.out]; rfl, O3.out⟩
        · have q1 : (cg == -1) = false := by simp [h1]
          have HX : Hid (taiR b x es utc false = (utc + og, 0)) := Lib.hid (by rw [HR2.out, if_neg (by simp [h1])]; simp)
          clear h1
          go_wp2_with fail
          refine (HOF.out w3 O3.out).mono ?_
          rintro e w4 ⟨rfl, ho4⟩
          go_wp2
          go_ret2
          exact ⟨by rw [HX.out]; rfl, O3.out.nil_trans ho4⟩
    · have hi2 : inM utc 8000000000 = false := by simpa using hi
      rw [hi2] at hwi
      have HWI := Lib.hid hwi
      have HX : Hid (taiR b x es utc extra = (0, 3)) := Lib.hid (by rw [HR.out, if_neg hi])
      clear hwi hi hi2
      go_wp2_with fail
      refine HWI.out.mono ?_
      rintro e w' ⟨rfl, rfl⟩
      go_wp2
      go_ret2
      exact ⟨by rw [HX.out]; rfl, O2.out⟩
  · have HX : Hid (taiR b x es utc extra = (0, chkT b x es)) := Lib.hid (by unfold taiR; rw [if_neg hc])
    have b1 : (chkT b x es == 0) = false := by simp [hc]
    have b2 : (chkT b x es != 0) = true := by simp [hc]
    clear hc
    go_wp2
    go_ret2
    exact ⟨by rw [HX.out]; rfl, O2.out⟩
end Go.Proofs.YtnfejojakikeeaaGreatDoor
