/- Check of package leap: the error of a table. Condition: the table of the months is laid; the length. -/
import Derived.Test.YtnfejojakikeeaaGreatDoorK1
namespace Go.Proofs.YtnfejojakikeeaaGreatDoor
open Go.RowKit

/-- the At before an entry -/
def prvA (es : List Le) (i : Nat) : Int := (es.getD (i - 1) ⟨0, 0⟩).a
/-- the error of the entries from `i` on -/
def scanE (b : Int) (es : List Le) : Nat → Nat → Int
  | 0, _ => 0
  | f + 1, i => if mst (es.getD i ⟨0, 0⟩).a = false then 7 else if 0 < i ∧ (es.getD i ⟨0, 0⟩).a ≤ prvA es i then 12 else if stp b es i = 1 ∨ stp b es i = -1 then scanE b es f (i + 1) else 3
def rngE (es : List Le) : Bool := es.all fun e => inM e.o 1000 && inM e.a 8000000000
/-- the error of a table -/
def chkT (b x : Int) (es : List Le) : Int :=
  if 64 < es.length then 6 else if inM b 1000 = true ∧ inM x 8000000000 = true then (if rngE es = true then scanE b es es.length 0 else 3) else 3
def RngR (w : World) (es : List Le) (vi : Value) (wr : World) : Prop :=
  ∃ k : Nat, k ≤ es.length ∧ vi = .int .i64 k ∧ rngE (es.take k) = true ∧ Only [] w wr
def ScnR (w : World) (b : Int) (es : List Le) (vi : Value) (wr : World) : Prop :=
  ∃ k : Nat, k ≤ es.length ∧ vi = .int .i64 k ∧ scanE b es es.length 0 = scanE b es (es.length - k) k ∧ Only [] w wr

set_option maxRecDepth 100000 in
set_option maxHeartbeats 2000000 in
theorem kcheck {w : World} {p : Option Addr} {n cap : Nat} {es : List Le} (b x : Int) (hv : VRow leC 2 w p n cap es) (hn : n ≤ 100000) (hd : Mdy w) :
    Calls Tryz.prog 8 #[.agg #[.int .i64 b, .int .i64 x, .slice p n cap]] w fun e w' => e = .returned (.int .i64 (chkT b x es)) ∧ Only [] w w' := by
  have hl := hv.len
  subst hl
  have HV := Lib.hid hv; have HD := Lib.hid hd; clear hv hd
  go_enter Tryz.func8, Tryz.ntmps8
  go_upto_region 1 with (fail)
  refine alloc_abs (G := fun w0 => Code.wp _ _ _ _ w0) ?_
  intro w1 hb1 ho1 hs1
  have B1 := Lib.hid hb1; have O1 := Lib.hid ho1
  clear hb1 ho1 hs1
  have g0 := cell_got B1.out 0; have g1 := cell_got B1.out 1; have g2 := cell_got B1.out 2
  have l0 := got_lt B1.out
  by_cases h64 : 64 < es.length
  · have d1 : decide (64 < (es.length : Int)) = true := by simp; omega
    have d2 : decide (64 < es.length) = true := by simp; omega
    have HR : Hid (chkT b x es = 6) := Lib.hid (by unfold chkT; rw [if_pos h64])
    go_wp2
    go_ret
    exact ⟨by rw [HR.out]; rfl, O1.out⟩
  · have d1 : decide (64 < (es.length : Int)) = false := by simp; omega
    have d2 : decide (64 < es.length) = false := by simp; omega
    by_cases hb : inM b 1000 = true
    · have hwb := kwithin b 1000 w1 (by omega) (by omega)
      rw [hb] at hwb
      by_cases hx : inM x 8000000000 = true
      · have hwx := kwithin x 8000000000 w1 (by omega) (by omega)
        rw [hx] at hwx
        have HR : Hid (chkT b x es = if rngE es = true then scanE b es es.length 0 else 3) := Lib.hid (by unfold chkT; rw [if_neg h64, if_pos ⟨hb, hx⟩])
        have HWB := Lib.hid hwb; have HWX := Lib.hid hwx; have HIB := Lib.hid hb
        clear hwb hwx hb hx
        go_wp2_with fail
        refine HWB.out.mono ?_
        rintro e w' ⟨rfl, rfl⟩
        go_wp2_with fail
        refine HWX.out.mono ?_
        rintro e w' ⟨rfl, rfl⟩
        go_wp2
        go_loopw [25] (fun vi wr => RngR w1 es vi wr) (fun vi _ => es.length - (intOf vi).toNat)
        case atStart => exact ⟨0, Nat.zero_le _, rfl, rfl, Only.refl _ _⟩
        case round =>
          obtain ⟨k, hk, rfl, hrg, ho⟩ := hrel
          have HG := Lib.hid hrg; have OO := Lib.hid ho
          clear hrg ho g0 g1 g2 l0
          by_cases hlt : k < es.length
          · have OA := Lib.hid (O1.out.nil_trans OO.out)
            obtain ⟨bk, off, hp⟩ := HV.out.ptr hlt
            subst hp
            obtain ⟨c0, c1, lb⟩ := HV.out.ent OA.out rfl hlt
            have hgk : es[k]? = some (es.getD k ⟨0, 0⟩) := by simp [List.getD_eq_getElem?_getD, hlt]
            have htk : es.take (k + 1) = es.take k ++ [es.getD k ⟨0, 0⟩] := by rw [List.take_add_one, hgk]; rfl
            have hmem := List.mem_of_getElem? hgk
            generalize es.getD k ⟨0, 0⟩ = e at c0 c1 htk hmem
            have HTK := Lib.hid htk; have HME := Lib.hid hmem
            clear hgk htk hmem
            by_cases ho' : inM e.o 1000 = true
            · by_cases ha' : inM e.a 8000000000 = true
              · have HN : Hid (rngE (es.take (k + 1)) = true) := Lib.hid (by rw [HTK.out]; unfold rngE; rw [List.all_append]; have := HG.out; unfold rngE at this; simp [this, ho', ha'])
                have h1 := fun w' => kwithin e.o 1000 w' (by omega) (by omega)
                have h2 := fun w' => kwithin e.a 8000000000 w' (by omega) (by omega)
                rw [ho'] at h1; rw [ha'] at h2
                have H1 := Lib.hid h1; have H2 := Lib.hid h2
                clear h1 h2 ho' ha'
                go_wp2_with fail
                refine alloc_abs (G := fun w0 => Calls _ _ _ w0 _) ?_
                intro w2 hb2 ho2 hs2
                have B2 := Lib.hid hb2; have O2 := Lib.hid (OO.out.nil_trans ho2)
                clear hb2 ho2 hs2 c0 c1
                have c0 := cell_got B2.out 0; have c1 := cell_got B2.out 1
                have l2 := got_lt B2.out
                refine (H1.out w2).mono ?_
                rintro e w' ⟨rfl, rfl⟩
                go_wp2_with fail
                refine (H2.out w2).mono ?_
                rintro e w' ⟨rfl, rfl⟩
                go_wp2
                go_roundw
                case rel => exact ⟨k + 1, by omega, by go_num, HN.out, O2.out⟩
                case measure => simp [intOf]; omega
              · have ha2 : inM e.a 8000000000 = false := by simpa using ha'
                have HN : Hid (chkT b x es = 3) := Lib.hid (by rw [HR.out, if_neg]; intro q; unfold rngE at q; have := List.all_eq_true.1 q e HME.out; simp [ha2] at this)
                have h1 := fun w' => kwithin e.o 1000 w' (by omega) (by omega)
                have h2 := fun w' => kwithin e.a 8000000000 w' (by omega) (by omega)
                rw [ho'] at h1; rw [ha2] at h2
                have H1 := Lib.hid h1; have H2 := Lib.hid h2
                clear h1 h2 ho' ha' ha2
                go_wp2_with fail
                refine alloc_abs (G := fun w0 => Calls _ _ _ w0 _) ?_
                intro w2 hb2 ho2 hs2
                have B2 := Lib.hid hb2; have O2 := Lib.hid (OA.out.nil_trans ho2)
                clear hb2 ho2 hs2 c0 c1
                have c0 := cell_got B2.out 0; have c1 := cell_got B2.out 1
                have l2 := got_lt B2.out
                refine (H1.out w2).mono ?_
                rintro e w' ⟨rfl, rfl⟩
                go_wp2_with fail
                refine (H2.out w2).mono ?_
                rintro e w' ⟨rfl, rfl⟩
                go_wp2
                go_ret
                exact ⟨by rw [HN.out]; rfl, O2.out⟩
            · have ho2' : inM e.o 1000 = false := by simpa using ho'
              have HN : Hid (chkT b x es = 3) := Lib.hid (by rw [HR.out, if_neg]; intro q; unfold rngE at q; have := List.all_eq_true.1 q e HME.out; simp [ho2'] at this)
              have h1 := fun w' => kwithin e.o 1000 w' (by omega) (by omega)
              rw [ho2'] at h1
              have H1 := Lib.hid h1
              clear h1 ho' ho2'
              go_wp2_with fail
              refine alloc_abs (G := fun w0 => Calls _ _ _ w0 _) ?_
              intro w2 hb2 ho2 hs2
              have B2 := Lib.hid hb2; have O2 := Lib.hid (OA.out.nil_trans ho2)
              clear hb2 ho2 hs2 c0 c1
              refine (H1.out w2).mono ?_
              rintro e w' ⟨rfl, rfl⟩
              go_wp2
              go_ret
              exact ⟨by rw [HN.out]; rfl, O2.out⟩
          · have hrg : rngE es = true := by have := HG.out; rwa [List.take_of_length_le (by omega)] at this
            have HN : Hid (chkT b x es = scanE b es es.length 0) := Lib.hid (by rw [HR.out, if_pos hrg])
            have hall : ∀ e ∈ es, inM e.o 1000 = true ∧ inM e.a 8000000000 = true := fun e he => by
              unfold rngE at hrg
              have := List.all_eq_true.1 hrg e he
              simpa using this
            have HAL := Lib.hid hall
            clear hrg hall HG
            obtain ⟨wo, hwo⟩ : ∃ wo : World, wo = wr := ⟨_, rfl⟩
            subst hwo
            have BO := Lib.hid (OO.out.got B1.out (by simp))
            have g0 := cell_got BO.out 0; have g1 := cell_got BO.out 1; have g2 := cell_got BO.out 2
            have l0 := got_lt BO.out
            go_wp2
            go_loopw [43] (fun vi wr => ScnR wo b es vi wr) (fun vi _ => es.length - (intOf vi).toNat)
            case atStart => exact ⟨0, Nat.zero_le _, rfl, rfl, Only.refl _ _⟩
            case round =>
              clear hlt g0 g1 g2 l0
              obtain ⟨k, hk, rfl, hsc, ho⟩ := hrel
              have HS := Lib.hid hsc; have O3 := Lib.hid ho
              clear hsc ho
              have OA := Lib.hid ((O1.out.nil_trans OO.out).nil_trans O3.out)
              by_cases hlt : k < es.length
              · obtain ⟨bk, off, hp⟩ := HV.out.ptr hlt
                subst hp
                obtain ⟨c0, c1, lb⟩ := HV.out.ent OA.out rfl hlt
                have hgk : es[k]? = some (es.getD k ⟨0, 0⟩) := by simp [List.getD_eq_getElem?_getD, hlt]
                obtain ⟨io, ia⟩ := HAL.out _ (List.mem_of_getElem? hgk)
                have iab := inM_t.1 ia
                have hst : scanE b es es.length 0 = if mst (es.getD k ⟨0, 0⟩).a = false then 7 else if 0 < k ∧ (es.getD k ⟨0, 0⟩).a ≤ prvA es k then 12 else if stp b es k = 1 ∨ stp b es k = -1 then scanE b es (es.length - (k + 1)) (k + 1) else 3 := by
                  rw [HS.out, show es.length - k = (es.length - (k + 1)) + 1 by omega]; rfl
                have hmo := fun w' hd => kmonth (es.getD k ⟨0, 0⟩).a w' iab.1 iab.2 hd
                have hstp := fun w' (ho' : Only [] w w') => kstep b x (HV.out.kept ho') hn k hlt HIB.out (fun e he => (HAL.out e he).1)
                generalize es.getD k ⟨0, 0⟩ = e at c0 c1 hst hmo
                obtain ⟨ms, hms⟩ : ∃ ms, ms = mst e.a := ⟨_, rfl⟩
                rw [← hms] at hst hmo
                obtain ⟨st, hstv⟩ : ∃ st, st = stp b es k := ⟨_, rfl⟩
                rw [← hstv] at hst hstp
                have HST := Lib.hid hst; have HMO := Lib.hid hmo; have HSP := Lib.hid hstp
                clear hst hmo hstp hms hstv hgk io ia HS
                go_wp2_with fail
                refine alloc_abs (G := fun w0 => Calls _ _ _ w0 _) ?_
                intro w2 hb2 ho2 hs2
                have E2 := Lib.hid hb2; have O4 := Lib.hid (O3.out.nil_trans ho2); have OB := Lib.hid (OA.out.nil_trans ho2)
                clear hb2 ho2 hs2 c0 c1 OA O3
                refine (HMO.out w2 (HD.out.kept OB.out)).mono ?_
                rintro e' w3 ⟨rfl, ho3⟩
                have E3 := Lib.hid (ho3.got E2.out (by simp)); have O5 := Lib.hid (O4.out.nil_trans ho3); have OC := Lib.hid (OB.out.nil_trans ho3)
                clear ho3 E2 O4 OB HMO
                cases ms with
                | false =>
                  have HX : Hid (chkT b x es = 7) := Lib.hid (by rw [HN.out, HST.out]; rfl)
                  go_wp2
                  go_ret
                  exact ⟨by rw [HX.out]; rfl, OC.out⟩
                | true =>
                  have BT := Lib.hid (O5.out.got BO.out (by simp))
                  have t0 := cell_got BT.out 0; have t1 := cell_got BT.out 1; have t2 := cell_got BT.out 2
                  have lt := got_lt BT.out
                  have e0 := cell_got E3.out 0; have e1 := cell_got E3.out 1
                  have le := got_lt E3.out
                  have hord : ∀ (c : Prop) [Decidable c], (0 < k ∧ e.a ≤ prvA es k) = c → True := fun _ _ _ => trivial
                  clear hord
                  by_cases hor : 0 < k ∧ e.a ≤ prvA es k
                  · have HX : Hid (chkT b x es = 12) := Lib.hid (by rw [HN.out, HST.out, if_neg (by simp), if_pos hor])
                    obtain ⟨p0, p1, _⟩ := HV.out.ent OC.out rfl (show k - 1 < es.length by omega)
                    obtain ⟨hk0, hle⟩ := hor
                    unfold prvA at hle
                    generalize (es.getD (k - 1) ⟨0, 0⟩).a = pa at p0 hle
                    clear p1
                    have k1 : decide (0 < (k : Int)) = true := by simp; omega
                    have k2 : decide (0 < k) = true := by simp; omega
                    have k3 : decide (e.a ≤ pa) = true := by simp [hle]
                    have hi1 : (1 : Int) ≤ (k : Int) := by omega
                    have hi2 : (k : Int) - 1 < (es.length : Int) := by omega
                    have hi3 : IntKind.i64.wrap ((k : Int) - 1) = (k : Int) - 1 := IntWalk.i64_in _ (by omega)
                    have hi4 : ((k : Int) - 1).toNat = k - 1 := by omega
                    go_wp2_with fail
                    go_quiet (fail)
                    go_wp2
                    go_ret
                    exact ⟨by rw [HX.out]; rfl, OC.out.nil_trans (only_dr2 _ _)⟩
                  · have HST2 : Hid (scanE b es es.length 0 = if st = 1 ∨ st = -1 then scanE b es (es.length - (k + 1)) (k + 1) else 3) := Lib.hid (by rw [HST.out, if_neg (by simp), if_neg hor])
                    clear HST
                    by_cases hk0 : k = 0
                    · have k1 : decide (0 < (k : Int)) = false := by simp; omega
                      have k2 : decide (0 < k) = false := by simp; omega
                      clear hor hk0
                      go_wp2_with fail
                      go_quiet (fail)
                      go_wp2_with fail
                      refine (HSP.out _ (OC.out.nil_trans (only_dr2 _ _))).mono ?_
                      rintro e' w4 ⟨rfl, ho4⟩
                      have O6 := Lib.hid ((O5.out.nil_trans (only_dr2 _ _)).nil_trans ho4); have OD := Lib.hid ((OC.out.nil_trans (only_dr2 _ _)).nil_trans ho4)
                      clear ho4 t0 t1 t2 lt e0 e1 le
                      by_cases s1 : st = 1
                      · have q1 : (st != 1) = false := by simp [s1]
                        have q3 : (st == 1) = true := by simp [s1]
                        have HX : Hid (scanE b es es.length 0 = scanE b es (es.length - (k + 1)) (k + 1)) := Lib.hid (by rw [HST2.out, if_pos (.inl s1)])
                        clear s1
                        go_wp2
                        go_roundw
                        case rel => exact ⟨k + 1, by omega, by go_num, HX.out, O6.out⟩
                        case measure => simp [intOf]; omega
                      · have q1 : (st != 1) = true := by simp [s1]
                        by_cases s2 : st = -1
                        · have q2 : (st != -1) = false := by simp [s2]
                          have HX : Hid (scanE b es es.length 0 = scanE b es (es.length - (k + 1)) (k + 1)) := Lib.hid (by rw [HST2.out, if_pos (.inr s2)])
                          clear s1 s2
                          go_wp2
                          go_roundw
                          case rel => exact ⟨k + 1, by omega, by go_num, HX.out, O6.out⟩
                          case measure => simp [intOf]; omega
                        · have q2 : (st != -1) = true := by simp [s2]
                          have HX : Hid (chkT b x es = 3) := Lib.hid (by rw [HN.out, HST2.out, if_neg (by omega)])
                          clear s1 s2
                          go_wp2
                          go_ret
                          exact ⟨by rw [HX.out]; rfl, OD.out⟩
                    · obtain ⟨p0, p1, _⟩ := HV.out.ent OC.out rfl (show k - 1 < es.length by omega)
                      have hle : ¬ e.a ≤ prvA es k := fun q => hor ⟨by omega, q⟩
                      unfold prvA at hle
                      generalize (es.getD (k - 1) ⟨0, 0⟩).a = pa at p0 hle
                      clear p1
                      have k1 : decide (0 < (k : Int)) = true := by simp; omega
                      have k2 : decide (0 < k) = true := by simp; omega
                      have k3 : decide (e.a ≤ pa) = false := by simpa using hle
                      have hi1 : (1 : Int) ≤ (k : Int) := by omega
                      have hi2 : (k : Int) - 1 < (es.length : Int) := by omega
                      have hi3 : IntKind.i64.wrap ((k : Int) - 1) = (k : Int) - 1 := IntWalk.i64_in _ (by omega)
                      have hi4 : ((k : Int) - 1).toNat = k - 1 := by omega
                      clear hor hk0
                      go_wp2_with fail
                      go_quiet (fail)
                      clear hi3 hi4
                      go_wp2_with fail
                      refine (HSP.out _ (OC.out.nil_trans (only_dr2 _ _))).mono ?_
                      rintro e' w4 ⟨rfl, ho4⟩
                      have O6 := Lib.hid ((O5.out.nil_trans (only_dr2 _ _)).nil_trans ho4); have OD := Lib.hid ((OC.out.nil_trans (only_dr2 _ _)).nil_trans ho4)
                      clear ho4 t0 t1 t2 lt e0 e1 le
                      by_cases s1 : st = 1
                      · have q1 : (st != 1) = false := by simp [s1]
                        have q3 : (st == 1) = true := by simp [s1]
                        have HX : Hid (scanE b es es.length 0 = scanE b es (es.length - (k + 1)) (k + 1)) := Lib.hid (by rw [HST2.out, if_pos (.inl s1)])
                        clear s1
                        go_wp2
                        go_roundw
                        case rel => exact ⟨k + 1, by omega, by go_num, HX.out, O6.out⟩
                        case measure => simp [intOf]; omega
                      · have q1 : (st != 1) = true := by simp [s1]
                        by_cases s2 : st = -1
                        · have q2 : (st != -1) = false := by simp [s2]
                          have HX : Hid (scanE b es es.length 0 = scanE b es (es.length - (k + 1)) (k + 1)) := Lib.hid (by rw [HST2.out, if_pos (.inr s2)])
                          clear s1 s2
                          go_wp2
                          go_roundw
                          case rel => exact ⟨k + 1, by omega, by go_num, HX.out, O6.out⟩
                          case measure => simp [intOf]; omega
                        · have q2 : (st != -1) = true := by simp [s2]
                          have HX : Hid (chkT b x es = 3) := Lib.hid (by rw [HN.out, HST2.out, if_neg (by omega)])
                          clear s1 s2
                          go_wp2
                          go_ret
                          exact ⟨by rw [HX.out]; rfl, OD.out⟩
              · have HX : Hid (chkT b x es = 0) := Lib.hid (by rw [HN.out, HS.out, show es.length - k = 0 by omega]; rfl)
                go_wp2
                go_ret
                exact ⟨by rw [HX.out]; rfl, OA.out⟩
      · have hx2 : inM x 8000000000 = false := by simpa using hx
        have hwx := kwithin x 8000000000 w1 (by omega) (by omega)
        rw [hx2] at hwx
        have HR : Hid (chkT b x es = 3) := Lib.hid (by unfold chkT; rw [if_neg h64, if_neg (fun q => hx q.2)])
        have HWB := Lib.hid hwb; have HWX := Lib.hid hwx
        clear hwb hwx hb hx hx2
        go_wp2_with fail
        refine HWB.out.mono ?_
        rintro e w' ⟨rfl, rfl⟩
        go_wp2_with fail
        refine HWX.out.mono ?_
        rintro e w' ⟨rfl, rfl⟩
        go_wp2
        go_ret
        exact ⟨by rw [HR.out]; rfl, O1.out⟩
    · have hb2 : inM b 1000 = false := by simpa using hb
      have hwb := kwithin b 1000 w1 (by omega) (by omega)
      rw [hb2] at hwb
      have HR : Hid (chkT b x es = 3) := Lib.hid (by unfold chkT; rw [if_neg h64, if_neg (fun q => hb q.1)])
      have HWB := Lib.hid hwb
      clear hwb hb hb2
      go_wp2_with fail
      refine HWB.out.mono ?_
      rintro e w' ⟨rfl, rfl⟩
      go_wp2
      go_ret
      exact ⟨by rw [HR.out]; rfl, O1.out⟩
end Go.Proofs.YtnfejojakikeeaaGreatDoor
