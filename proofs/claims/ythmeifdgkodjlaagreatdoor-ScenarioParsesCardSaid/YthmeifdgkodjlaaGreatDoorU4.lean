/- timesyncref56: has, servers and node compute the error of a node. Condition: the lengths. -/
import Derived.Test.YthmeifdgkodjlaaGreatDoorU1
namespace Go.Proofs.YthmeifdgkodjlaaGreatDoor
open Go.RowKit

def HasI (w : World) (l : List Int) (x : Int) (vi : Value) (wr : World) : Prop := ∃ k : Nat, k ≤ l.length ∧ vi = .int .i64 k ∧ x ∉ l.take k ∧ wr = w
set_option maxRecDepth 100000 in
set_option maxHeartbeats 2000000 in
theorem rHas {w : World} {p : Option Addr} {n cap : Nat} {l : List Int} (x : Int) (hv : VRow itC 1 w p n cap l) (hn : n ≤ 100000) :
    Calls Tryz.prog 87 #[.slice p n cap, .int .i64 x] w fun e w' => e = .returned (.bool (decide (x ∈ l))) ∧ w' = w := by
  have hl := hv.len
  subst hl
  have HV := Lib.hid hv; clear hv
  go_enter Tryz.func87, Tryz.ntmps87
  go_wp2
  go_loopw [5] (fun vi wr => HasI w l x vi wr) (fun vi _ => l.length - (intOf vi).toNat)
  case atStart => exact ⟨0, Nat.zero_le _, rfl, by simp, rfl⟩
  case round =>
    obtain ⟨k, hk, rfl, hno, rfl⟩ := hrel
    have HNO := Lib.hid hno
    clear hno
    by_cases hlt : k < l.length
    · obtain ⟨bk, off, hp, c0, lb⟩ := HV.out.it (Only.refl _ _) hlt
      subst hp
      have hgk := getD_some 0 hlt
      have HY : Hid (l.getD k 0 = x → x ∈ l) := Lib.hid (fun h => by rw [← h]; exact List.mem_of_getElem? hgk)
      have HN : Hid (l.getD k 0 ≠ x → x ∉ l.take (k + 1)) := Lib.hid (fun h q => by
        rw [List.take_add_one, hgk] at q
        rcases List.mem_append.1 q with q | q
        · exact HNO.out q
        · simp only [Option.toList_some, List.mem_singleton] at q
          exact h q.symm)
      generalize l.getD k 0 = y at c0 HY HN
      clear hgk
      by_cases hy : y = x
      · have e1 : (y == x) = true := by simp [hy]
        have HQ := Lib.hid (HY.out hy)
        clear hy HY HN
        go_wp2
        go_ret
        exact ⟨by rw [decide_eq_true HQ.out]; rfl, rfl⟩
      · have e1 : (y == x) = false := by simp [hy]
        have HQ := Lib.hid (HN.out hy)
        clear hy HY HN
        go_wp2
        go_roundw
        case rel => exact ⟨k + 1, by omega, by go_num, HQ.out, rfl⟩
        case measure => first | (simp [intOf]; done) | (simp [intOf]; omega)
    · obtain rfl : k = l.length := by omega
      have HQ : Hid (x ∉ l) := Lib.hid (by have := HNO.out; rwa [List.take_of_length_le (Nat.le_refl _)] at this)
      go_wp2
      go_ret
      exact ⟨by rw [decide_eq_false HQ.out]; rfl, rfl⟩
def SvK (w : World) (l : List Int) (i nodes : Int) (vi : Value) (wr : World) : Prop :=
  ∃ k : Nat, k ≤ l.length ∧ vi = .int .i64 k ∧ fe (svE l i nodes) l.length 0 = fe (svE l i nodes) (l.length - k) k ∧ Only [] w wr
def svsE (sv : List Int) (i nodes : Int) : Int := if 12 < sv.length then 6 else fe (svE sv i nodes) sv.length 0
set_option maxRecDepth 100000 in
set_option maxHeartbeats 4000000 in
theorem rServers {w : World} {p : Option Addr} {n cap : Nat} {sv : List Int} (i nodes : Int) (hv : VRow itC 1 w p n cap sv) (hn : n ≤ 100000) :
    Calls Tryz.prog 51 #[.slice p n cap, .int .i64 i, .int .i64 nodes] w fun e w' => e = .returned (.int .i64 (svsE sv i nodes)) ∧ Only [] w w' := by
  have hl := hv.len
  subst hl
  have hcap := hv.le
  have HW := Lib.hid hv; clear hv
  have hE : svsE sv i nodes = if 12 < sv.length then 6 else fe (svE sv i nodes) sv.length 0 := rfl
  generalize svsE sv i nodes = res at hE ⊢
  have HE := Lib.hid hE
  clear hE
  go_enter Tryz.func51, Tryz.ntmps51
  by_cases h12 : 12 < sv.length
  · have h12x : decide ((sv.length : Int) > 12) = true := decide_eq_true (by omega)
    have h12y : decide (12 < (sv.length : Int)) = true := decide_eq_true (by omega)
    have h12z : decide (12 < sv.length) = true := decide_eq_true (by omega)
    have HQ : Hid (res = 6) := Lib.hid (by rw [HE.out, if_pos h12])
    clear h12
    go_wp2
    go_ret
    exact ⟨by rw [HQ.out]; rfl, Only.refl _ _⟩
  · have h12x : decide ((sv.length : Int) > 12) = false := decide_eq_false (by omega)
    have h12y : decide (12 < (sv.length : Int)) = false := decide_eq_false (by omega)
    have h12z : decide (12 < sv.length) = false := decide_eq_false (by omega)
    have HRF : Hid (res = fe (svE sv i nodes) sv.length 0) := Lib.hid (by rw [HE.out, if_neg h12])
    clear h12
    go_wp2
    clear h12x h12y h12z
    go_loopw [7] (fun vi wr => SvK w sv i nodes vi wr) (fun vi _ => sv.length - (intOf vi).toNat)
    case atStart => exact ⟨0, Nat.zero_le _, rfl, rfl, Only.refl _ _⟩
    case round =>
      obtain ⟨k, hk, rfl, hfe, ho⟩ := hrel
      have HF := Lib.hid hfe; have OO := Lib.hid ho
      clear hfe ho
      by_cases hlt : k < sv.length
      · obtain ⟨bk, off, hp, c0, lb⟩ := HW.out.it OO.out hlt
        have HT := Lib.hid (HW.out.take k (Nat.le_of_lt hlt))
        subst hp
        have HNO : Hid (∀ r, svE sv i nodes k = r → r ≠ 0 → res = r) := Lib.hid (fun r h h' => by
          have := HF.out.trans (fe_no hlt (by rw [h]; exact h'))
          rw [h] at this
          rw [HRF.out, this])
        have HYE : Hid (svE sv i nodes k = 0 → fe (svE sv i nodes) sv.length 0 = fe (svE sv i nodes) (sv.length - (k + 1)) (k + 1)) := Lib.hid (fun h => by rw [HF.out, fe_yes hlt h])
        have hE : svE sv i nodes k = if inR (sv.getD k 0) 0 (nodes - 1) = true then (if sv.getD k 0 = i then 18 else if sv.getD k 0 ∈ sv.take k then 10 else 0) else 3 := rfl
        generalize sv.getD k 0 = s at c0 hE
        by_cases hs : inR s 0 (nodes - 1) = true
        · obtain ⟨hs0, hs1⟩ := inR_t.1 hs
          have hsx : decide (s < 0) = false := by simp; omega
          have hsy : decide (s ≥ nodes) = false := by simp; omega
          have hsz : decide (nodes ≤ s) = false := by simp; omega
          by_cases hi : s = i
          · have ix : (s == i) = true := by simp [hi]
            have HQ : Hid (res = 18) := Lib.hid (HNO.out _ (by rw [hE, if_pos hs, if_pos hi]) (by decide))
            clear hE hs hi
            go_wp2
            go_ret
            exact ⟨by rw [HQ.out]; rfl, OO.out⟩
          · have ix : (s == i) = false := by simp [hi]
            have z1 : (k : Int) ≤ (cap : Int) := by omega
            have z2 : k ≤ cap := by omega
            have HIN : Hid (s ∈ sv.take k → res = 10) := Lib.hid (fun hin => HNO.out _ (by rw [hE, if_pos hs, if_neg hi, if_pos hin]) (by decide))
            have HNI := Lib.hid (fun (hin : s ∉ sv.take k) => HYE.out (by rw [hE, if_pos hs, if_neg hi, if_neg hin]))
            clear hE hs hi HNO HYE
            go_upto_region 10 with (fail)
            refine wp_region_grown [0, 1, 2, 3, 4, 5, 6] [7, 8] (by kernel_rfl) (by kernel_rfl) ?_
            simp only [pick, List.map_cons, List.map_nil, List.getD_cons_succ, List.getD_cons_zero]
            iterate 7 (refine wpQuiet_step (fun K hK => ?_); go_simp; refine hK _ ?_; clear hK K)
            refine wpQuiet_nil ?_
            intro w7 hw7
            have O7 := Lib.hid (OO.out.nil_trans (only_of_plus hw7))
            clear hw7 c0 lb z1 z2 hsx hsy hsz ix
            go_wp2_with fail
            refine (rHas s (HT.out.kept O7.out) (by omega)).mono ?_
            rintro e w8 ⟨rfl, rfl⟩
            by_cases hin : s ∈ sv.take k
            · have HQ := Lib.hid (HIN.out hin)
              rw [decide_eq_true hin]
              clear hin HIN HNI
              go_wp2
              go_ret
              exact ⟨by rw [HQ.out]; rfl, O7.out⟩
            · have HQ := Lib.hid (HNI.out hin)
              rw [decide_eq_false hin]
              clear hin HIN HNI
              go_wp2
              go_roundw
              case rel => exact ⟨k + 1, by omega, by go_num, HQ.out, O7.out⟩
              case measure => first | (simp [intOf]; done) | (simp [intOf]; omega)
        · have HQ : Hid (res = 3) := Lib.hid (HNO.out _ (by rw [hE, if_neg hs]) (by decide))
          clear hE
          rcases inR_no hs with hq | ⟨hq, hr⟩
          · have hsx : decide (s < 0) = true := by simp; omega
            go_wp2
            go_ret
            exact ⟨by rw [HQ.out]; rfl, OO.out⟩
          · have hsx : decide (s < 0) = false := by simp; omega
            have hsy : decide (s ≥ nodes) = true := by simp; omega
            have hsz : decide (nodes ≤ s) = true := by simp; omega
            go_wp2
            go_ret
            exact ⟨by rw [HQ.out]; rfl, OO.out⟩
      · have HQ : Hid (res = 0) := Lib.hid (by rw [HRF.out, HF.out, fe_end (by omega)])
        obtain rfl : k = sv.length := by omega
        go_wp2
        go_ret
        exact ⟨by rw [HQ.out]; rfl, OO.out⟩
def rdE3 (rf : Bool) (st : Int) (sv : List Int) (i nodes : Int) : Int := if rf = true ∧ 0 < sv.length then 7 else if svsE sv i nodes = 0 then (if inR st 0 1125899906842624 = true then 0 else 3) else svsE sv i nodes
theorem rdE3_eq (rf : Bool) (st : Int) (sv : List Int) (i nodes : Int) : ndE3 rf st sv i nodes = rdE3 rf st sv i nodes := by
  unfold ndE3 rdE3 ndE4 svsE
  by_cases h12 : 12 < sv.length
  · simp only [if_pos h12]; rfl
  · simp only [if_neg h12]
set_option maxRecDepth 100000 in
set_option maxHeartbeats 8000000 in
theorem rNode {w : World} {ps pv : Option Addr} {cs cv : Nat} (n : Nd) (i nodes : Int) (hv : VRow sgC 2 w ps n.sg.length cs n.sg) (hw : VRow itC 1 w pv n.sv.length cv n.sv) (hn : n.sg.length ≤ 100000) (hm : n.sv.length ≤ 100000) :
    Calls Tryz.prog 24 #[ndV n ps cs pv cv, .int .i64 i, .int .i64 nodes] w fun e w' => e = .returned (.int .i64 (ndE n i nodes)) ∧ Only [] w w' := by
  obtain ⟨ph, sg, tol, rf, er, st, sv⟩ := n
  have HV := Lib.hid hv; have HW := Lib.hid hw; clear hv hw
  have HNE := Lib.hid (show ndE ⟨ph, sg, tol, rf, er, st, sv⟩ i nodes = (if oscE ph sg = 0 then (if inR tol 0 500000 = true then ndE1 ph sg tol er rf st sv i nodes else 3) else oscE ph sg) from rfl)
  generalize ndE ⟨ph, sg, tol, rf, er, st, sv⟩ i nodes = res at HNE ⊢
  unfold ndV
  dsimp only at hn hm HV HW ⊢
  go_enter Tryz.func24, Tryz.ntmps24
  go_upto_region 1 with (fail)
  refine alloc_abs (G := fun w0 => Code.wp _ _ _ _ w0) ?_
  intro w1 hb1 ho1 hs1
  have B1 := Lib.hid hb1; have O1 := Lib.hid ho1
  clear hb1 ho1 hs1
  have g0 := cell_got B1.out 0; have g1 := cell_got B1.out 1; have l0 := got_lt B1.out
  go_wp2_with fail
  refine (rOsc ph (HV.out.kept O1.out) hn).mono ?_
  rintro e w2 ⟨rfl, ho2⟩
  have B2 := Lib.hid (ho2.got B1.out (by simp)); have O2 := Lib.hid (O1.out.nil_trans ho2)
  clear ho2 g0 g1 l0 B1 O1
  have g0 := cell_got B2.out 0; have g1 := cell_got B2.out 1; have g2 := cell_got B2.out 2; have g3 := cell_got B2.out 3; have g4 := cell_got B2.out 4; have g5 := cell_got B2.out 5; have g6 := cell_got B2.out 6; have l0 := got_lt B2.out
  by_cases hosc : oscE ph sg = 0
  · by_cases htol : inR tol 0 500000 = true
    · obtain ⟨htol0, htol1⟩ := inR_t.1 htol
      have htolx : decide (tol < 0) = false := by simp; omega
      have htoly : decide (tol > 500000) = false := by simp; omega
      have htolz : decide (500000 < tol) = false := by simp; omega
      have HN1 : Hid (res = ndE1 ph sg tol er rf st sv i nodes) := Lib.hid (by rw [HNE.out, if_pos hosc, if_pos htol])
      rw [hosc]
      clear htol hosc htol0 htol1
      by_cases hbd : tol < oscB ph sg
      · have bx : decide (tol < oscB ph sg) = true := by simp [hbd]
        have HQ : Hid (res = 15) := Lib.hid (by rw [HN1.out]; unfold ndE1; rw [if_pos hbd])
        clear hbd
        go_wp2_with fail
        refine wp_region_grown [0, 1, 2, 3, 4, 5, 6] [] (by kernel_rfl) (by kernel_rfl) ?_
        simp only [pick, List.map_cons, List.map_nil, List.getD_cons_succ, List.getD_cons_zero]
        iterate 4 (refine wpQuiet_step (fun K hK => ?_); go_simp; refine hK _ ?_; clear hK K)
        refine wpQuiet_enter_w (by kernel_rfl) 50 #[.agg #[.int .i64 ph, .slice ps sg.length cs]] (fun _ => by kernel_rfl) (.int .i64 (oscB ph sg)) (grown_only2 fun w' ho' => rBound ph (HV.out.kept (O2.out.nil_trans ho')) hn) ?_
        iterate 1 (refine wpQuiet_step (fun K hK => ?_); go_simp; refine hK _ ?_; clear hK K)
        repeat (go_big_quiet_step (fail))
        refine wpQuiet_nil ?_
        intro w3 hw3
        have O3 := Lib.hid (O2.out.nil_trans (only_of_plus hw3)); have B3 := Lib.hid ((only_of_plus hw3).got B2.out (by simp))
        clear hw3 g0 g1 g2 g3 g4 g5 g6 l0 O2 B2
        go_wp2
        go_ret
        exact ⟨by rw [HQ.out]; rfl, O3.out⟩
      · have bx : decide (tol < oscB ph sg) = false := by simpa using hbd
        have HN2 : Hid (res = ndE2 er rf st sv i nodes) := Lib.hid (by rw [HN1.out]; unfold ndE1; rw [if_neg hbd])
        clear hbd
        go_wp2_with fail
        refine wp_region_grown [0, 1, 2, 3, 4, 5, 6] [] (by kernel_rfl) (by kernel_rfl) ?_
        simp only [pick, List.map_cons, List.map_nil, List.getD_cons_succ, List.getD_cons_zero]
        iterate 4 (refine wpQuiet_step (fun K hK => ?_); go_simp; refine hK _ ?_; clear hK K)
        refine wpQuiet_enter_w (by kernel_rfl) 50 #[.agg #[.int .i64 ph, .slice ps sg.length cs]] (fun _ => by kernel_rfl) (.int .i64 (oscB ph sg)) (grown_only2 fun w' ho' => rBound ph (HV.out.kept (O2.out.nil_trans ho')) hn) ?_
        iterate 1 (refine wpQuiet_step (fun K hK => ?_); go_simp; refine hK _ ?_; clear hK K)
        repeat (go_big_quiet_step (fail))
        refine wpQuiet_nil ?_
        intro w3 hw3
        have O3 := Lib.hid (O2.out.nil_trans (only_of_plus hw3)); have B3 := Lib.hid ((only_of_plus hw3).got B2.out (by simp))
        clear hw3 g0 g1 g2 g3 g4 g5 g6 l0 O2 B2
        clear bx htolx htoly htolz
        have g2 := cell_got B3.out 3; have g3 := cell_got B3.out 4; have g4 := cell_got B3.out 5; have g5 := cell_got B3.out 6; have l0 := got_lt B3.out
        by_cases her : inR er 0 1125899906842624 = true
        · obtain ⟨her0, her1⟩ := inR_t.1 her
          have herx : decide (er < 0) = false := by simp; omega
          have hery : decide (er > 1125899906842624) = false := by simp; omega
          have herz : decide (1125899906842624 < er) = false := by simp; omega
          cases rf with
          | true =>
            have HN3 : Hid (res = rdE3 true st sv i nodes) := Lib.hid (by rw [HN2.out]; unfold ndE2; rw [if_pos ⟨her, .inr rfl⟩, rdE3_eq])
            clear her her0 her1
            by_cases h0 : 0 < sv.length
            · have h0x : decide ((sv.length : Int) > 0) = true := decide_eq_true (by omega)
              have h0y : decide (0 < (sv.length : Int)) = true := decide_eq_true (by omega)
              have h0z : decide (0 < sv.length) = true := decide_eq_true (by omega)
              have HQ : Hid (res = 7) := Lib.hid (by rw [HN3.out]; unfold rdE3; rw [if_pos ⟨rfl, h0⟩])
              clear h0
              go_wp2
              go_ret
              exact ⟨by rw [HQ.out]; rfl, O3.out⟩
            · have h0x : decide ((sv.length : Int) > 0) = false := decide_eq_false (by omega)
              have h0y : decide (0 < (sv.length : Int)) = false := decide_eq_false (by omega)
              have h0z : decide (0 < sv.length) = false := decide_eq_false (by omega)
              have HN4 : Hid (res = if svsE sv i nodes = 0 then (if inR st 0 1125899906842624 = true then 0 else 3) else svsE sv i nodes) := Lib.hid (by rw [HN3.out]; unfold rdE3; rw [if_neg (fun q => h0 q.2)])
              clear h0
              have HSV := Lib.hid (rServers i nodes (HW.out.kept O3.out) hm)
              generalize svsE sv i nodes = se at HN4 HSV
              go_wp2_with fail
              refine HSV.out.mono ?_
              rintro e w4 ⟨rfl, ho4⟩
              have B4 := Lib.hid (ho4.got B3.out (by simp)); have O4 := Lib.hid (O3.out.nil_trans ho4)
              clear ho4 g2 g3 g4 g5 l0
              have g4 := cell_got B4.out 5; have l0 := got_lt B4.out
              by_cases hse : se = 0
              · have HRG : Hid (res = if inR st 0 1125899906842624 = true then 0 else 3) := Lib.hid (by rw [HN4.out, if_pos hse])
                subst hse
                by_cases ht : inR st 0 1125899906842624 = true
                · obtain ⟨ht0, ht1⟩ := inR_t.1 ht
                  have htx : decide (st < 0) = false := by simp; omega
                  have hty : decide (st > 1125899906842624) = false := by simp; omega
                  have htz : decide (1125899906842624 < st) = false := by simp; omega
                  have HQ : Hid (res = 0) := Lib.hid (by rw [HRG.out, if_pos ht])
                  clear ht
                  go_wp2
                  go_ret
                  exact ⟨by rw [HQ.out]; rfl, O4.out⟩
                · have HQ : Hid (res = 3) := Lib.hid (by rw [HRG.out, if_neg ht])
                  rcases inR_no ht with hq | ⟨hq, hr⟩
                  · have htx : decide (st < 0) = true := by simp; omega
                    clear ht
                    go_wp2
                    go_ret
                    exact ⟨by rw [HQ.out]; rfl, O4.out⟩
                  · have htx : decide (st < 0) = false := by simp; omega
                    have hty : decide (st > 1125899906842624) = true := by simp; omega
                    have htz : decide (1125899906842624 < st) = true := by simp; omega
                    clear ht
                    go_wp2
                    go_ret
                    exact ⟨by rw [HQ.out]; rfl, O4.out⟩
              · have HQ : Hid (res = se) := Lib.hid (by rw [HN4.out, if_neg hse])
                have sx : (se == 0) = false := by simp [hse]
                clear hse
                go_wp2
                go_ret
                exact ⟨by rw [HQ.out]; rfl, O4.out⟩
          | false =>
            by_cases hz : er = 0
            · have ez : (er != 0) = false := by simp [hz]
              have ew : (er == 0) = true := by simp [hz]
              have HN3 : Hid (res = rdE3 false st sv i nodes) := Lib.hid (by rw [HN2.out]; unfold ndE2; rw [if_pos ⟨her, .inl hz⟩, rdE3_eq])
              have HN4 : Hid (res = if svsE sv i nodes = 0 then (if inR st 0 1125899906842624 = true then 0 else 3) else svsE sv i nodes) := Lib.hid (by rw [HN3.out]; unfold rdE3; rw [if_neg (fun q => by cases q.1)])
              clear her hz her0 her1
              have HSV := Lib.hid (rServers i nodes (HW.out.kept O3.out) hm)
              generalize svsE sv i nodes = se at HN4 HSV
              go_wp2_with fail
              refine HSV.out.mono ?_
              rintro e w4 ⟨rfl, ho4⟩
              have B4 := Lib.hid (ho4.got B3.out (by simp)); have O4 := Lib.hid (O3.out.nil_trans ho4)
              clear ho4 g2 g3 g4 g5 l0
              have g4 := cell_got B4.out 5; have l0 := got_lt B4.out
              by_cases hse : se = 0
              · have HRG : Hid (res = if inR st 0 1125899906842624 = true then 0 else 3) := Lib.hid (by rw [HN4.out, if_pos hse])
                subst hse
                by_cases ht : inR st 0 1125899906842624 = true
                · obtain ⟨ht0, ht1⟩ := inR_t.1 ht
                  have htx : decide (st < 0) = false := by simp; omega
                  have hty : decide (st > 1125899906842624) = false := by simp; omega
                  have htz : decide (1125899906842624 < st) = false := by simp; omega
                  have HQ : Hid (res = 0) := Lib.hid (by rw [HRG.out, if_pos ht])
                  clear ht
                  go_wp2
                  go_ret
                  exact ⟨by rw [HQ.out]; rfl, O4.out⟩
                · have HQ : Hid (res = 3) := Lib.hid (by rw [HRG.out, if_neg ht])
                  rcases inR_no ht with hq | ⟨hq, hr⟩
                  · have htx : decide (st < 0) = true := by simp; omega
                    clear ht
                    go_wp2
                    go_ret
                    exact ⟨by rw [HQ.out]; rfl, O4.out⟩
                  · have htx : decide (st < 0) = false := by simp; omega
                    have hty : decide (st > 1125899906842624) = true := by simp; omega
                    have htz : decide (1125899906842624 < st) = true := by simp; omega
                    clear ht
                    go_wp2
                    go_ret
                    exact ⟨by rw [HQ.out]; rfl, O4.out⟩
              · have HQ : Hid (res = se) := Lib.hid (by rw [HN4.out, if_neg hse])
                have sx : (se == 0) = false := by simp [hse]
                clear hse
                go_wp2
                go_ret
                exact ⟨by rw [HQ.out]; rfl, O4.out⟩
            · have ez : (er != 0) = true := by simp [hz]
              have ew : (er == 0) = false := by simp [hz]
              have HQ : Hid (res = 3) := Lib.hid (by rw [HN2.out]; unfold ndE2; rw [if_neg (fun q => by rcases q.2 with q | q; exact hz q; cases q)])
              clear her hz her0 her1
              go_wp2
              go_ret
              exact ⟨by rw [HQ.out]; rfl, O3.out⟩
        · have HQ : Hid (res = 3) := Lib.hid (by rw [HN2.out]; unfold ndE2; rw [if_neg (fun q => her q.1)])
          rcases inR_no her with hq | ⟨hq, hr⟩
          · have herx : decide (er < 0) = true := by simp; omega
            clear her
            go_wp2
            go_ret
            exact ⟨by rw [HQ.out]; rfl, O3.out⟩
          · have herx : decide (er < 0) = false := by simp; omega
            have hery : decide (er > 1125899906842624) = true := by simp; omega
            have herz : decide (1125899906842624 < er) = true := by simp; omega
            clear her
            go_wp2
            go_ret
            exact ⟨by rw [HQ.out]; rfl, O3.out⟩
    · have HQ : Hid (res = 3) := Lib.hid (by rw [HNE.out, if_pos hosc, if_neg htol])
      rw [hosc]
      rcases inR_no htol with hq | ⟨hq, hr⟩
      · have htolx : decide (tol < 0) = true := by simp; omega
        clear htol hosc
        go_wp2
        go_ret
        exact ⟨by rw [HQ.out]; rfl, O2.out⟩
      · have htolx : decide (tol < 0) = false := by simp; omega
        have htoly : decide (tol > 500000) = true := by simp; omega
        have htolz : decide (500000 < tol) = true := by simp; omega
        clear htol hosc
        go_wp2
        go_ret
        exact ⟨by rw [HQ.out]; rfl, O2.out⟩
  · have HQ : Hid (res = oscE ph sg) := Lib.hid (by rw [HNE.out, if_neg hosc])
    have ox : (oscE ph sg != 0) = true := by simp [hosc]
    have oy : (oscE ph sg == 0) = false := by simp [hosc]
    clear hosc
    go_wp2
    go_ret
    exact ⟨by rw [HQ.out]; rfl, O2.out⟩
end Go.Proofs.YthmeifdgkodjlaaGreatDoor
