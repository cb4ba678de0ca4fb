/- scenario.checkNode. Condition: the lengths. -/
import Derived.Test.YthmeifdgkodjlaaDoorSa
import Derived.Test.YthmeifdgkodjlaaDoorS6
namespace Go.Proofs.YthmeifdgkodjlaaDoor
open Go.RowKit

def itC (s : Int) : List Value := [.int .i64 s]
theorem itC_len (s : Int) : (itC s).length = 1 := rfl
theorem itC_one (s : Int) : ∀ u ∈ itC s, u.oneCell' = true := by simp [itC, Value.oneCell']
theorem VRow.it {w wr : World} {cap k : Nat} {p : Option Addr} {l : List Int} (hv : VRow itC 1 w p l.length cap l) (ho : Only [] w wr) (hk : k < l.length) :
    ∃ bk off, p = some ⟨bk, off, none⟩ ∧ wr.cell? ⟨bk, off + k, none⟩ = some (.int .i64 (l.getD k 0)) ∧ bk < wr.heap.size := by
  obtain ⟨bk, off, hp, hb, hc⟩ := hv.at_ ho (getD_some 0 hk)
  exact ⟨bk, off, hp, by have := hc 0 _ rfl; rwa [Nat.mul_one, Nat.add_zero] at this, hb⟩
/-- the value of a node -/
def ndV (n : Nd) (ps : Option Addr) (cs : Nat) (pv : Option Addr) (cv : Nat) : Value :=
  .agg #[.int .i64 n.ph, .slice ps n.sg.length cs, .int .i64 n.tol, .bool n.rf, .int .i64 n.er, .int .i64 n.st, .slice pv n.sv.length cv]
def snF (l : List Int) (k : Int) : Option Bool := if k ∈ l then some true else none
def SvI (w : World) (b : Nat) (l : List Int) (i nodes : Int) (vi : Value) (wr : World) : Prop :=
  ∃ k : Nat, k ≤ l.length ∧ vi = .int .i64 k ∧ fe (svE l i nodes) l.length 0 = fe (svE l i nodes) (l.length - k) k ∧ MapF (fun n : Int => Value.int .i64 n) Value.bool wr b (snF (l.take k)) ∧ Only [] w wr
def ndE4 (st : Int) (sv : List Int) (i nodes : Int) : Int := if fe (svE sv i nodes) sv.length 0 = 0 then (if inR st 0 1125899906842624 = true then 0 else 3) else fe (svE sv i nodes) sv.length 0
def ndE3 (rf : Bool) (st : Int) (sv : List Int) (i nodes : Int) : Int := if rf = true ∧ 0 < sv.length then 7 else if 12 < sv.length then 6 else ndE4 st sv i nodes
def ndE2 (er : Int) (rf : Bool) (st : Int) (sv : List Int) (i nodes : Int) : Int := if inR er 0 1125899906842624 = true ∧ (er = 0 ∨ rf = true) then ndE3 rf st sv i nodes else 3
def ndE1 (ph : Int) (sg : List Sg) (tol er : Int) (rf : Bool) (st : Int) (sv : List Int) (i nodes : Int) : Int := if tol < oscB ph sg then 15 else ndE2 er rf st sv i nodes
set_option maxRecDepth 100000 in
set_option maxHeartbeats 8000000 in
theorem pNode {w : World} {ps pv : Option Addr} {cs cv : Nat} (n : Nd) (i nodes : Int) (hv : VRow sgC 2 w ps n.sg.length cs n.sg) (hw : VRow itC 1 w pv n.sv.length cv n.sv) (hn : n.sg.length ≤ 100000) (hm : n.sv.length ≤ 100000) :
    Calls Tryd.prog 27 #[ndV n ps cs pv cv, .int .i64 i, .int .i64 nodes] w fun e w' => e = .returned (.int .i64 (ndE n i nodes)) ∧ Only [] w w' := by
  obtain ⟨ph, sg, tol, rf, er, st, sv⟩ := n
  have HV := Lib.hid hv; have HW := Lib.hid hw; clear hv hw
  have HNE := Lib.hid (show ndE ⟨ph, sg, tol, rf, er, st, sv⟩ i nodes = (if oscE ph sg = 0 then (if inR tol 0 500000 = true then ndE1 ph sg tol er rf st sv i nodes else 3) else oscE ph sg) from rfl)
  generalize ndE ⟨ph, sg, tol, rf, er, st, sv⟩ i nodes = res at HNE ⊢
  unfold ndV
  dsimp only at hn hm HV HW ⊢
  have HMM := Lib.hid (@run_makeMap Tryd.prog)
  go_enter Tryd.func27, Tryd.ntmps27
  go_upto_region 1 with (fail)
  refine alloc_abs (G := fun w0 => Code.wp _ _ _ _ w0) ?_
  intro w1 hb1 ho1 hs1
  have B1 := Lib.hid hb1; have O1 := Lib.hid ho1
  clear hb1 ho1 hs1
  have g0 := cell_got B1.out 0; have g1 := cell_got B1.out 1; have l0 := got_lt B1.out
  go_wp2_with fail
  refine (pOsc ph (HV.out.kept O1.out) hn).mono ?_
  rintro e w2 ⟨rfl, ho2⟩
  have B2 := Lib.hid (ho2.got B1.out (by simp)); have O2 := Lib.hid (O1.out.nil_trans ho2)
  clear ho2 g0 g1 l0 B1 O1
  have g0 := cell_got B2.out 0; have g1 := cell_got B2.out 1; have g2 := cell_got B2.out 2; have g3 := cell_got B2.out 3; have g4 := cell_got B2.out 4; have g5 := cell_got B2.out 5; have g6 := cell_got B2.out 6; have l0 := got_lt B2.out
  by_cases hosc : oscE ph sg = 0
  · by_cases htol : inR tol 0 500000 = true
    · obtain ⟨htol0, htol1⟩ := inR_t.1 htol
      have htolx : decide (tol < 0) = false := by simp; omega
      have htoly : decide (tol > 500000) = false := by simp; omega
      have htolz : decide (500000 < tol) = false := by simp; omega
      have HN1 : Hid (res = ndE1 ph sg tol er rf st sv i nodes) := Lib.hid (by rw [HNE.out, if_pos hosc, if_pos htol])
      rw [hosc]
      clear htol hosc htol0 htol1
      by_cases hbd : tol < oscB ph sg
      · have bx : decide (tol < oscB ph sg) = true := by simp [hbd]
        have HQ : Hid (res = 15) := Lib.hid (by rw [HN1.out]; unfold ndE1; rw [if_pos hbd])
        clear hbd
        go_wp2_with fail
        refine wp_region_grown [0, 1, 2, 3, 4, 5, 6] [] (by kernel_rfl) (by kernel_rfl) ?_
        simp only [pick, List.map_cons, List.map_nil, List.getD_cons_succ, List.getD_cons_zero]
        iterate 4 (refine wpQuiet_step (fun K hK => ?_); go_simp; refine hK _ ?_; clear hK K)
        refine wpQuiet_enter_w (by kernel_rfl) 14 #[.agg #[.int .i64 ph, .slice ps sg.length cs]] (fun _ => by kernel_rfl) (.int .i64 (oscB ph sg)) (grown_only2 fun w' ho' => pBound ph (HV.out.kept (O2.out.nil_trans ho')) hn) ?_
        iterate 1 (refine wpQuiet_step (fun K hK => ?_); go_simp; refine hK _ ?_; clear hK K)
        repeat (go_big_quiet_step (fail))
        refine wpQuiet_nil ?_
        intro w3 hw3
        have O3 := Lib.hid (O2.out.nil_trans (only_of_plus hw3)); have B3 := Lib.hid ((only_of_plus hw3).got B2.out (by simp))
        clear hw3 g0 g1 g2 g3 g4 g5 g6 l0 O2 B2
        go_wp2
        go_ret
        exact ⟨by rw [HQ.out]; rfl, O3.out⟩
      · have bx : decide (tol < oscB ph sg) = false := by simpa using hbd
        have HN2 : Hid (res = ndE2 er rf st sv i nodes) := Lib.hid (by rw [HN1.out]; unfold ndE1; rw [if_neg hbd])
        clear hbd
        go_wp2_with fail
        refine wp_region_grown [0, 1, 2, 3, 4, 5, 6] [] (by kernel_rfl) (by kernel_rfl) ?_
        simp only [pick, List.map_cons, List.map_nil, List.getD_cons_succ, List.getD_cons_zero]
        iterate 4 (refine wpQuiet_step (fun K hK => ?_); go_simp; refine hK _ ?_; clear hK K)
        refine wpQuiet_enter_w (by kernel_rfl) 14 #[.agg #[.int .i64 ph, .slice ps sg.length cs]] (fun _ => by kernel_rfl) (.int .i64 (oscB ph sg)) (grown_only2 fun w' ho' => pBound ph (HV.out.kept (O2.out.nil_trans ho')) hn) ?_
        iterate 1 (refine wpQuiet_step (fun K hK => ?_); go_simp; refine hK _ ?_; clear hK K)
        repeat (go_big_quiet_step (fail))
        refine wpQuiet_nil ?_
        intro w3 hw3
        have O3 := Lib.hid (O2.out.nil_trans (only_of_plus hw3)); have B3 := Lib.hid ((only_of_plus hw3).got B2.out (by simp))
        clear hw3 g0 g1 g2 g3 g4 g5 g6 l0 O2 B2
        clear bx htolx htoly htolz
        have g3 := cell_got B3.out 3; have g4 := cell_got B3.out 4; have g5 := cell_got B3.out 5; have g6 := cell_got B3.out 6; have l0 := got_lt B3.out
        by_cases her : inR er 0 1125899906842624 = true
        · obtain ⟨her0, her1⟩ := inR_t.1 her
          have herx : decide (er < 0) = false := by simp; omega
          have hery : decide (er > 1125899906842624) = false := by simp; omega
          have herz : decide (1125899906842624 < er) = false := by simp; omega
          cases rf with
          | true =>
            by_cases hz : er = 0
            · have ez : (er != 0) = false := by simp [hz]
              have ew : (er == 0) = true := by simp [hz]
              have HN3 : Hid (res = ndE3 true st sv i nodes) := Lib.hid (by rw [HN2.out]; unfold ndE2; rw [if_pos ⟨her, .inr rfl⟩])
              clear her hz her0 her1
              by_cases h0 : 0 < sv.length
              · have h0x : decide ((sv.length : Int) > 0) = true := decide_eq_true (by omega)
                have h0y : decide (0 < (sv.length : Int)) = true := decide_eq_true (by omega)
                have h0z : decide (0 < sv.length) = true := decide_eq_true (by omega)
                have HQ : Hid (res = 7) := Lib.hid (by rw [HN3.out]; unfold ndE3; rw [if_pos ⟨rfl, h0⟩])
                clear h0
                go_wp2
                go_ret
                exact ⟨by rw [HQ.out]; rfl, O3.out⟩
              · have h0x : decide ((sv.length : Int) > 0) = false := decide_eq_false (by omega)
                have h0y : decide (0 < (sv.length : Int)) = false := decide_eq_false (by omega)
                have h0z : decide (0 < sv.length) = false := decide_eq_false (by omega)
                have HN4 : Hid (res = if 12 < sv.length then 6 else ndE4 st sv i nodes) := Lib.hid (by rw [HN3.out]; unfold ndE3; rw [if_neg (fun q => h0 q.2)])
                clear h0
                by_cases h12 : 12 < sv.length
                · have h12x : decide ((sv.length : Int) > 12) = true := decide_eq_true (by omega)
                  have h12y : decide (12 < (sv.length : Int)) = true := decide_eq_true (by omega)
                  have h12z : decide (12 < sv.length) = true := decide_eq_true (by omega)
                  have HQ : Hid (res = 6) := Lib.hid (by rw [HN4.out, if_pos h12])
                  clear h12
                  go_wp2
                  go_ret
                  exact ⟨by rw [HQ.out]; rfl, O3.out⟩
                · have h12x : decide ((sv.length : Int) > 12) = false := decide_eq_false (by omega)
                  have h12y : decide (12 < (sv.length : Int)) = false := decide_eq_false (by omega)
                  have h12z : decide (12 < sv.length) = false := decide_eq_false (by omega)
                  have HRF : Hid (res = ndE4 st sv i nodes) := Lib.hid (by rw [HN4.out, if_neg h12])
                  clear h12
                  have hmm := HMM.out
                  clear HMM
                  go_wp2
                  clear hmm
                  go_loopw [68] (fun vi wr => SvI w3 w3.heap.size sv i nodes vi wr) (fun vi _ => sv.length - (intOf vi).toNat)
                  case atStart => exact ⟨0, Nat.zero_le _, rfl, rfl, by rw [List.take_zero]; exact mapF_new (alloc_new _ _), (Only.refl _ _).alloc _⟩
                  case round =>
                    clear g3 g4 g5 g6 l0
                    obtain ⟨k, hk, rfl, hfe, hmp, ho⟩ := hrel
                    have HF := Lib.hid hfe; have MM := Lib.hid hmp; have OO := Lib.hid ho; have OA := Lib.hid (O3.out.nil_trans ho); have B4 := Lib.hid (ho.got B3.out (by simp))
                    clear hfe hmp ho
                    by_cases hlt : k < sv.length
                    · obtain ⟨bk, off, hp, c0, lb⟩ := HW.out.it OA.out hlt
                      subst hp
                      have HNO : Hid (∀ r, svE sv i nodes k = r → r ≠ 0 → res = r) := Lib.hid (fun r h h' => by
                        have := HF.out.trans (fe_no hlt (by rw [h]; exact h'))
                        rw [h] at this
                        rw [HRF.out]; unfold ndE4; rw [this, if_neg h'])
                      have HYE : Hid (svE sv i nodes k = 0 → fe (svE sv i nodes) sv.length 0 = fe (svE sv i nodes) (sv.length - (k + 1)) (k + 1)) := Lib.hid (fun h => by rw [HF.out, fe_yes hlt h])
                      have hE : svE sv i nodes k = if inR (sv.getD k 0) 0 (nodes - 1) = true then (if sv.getD k 0 = i then 18 else if sv.getD k 0 ∈ sv.take k then 10 else 0) else 3 := rfl
                      have HTK : Hid ((snF (sv.take (k + 1))) = fun k' => if k' = sv.getD k 0 then some true else snF (sv.take k) k') := Lib.hid (by
                        funext k'
                        have hgk := getD_some 0 hlt
                        unfold snF
                        rw [List.take_add_one, hgk]
                        by_cases hq : k' = sv.getD k 0
                        · rw [if_pos hq, if_pos (by simp [hq])]
                        · rw [if_neg hq]
                          by_cases hr : k' ∈ sv.take k
                          · rw [if_pos hr, if_pos (by simp [hr])]
                          · rw [if_neg hr, if_neg (by simp only [Option.toList_some, List.mem_append, List.mem_singleton]; exact fun q => q.elim hr hq)])
                      have HZ : Hid (∀ w, (zeroValue 4).run Tryd.prog w = .ok (.bool false) w) := Lib.hid Tryd.zeroValue4
                      generalize sv.getD k 0 = s at c0 hE HTK
                      by_cases hs : inR s 0 (nodes - 1) = true
                      · obtain ⟨hs0, hs1⟩ := inR_t.1 hs
                        have hsx : decide (s < 0) = false := by simp; omega
                        have hsy : decide (s ≥ nodes) = false := by simp; omega
                        have hsz : decide (nodes ≤ s) = false := by simp; omega
                        by_cases hi : s = i
                        · have ix : (s == i) = true := by simp [hi]
                          have HQ : Hid (res = 18) := Lib.hid (HNO.out _ (by rw [hE, if_pos hs, if_pos hi]) (by decide))
                          clear hE hs hi
                          go_wp2
                          go_ret
                          exact ⟨by rw [HQ.out]; rfl, OA.out⟩
                        · have ix : (s == i) = false := by simp [hi]
                          by_cases hin : s ∈ sv.take k
                          · have HQ : Hid (res = 10) := Lib.hid (HNO.out _ (by rw [hE, if_pos hs, if_neg hi, if_pos hin]) (by decide))
                            have hsn : snF (sv.take k) s = some true := by unfold snF; rw [if_pos hin]
                            go_wp2_with (at_lookup; refine stop_here ?_)
                            refine stop_go ?_
                            refine wpList_lookup_F (kE := fun n : Int => Value.int .i64 n) (vE := Value.bool) rfl _ _ 106 false rfl 3 4 (key_int Tryd.underlying3) Tryd.underlying106 (.bool false) (HZ.out _) w3.heap.size _ rfl MM.out s rfl ?_
                            rw [hsn]
                            simp only [Option.map_some, Option.getD_some, Bool.false_eq_true, if_false]
                            clear hE hs hi hin hsn
                            go_wp2
                            go_ret
                            exact ⟨by rw [HQ.out]; rfl, OA.out⟩
                          · have HQ := Lib.hid (HYE.out (by rw [hE, if_pos hs, if_neg hi, if_neg hin]))
                            have hsn : snF (sv.take k) s = none := by unfold snF; rw [if_neg hin]
                            go_wp2_with (at_lookup; refine stop_here ?_)
                            refine stop_go ?_
                            refine wpList_lookup_F (kE := fun n : Int => Value.int .i64 n) (vE := Value.bool) rfl _ _ 106 false rfl 3 4 (key_int Tryd.underlying3) Tryd.underlying106 (.bool false) (HZ.out _) w3.heap.size _ rfl MM.out s rfl ?_
                            rw [hsn]
                            simp only [Option.map_none, Option.getD_none, Bool.false_eq_true, if_false]
                            clear hE hs hi hin hsn
                            go_wp2_with (at_mapUpdate; refine stop_here ?_)
                            refine stop_go ?_
                            refine wpList_update_F (kE := fun n : Int => Value.int .i64 n) (vE := Value.bool) rfl _ _ _ 106 rfl 3 4 (key_int Tryd.underlying3) Tryd.underlying106 w3.heap.size _ rfl MM.out s rfl true rfl ?_
                            intro w5 hm5 ho5 hs5
                            have M5 := Lib.hid hm5; have O5 := Lib.hid (OO.out.trans ho5 (fun x hx => .inr (by simp at hx; omega)))
                            clear hm5 ho5 hs5 MM OO
                            go_wp2
                            go_roundw
                            case rel => exact ⟨k + 1, by omega, by go_num, HQ.out, by rw [HTK.out]; exact M5.out, O5.out⟩
                            case measure => first | (simp [intOf]; done) | (simp [intOf]; omega)
                      · have HQ : Hid (res = 3) := Lib.hid (HNO.out _ (by rw [hE, if_neg hs]) (by decide))
                        clear hE
                        rcases inR_no hs with hq | ⟨hq, hr⟩
                        · have hsx : decide (s < 0) = true := by simp; omega
                          go_wp2
                          go_ret
                          exact ⟨by rw [HQ.out]; rfl, OA.out⟩
                        · have hsx : decide (s < 0) = false := by simp; omega
                          have hsy : decide (s ≥ nodes) = true := by simp; omega
                          have hsz : decide (nodes ≤ s) = true := by simp; omega
                          go_wp2
                          go_ret
                          exact ⟨by rw [HQ.out]; rfl, OA.out⟩
                    · have hf0 : fe (svE sv i nodes) sv.length 0 = 0 := by rw [HF.out, fe_end (by omega)]
                      have HRG : Hid (res = if inR st 0 1125899906842624 = true then 0 else 3) := Lib.hid (by rw [HRF.out]; unfold ndE4; rw [if_pos hf0])
                      clear hf0
                      obtain rfl : k = sv.length := by omega
                      have g5 := cell_got B4.out 5; have l0 := got_lt B4.out
                      by_cases ht : inR st 0 1125899906842624 = true
                      · obtain ⟨ht0, ht1⟩ := inR_t.1 ht
                        have htx : decide (st < 0) = false := by simp; omega
                        have hty : decide (st > 1125899906842624) = false := by simp; omega
                        have htz : decide (1125899906842624 < st) = false := by simp; omega
                        have HQ : Hid (res = 0) := Lib.hid (by rw [HRG.out, if_pos ht])
                        clear ht
                        go_wp2
                        go_ret
                        exact ⟨by rw [HQ.out]; rfl, OA.out⟩
                      · have HQ : Hid (res = 3) := Lib.hid (by rw [HRG.out, if_neg ht])
                        rcases inR_no ht with hq | ⟨hq, hr⟩
                        · have htx : decide (st < 0) = true := by simp; omega
                          clear ht
                          go_wp2
                          go_ret
                          exact ⟨by rw [HQ.out]; rfl, OA.out⟩
                        · have htx : decide (st < 0) = false := by simp; omega
                          have hty : decide (st > 1125899906842624) = true := by simp; omega
                          have htz : decide (1125899906842624 < st) = true := by simp; omega
                          clear ht
                          go_wp2
                          go_ret
                          exact ⟨by rw [HQ.out]; rfl, OA.out⟩
            · have ez : (er != 0) = true := by simp [hz]
              have ew : (er == 0) = false := by simp [hz]
              have HN3 : Hid (res = ndE3 true st sv i nodes) := Lib.hid (by rw [HN2.out]; unfold ndE2; rw [if_pos ⟨her, .inr rfl⟩])
              clear her hz her0 her1
              by_cases h0 : 0 < sv.length
              · have h0x : decide ((sv.length : Int) > 0) = true := decide_eq_true (by omega)
                have h0y : decide (0 < (sv.length : Int)) = true := decide_eq_true (by omega)
                have h0z : decide (0 < sv.length) = true := decide_eq_true (by omega)
                have HQ : Hid (res = 7) := Lib.hid (by rw [HN3.out]; unfold ndE3; rw [if_pos ⟨rfl, h0⟩])
                clear h0
                go_wp2
                go_ret
                exact ⟨by rw [HQ.out]; rfl, O3.out⟩
              · have h0x : decide ((sv.length : Int) > 0) = false := decide_eq_false (by omega)
                have h0y : decide (0 < (sv.length : Int)) = false := decide_eq_false (by omega)
                have h0z : decide (0 < sv.length) = false := decide_eq_false (by omega)
                have HN4 : Hid (res = if 12 < sv.length then 6 else ndE4 st sv i nodes) := Lib.hid (by rw [HN3.out]; unfold ndE3; rw [if_neg (fun q => h0 q.2)])
                clear h0
                by_cases h12 : 12 < sv.length
                · have h12x : decide ((sv.length : Int) > 12) = true := decide_eq_true (by omega)
                  have h12y : decide (12 < (sv.length : Int)) = true := decide_eq_true (by omega)
                  have h12z : decide (12 < sv.length) = true := decide_eq_true (by omega)
                  have HQ : Hid (res = 6) := Lib.hid (by rw [HN4.out, if_pos h12])
                  clear h12
                  go_wp2
                  go_ret
                  exact ⟨by rw [HQ.out]; rfl, O3.out⟩
                · have h12x : decide ((sv.length : Int) > 12) = false := decide_eq_false (by omega)
                  have h12y : decide (12 < (sv.length : Int)) = false := decide_eq_false (by omega)
                  have h12z : decide (12 < sv.length) = false := decide_eq_false (by omega)
                  have HRF : Hid (res = ndE4 st sv i nodes) := Lib.hid (by rw [HN4.out, if_neg h12])
                  clear h12
                  have hmm := HMM.out
                  clear HMM
                  go_wp2
                  clear hmm
                  go_loopw [68] (fun vi wr => SvI w3 w3.heap.size sv i nodes vi wr) (fun vi _ => sv.length - (intOf vi).toNat)
                  case atStart => exact ⟨0, Nat.zero_le _, rfl, rfl, by rw [List.take_zero]; exact mapF_new (alloc_new _ _), (Only.refl _ _).alloc _⟩
                  case round =>
                    clear g3 g4 g5 g6 l0
                    obtain ⟨k, hk, rfl, hfe, hmp, ho⟩ := hrel
                    have HF := Lib.hid hfe; have MM := Lib.hid hmp; have OO := Lib.hid ho; have OA := Lib.hid (O3.out.nil_trans ho); have B4 := Lib.hid (ho.got B3.out (by simp))
                    clear hfe hmp ho
                    by_cases hlt : k < sv.length
                    · obtain ⟨bk, off, hp, c0, lb⟩ := HW.out.it OA.out hlt
                      subst hp
                      have HNO : Hid (∀ r, svE sv i nodes k = r → r ≠ 0 → res = r) := Lib.hid (fun r h h' => by
                        have := HF.out.trans (fe_no hlt (by rw [h]; exact h'))
                        rw [h] at this
                        rw [HRF.out]; unfold ndE4; rw [this, if_neg h'])
                      have HYE : Hid (svE sv i nodes k = 0 → fe (svE sv i nodes) sv.length 0 = fe (svE sv i nodes) (sv.length - (k + 1)) (k + 1)) := Lib.hid (fun h => by rw [HF.out, fe_yes hlt h])
                      have hE : svE sv i nodes k = if inR (sv.getD k 0) 0 (nodes - 1) = true then (if sv.getD k 0 = i then 18 else if sv.getD k 0 ∈ sv.take k then 10 else 0) else 3 := rfl
                      have HTK : Hid ((snF (sv.take (k + 1))) = fun k' => if k' = sv.getD k 0 then some true else snF (sv.take k) k') := Lib.hid (by
                        funext k'
                        have hgk := getD_some 0 hlt
                        unfold snF
                        rw [List.take_add_one, hgk]
                        by_cases hq : k' = sv.getD k 0
                        · rw [if_pos hq, if_pos (by simp [hq])]
                        · rw [if_neg hq]
                          by_cases hr : k' ∈ sv.take k
                          · rw [if_pos hr, if_pos (by simp [hr])]
                          · rw [if_neg hr, if_neg (by simp only [Option.toList_some, List.mem_append, List.mem_singleton]; exact fun q => q.elim hr hq)])
                      have HZ : Hid (∀ w, (zeroValue 4).run Tryd.prog w = .ok (.bool false) w) := Lib.hid Tryd.zeroValue4
                      generalize sv.getD k 0 = s at c0 hE HTK
                      by_cases hs : inR s 0 (nodes - 1) = true
                      · obtain ⟨hs0, hs1⟩ := inR_t.1 hs
                        have hsx : decide (s < 0) = false := by simp; omega
                        have hsy : decide (s ≥ nodes) = false := by simp; omega
                        have hsz : decide (nodes ≤ s) = false := by simp; omega
                        by_cases hi : s = i
                        · have ix : (s == i) = true := by simp [hi]
                          have HQ : Hid (res = 18) := Lib.hid (HNO.out _ (by rw [hE, if_pos hs, if_pos hi]) (by decide))
                          clear hE hs hi
                          go_wp2
                          go_ret
                          exact ⟨by rw [HQ.out]; rfl, OA.out⟩
                        · have ix : (s == i) = false := by simp [hi]
                          by_cases hin : s ∈ sv.take k
                          · have HQ : Hid (res = 10) := Lib.hid (HNO.out _ (by rw [hE, if_pos hs, if_neg hi, if_pos hin]) (by decide))
                            have hsn : snF (sv.take k) s = some true := by unfold snF; rw [if_pos hin]
                            go_wp2_with (at_lookup; refine stop_here ?_)
                            refine stop_go ?_
                            refine wpList_lookup_F (kE := fun n : Int => Value.int .i64 n) (vE := Value.bool) rfl _ _ 106 false rfl 3 4 (key_int Tryd.underlying3) Tryd.underlying106 (.bool false) (HZ.out _) w3.heap.size _ rfl MM.out s rfl ?_
                            rw [hsn]
                            simp only [Option.map_some, Option.getD_some, Bool.false_eq_true, if_false]
                            clear hE hs hi hin hsn
                            go_wp2
                            go_ret
                            exact ⟨by rw [HQ.out]; rfl, OA.out⟩
                          · have HQ := Lib.hid (HYE.out (by rw [hE, if_pos hs, if_neg hi, if_neg hin]))
                            have hsn : snF (sv.take k) s = none := by unfold snF; rw [if_neg hin]
                            go_wp2_with (at_lookup; refine stop_here ?_)
                            refine stop_go ?_
                            refine wpList_lookup_F (kE := fun n : Int => Value.int .i64 n) (vE := Value.bool) rfl _ _ 106 false rfl 3 4 (key_int Tryd.underlying3) Tryd.underlying106 (.bool false) (HZ.out _) w3.heap.size _ rfl MM.out s rfl ?_
                            rw [hsn]
                            simp only [Option.map_none, Option.getD_none, Bool.false_eq_true, if_false]
                            clear hE hs hi hin hsn
                            go_wp2_with (at_mapUpdate; refine stop_here ?_)
                            refine stop_go ?_
                            refine wpList_update_F (kE := fun n : Int => Value.int .i64 n) (vE := Value.bool) rfl _ _ _ 106 rfl 3 4 (key_int Tryd.underlying3) Tryd.underlying106 w3.heap.size _ rfl MM.out s rfl true rfl ?_
                            intro w5 hm5 ho5 hs5
                            have M5 := Lib.hid hm5; have O5 := Lib.hid (OO.out.trans ho5 (fun x hx => .inr (by simp at hx; omega)))
                            clear hm5 ho5 hs5 MM OO
                            go_wp2
                            go_roundw
                            case rel => exact ⟨k + 1, by omega, by go_num, HQ.out, by rw [HTK.out]; exact M5.out, O5.out⟩
                            case measure => first | (simp [intOf]; done) | (simp [intOf]; omega)
                      · have HQ : Hid (res = 3) := Lib.hid (HNO.out _ (by rw [hE, if_neg hs]) (by decide))
                        clear hE
                        rcases inR_no hs with hq | ⟨hq, hr⟩
                        · have hsx : decide (s < 0) = true := by simp; omega
                          go_wp2
                          go_ret
                          exact ⟨by rw [HQ.out]; rfl, OA.out⟩
                        · have hsx : decide (s < 0) = false := by simp; omega
                          have hsy : decide (s ≥ nodes) = true := by simp; omega
                          have hsz : decide (nodes ≤ s) = true := by simp; omega
                          go_wp2
                          go_ret
                          exact ⟨by rw [HQ.out]; rfl, OA.out⟩
                    · have hf0 : fe (svE sv i nodes) sv.length 0 = 0 := by rw [HF.out, fe_end (by omega)]
                      have HRG : Hid (res = if inR st 0 1125899906842624 = true then 0 else 3) := Lib.hid (by rw [HRF.out]; unfold ndE4; rw [if_pos hf0])
                      clear hf0
                      obtain rfl : k = sv.length := by omega
                      have g5 := cell_got B4.out 5; have l0 := got_lt B4.out
                      by_cases ht : inR st 0 1125899906842624 = true
                      · obtain ⟨ht0, ht1⟩ := inR_t.1 ht
                        have htx : decide (st < 0) = false := by simp; omega
                        have hty : decide (st > 1125899906842624) = false := by simp; omega
                        have htz : decide (1125899906842624 < st) = false := by simp; omega
                        have HQ : Hid (res = 0) := Lib.hid (by rw [HRG.out, if_pos ht])
                        clear ht
                        go_wp2
                        go_ret
                        exact ⟨by rw [HQ.out]; rfl, OA.out⟩
                      · have HQ : Hid (res = 3) := Lib.hid (by rw [HRG.out, if_neg ht])
                        rcases inR_no ht with hq | ⟨hq, hr⟩
                        · have htx : decide (st < 0) = true := by simp; omega
                          clear ht
                          go_wp2
                          go_ret
                          exact ⟨by rw [HQ.out]; rfl, OA.out⟩
                        · have htx : decide (st < 0) = false := by simp; omega
                          have hty : decide (st > 1125899906842624) = true := by simp; omega
                          have htz : decide (1125899906842624 < st) = true := by simp; omega
                          clear ht
                          go_wp2
                          go_ret
                          exact ⟨by rw [HQ.out]; rfl, OA.out⟩
          | false =>
            by_cases hz : er = 0
            · have ez : (er != 0) = false := by simp [hz]
              have ew : (er == 0) = true := by simp [hz]
              have HN3 : Hid (res = ndE3 false st sv i nodes) := Lib.hid (by rw [HN2.out]; unfold ndE2; rw [if_pos ⟨her, .inl hz⟩])
              clear her hz her0 her1
              have HN4 : Hid (res = if 12 < sv.length then 6 else ndE4 st sv i nodes) := Lib.hid (by rw [HN3.out]; unfold ndE3; rw [if_neg (fun q => by cases q.1)])
              by_cases h12 : 12 < sv.length
              · have h12x : decide ((sv.length : Int) > 12) = true := decide_eq_true (by omega)
                have h12y : decide (12 < (sv.length : Int)) = true := decide_eq_true (by omega)
                have h12z : decide (12 < sv.length) = true := decide_eq_true (by omega)
                have HQ : Hid (res = 6) := Lib.hid (by rw [HN4.out, if_pos h12])
                clear h12
                go_wp2
                go_ret
                exact ⟨by rw [HQ.out]; rfl, O3.out⟩
              · have h12x : decide ((sv.length : Int) > 12) = false := decide_eq_false (by omega)
                have h12y : decide (12 < (sv.length : Int)) = false := decide_eq_false (by omega)
                have h12z : decide (12 < sv.length) = false := decide_eq_false (by omega)
                have HRF : Hid (res = ndE4 st sv i nodes) := Lib.hid (by rw [HN4.out, if_neg h12])
                clear h12
                have hmm := HMM.out
                clear HMM
                go_wp2
                clear hmm
                go_loopw [68] (fun vi wr => SvI w3 w3.heap.size sv i nodes vi wr) (fun vi _ => sv.length - (intOf vi).toNat)
                case atStart => exact ⟨0, Nat.zero_le _, rfl, rfl, by rw [List.take_zero]; exact mapF_new (alloc_new _ _), (Only.refl _ _).alloc _⟩
                case round =>
                  clear g3 g4 g5 g6 l0
                  obtain ⟨k, hk, rfl, hfe, hmp, ho⟩ := hrel
                  have HF := Lib.hid hfe; have MM := Lib.hid hmp; have OO := Lib.hid ho; have OA := Lib.hid (O3.out.nil_trans ho); have B4 := Lib.hid (ho.got B3.out (by simp))
                  clear hfe hmp ho
                  by_cases hlt : k < sv.length
                  · obtain ⟨bk, off, hp, c0, lb⟩ := HW.out.it OA.out hlt
                    subst hp
                    have HNO : Hid (∀ r, svE sv i nodes k = r → r ≠ 0 → res = r) := Lib.hid (fun r h h' => by
                      have := HF.out.trans (fe_no hlt (by rw [h]; exact h'))
                      rw [h] at this
                      rw [HRF.out]; unfold ndE4; rw [this, if_neg h'])
                    have HYE : Hid (svE sv i nodes k = 0 → fe (svE sv i nodes) sv.length 0 = fe (svE sv i nodes) (sv.length - (k + 1)) (k + 1)) := Lib.hid (fun h => by rw [HF.out, fe_yes hlt h])
                    have hE : svE sv i nodes k = if inR (sv.getD k 0) 0 (nodes - 1) = true then (if sv.getD k 0 = i then 18 else if sv.getD k 0 ∈ sv.take k then 10 else 0) else 3 := rfl
                    have HTK : Hid ((snF (sv.take (k + 1))) = fun k' => if k' = sv.getD k 0 then some true else snF (sv.take k) k') := Lib.hid (by
                      funext k'
                      have hgk := getD_some 0 hlt
                      unfold snF
                      rw [List.take_add_one, hgk]
                      by_cases hq : k' = sv.getD k 0
                      · rw [if_pos hq, if_pos (by simp [hq])]
                      · rw [if_neg hq]
                        by_cases hr : k' ∈ sv.take k
                        · rw [if_pos hr, if_pos (by simp [hr])]
                        · rw [if_neg hr, if_neg (by simp only [Option.toList_some, List.mem_append, List.mem_singleton]; exact fun q => q.elim hr hq)])
                    have HZ : Hid (∀ w, (zeroValue 4).run Tryd.prog w = .ok (.bool false) w) := Lib.hid Tryd.zeroValue4
                    generalize sv.getD k 0 = s at c0 hE HTK
                    by_cases hs : inR s 0 (nodes - 1) = true
                    · obtain ⟨hs0, hs1⟩ := inR_t.1 hs
                      have hsx : decide (s < 0) = false := by simp; omega
                      have hsy : decide (s ≥ nodes) = false := by simp; omega
                      have hsz : decide (nodes ≤ s) = false := by simp; omega
                      by_cases hi : s = i
                      · have ix : (s == i) = true := by simp [hi]
                        have HQ : Hid (res = 18) := Lib.hid (HNO.out _ (by rw [hE, if_pos hs, if_pos hi]) (by decide))
                        clear hE hs hi
                        go_wp2
                        go_ret
                        exact ⟨by rw [HQ.out]; rfl, OA.out⟩
                      · have ix : (s == i) = false := by simp [hi]
                        by_cases hin : s ∈ sv.take k
                        · have HQ : Hid (res = 10) := Lib.hid (HNO.out _ (by rw [hE, if_pos hs, if_neg hi, if_pos hin]) (by decide))
                          have hsn : snF (sv.take k) s = some true := by unfold snF; rw [if_pos hin]
                          go_wp2_with (at_lookup; refine stop_here ?_)
                          refine stop_go ?_
                          refine wpList_lookup_F (kE := fun n : Int => Value.int .i64 n) (vE := Value.bool) rfl _ _ 106 false rfl 3 4 (key_int Tryd.underlying3) Tryd.underlying106 (.bool false) (HZ.out _) w3.heap.size _ rfl MM.out s rfl ?_
                          rw [hsn]
                          simp only [Option.map_some, Option.getD_some, Bool.false_eq_true, if_false]
                          clear hE hs hi hin hsn
                          go_wp2
                          go_ret
                          exact ⟨by rw [HQ.out]; rfl, OA.out⟩
                        · have HQ := Lib.hid (HYE.out (by rw [hE, if_pos hs, if_neg hi, if_neg hin]))
                          have hsn : snF (sv.take k) s = none := by unfold snF; rw [if_neg hin]
                          go_wp2_with (at_lookup; refine stop_here ?_)
                          refine stop_go ?_
                          refine wpList_lookup_F (kE := fun n : Int => Value.int .i64 n) (vE := Value.bool) rfl _ _ 106 false rfl 3 4 (key_int Tryd.underlying3) Tryd.underlying106 (.bool false) (HZ.out _) w3.heap.size _ rfl MM.out s rfl ?_
                          rw [hsn]
                          simp only [Option.map_none, Option.getD_none, Bool.false_eq_true, if_false]
                          clear hE hs hi hin hsn
                          go_wp2_with (at_mapUpdate; refine stop_here ?_)
                          refine stop_go ?_
                          refine wpList_update_F (kE := fun n : Int => Value.int .i64 n) (vE := Value.bool) rfl _ _ _ 106 rfl 3 4 (key_int Tryd.underlying3) Tryd.underlying106 w3.heap.size _ rfl MM.out s rfl true rfl ?_
                          intro w5 hm5 ho5 hs5
                          have M5 := Lib.hid hm5; have O5 := Lib.hid (OO.out.trans ho5 (fun x hx => .inr (by simp at hx; omega)))
                          clear hm5 ho5 hs5 MM OO
                          go_wp2
                          go_roundw
                          case rel => exact ⟨k + 1, by omega, by go_num, HQ.out, by rw [HTK.out]; exact M5.out, O5.out⟩
                          case measure => first | (simp [intOf]; done) | (simp [intOf]; omega)
                    · have HQ : Hid (res = 3) := Lib.hid (HNO.out _ (by rw [hE, if_neg hs]) (by decide))
                      clear hE
                      rcases inR_no hs with hq | ⟨hq, hr⟩
                      · have hsx : decide (s < 0) = true := by simp; omega
                        go_wp2
                        go_ret
                        exact ⟨by rw [HQ.out]; rfl, OA.out⟩
                      · have hsx : decide (s < 0) = false := by simp; omega
                        have hsy : decide (s ≥ nodes) = true := by simp; omega
                        have hsz : decide (nodes ≤ s) = true := by simp; omega
                        go_wp2
                        go_ret
                        exact ⟨by rw [HQ.out]; rfl, OA.out⟩
                  · have hf0 : fe (svE sv i nodes) sv.length 0 = 0 := by rw [HF.out, fe_end (by omega)]
                    have HRG : Hid (res = if inR st 0 1125899906842624 = true then 0 else 3) := Lib.hid (by rw [HRF.out]; unfold ndE4; rw [if_pos hf0])
                    clear hf0
                    obtain rfl : k = sv.length := by omega
                    have g5 := cell_got B4.out 5; have l0 := got_lt B4.out
                    by_cases ht : inR st 0 1125899906842624 = true
                    · obtain ⟨ht0, ht1⟩ := inR_t.1 ht
                      have htx : decide (st < 0) = false := by simp; omega
                      have hty : decide (st > 1125899906842624) = false := by simp; omega
                      have htz : decide (1125899906842624 < st) = false := by simp; omega
                      have HQ : Hid (res = 0) := Lib.hid (by rw [HRG.out, if_pos ht])
                      clear ht
                      go_wp2
                      go_ret
                      exact ⟨by rw [HQ.out]; rfl, OA.out⟩
                    · have HQ : Hid (res = 3) := Lib.hid (by rw [HRG.out, if_neg ht])
                      rcases inR_no ht with hq | ⟨hq, hr⟩
                      · have htx : decide (st < 0) = true := by simp; omega
                        clear ht
                        go_wp2
                        go_ret
                        exact ⟨by rw [HQ.out]; rfl, OA.out⟩
                      · have htx : decide (st < 0) = false := by simp; omega
                        have hty : decide (st > 1125899906842624) = true := by simp; omega
                        have htz : decide (1125899906842624 < st) = true := by simp; omega
                        clear ht
                        go_wp2
                        go_ret
                        exact ⟨by rw [HQ.out]; rfl, OA.out⟩
            · have ez : (er != 0) = true := by simp [hz]
              have ew : (er == 0) = false := by simp [hz]
              have HQ : Hid (res = 3) := Lib.hid (by rw [HN2.out]; unfold ndE2; rw [if_neg (fun q => q.2.elim hz (fun h => by cases h))])
              clear hz her her0 her1
              go_wp2
              go_ret
              exact ⟨by rw [HQ.out]; rfl, O3.out⟩
        · have HQ : Hid (res = 3) := Lib.hid (by rw [HN2.out]; unfold ndE2; rw [if_neg (fun q => her q.1)])
          rcases inR_no her with hq | ⟨hq, hr⟩
          · have herx : decide (er < 0) = true := by simp; omega
            clear her
            go_wp2
            go_ret
            exact ⟨by rw [HQ.out]; rfl, O3.out⟩
          · have herx : decide (er < 0) = false := by simp; omega
            have hery : decide (er > 1125899906842624) = true := by simp; omega
            have herz : decide (1125899906842624 < er) = true := by simp; omega
            clear her
            go_wp2
            go_ret
            exact ⟨by rw [HQ.out]; rfl, O3.out⟩
    · have HQ : Hid (res = 3) := Lib.hid (by rw [HNE.out, if_pos hosc, if_neg htol])
      rw [hosc]
      rcases inR_no htol with hq | ⟨hq, hr⟩
      · have htolx : decide (tol < 0) = true := by simp; omega
        clear htol hosc
        go_wp2
        go_ret
        exact ⟨by rw [HQ.out]; rfl, O2.out⟩
      · have htolx : decide (tol < 0) = false := by simp; omega
        have htoly : decide (tol > 500000) = true := by simp; omega
        have htolz : decide (500000 < tol) = true := by simp; omega
        clear htol hosc
        go_wp2
        go_ret
        exact ⟨by rw [HQ.out]; rfl, O2.out⟩
  · have ox : (oscE ph sg != 0) = true := by simp [hosc]
    have oy : (oscE ph sg == 0) = false := by simp [hosc]
    have HQ : Hid (res = oscE ph sg) := Lib.hid (by rw [HNE.out, if_neg hosc])
    clear hosc
    go_wp2
    go_ret
    exact ⟨by rw [HQ.out]; rfl, O2.out⟩
end Go.Proofs.YthmeifdgkodjlaaDoor
