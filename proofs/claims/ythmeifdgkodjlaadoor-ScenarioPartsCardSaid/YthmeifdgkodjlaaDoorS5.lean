/- osc.Check and osc.Bound. Condition: the length. -/
import Derived.Test.YthmeifdgkodjlaaDoorS1
import Derived.Test.YthmeifdgkodjlaaDoorOwn
import Derived.Test.YthmeifdgkodjlaaDoorCalm
import Derived.Deep.Cut
namespace Go.Proofs.YthmeifdgkodjlaaDoor
open Go.RowKit

theorem only_dr2 (w : World) (n : Nat) : Only [] w (w.drewN n) := ⟨rfl, rfl, rfl, Nat.le_refl _, fun _ _ _ => rfl⟩
def sgC (s : Sg) : List Value := [.int .i64 s.a, .int .i64 s.p]
theorem sgC_len (s : Sg) : (sgC s).length = 2 := rfl
theorem sgC_one (s : Sg) : ∀ u ∈ sgC s, u.oneCell' = true := by simp [sgC, Value.oneCell']
theorem VRow.ptr {α : Type} {ec : α → List Value} {s : Nat} {w : World} {p : Option Addr} {n cap k : Nat} {l : List α} (hv : VRow ec s w p n cap l) (hk : k < l.length) : ∃ b off, p = some ⟨b, off, none⟩ := by
  obtain ⟨b, off, hp, _⟩ := hv.cell k l[k] (List.getElem?_eq_getElem hk)
  exact ⟨b, off, hp⟩
/-- the cells of an element, in a world that has grown -/
theorem VRow.at_ {α : Type} {ec : α → List Value} {s : Nat} {w wr : World} {cap n k : Nat} {p : Option Addr} {l : List α} {x : α} (hv : VRow ec s w p n cap l) (ho : Only [] w wr) (hx : l[k]? = some x) :
    ∃ bk off, p = some ⟨bk, off, none⟩ ∧ bk < wr.heap.size ∧ ∀ j v, (ec x)[j]? = some v → wr.cell? ⟨bk, off + (k * s + j), none⟩ = some v := by
  obtain ⟨b, off, hp, hb, hc⟩ := hv.cell k x hx
  exact ⟨b, off, hp, Nat.lt_of_lt_of_le hb ho.size, fun j v hj => by rw [ho.cell hb (by simp)]; exact hc j v hj⟩
theorem getD_some {α : Type} {l : List α} {k : Nat} (z : α) (h : k < l.length) : l[k]? = some (l.getD k z) := by simp [List.getD_eq_getElem?_getD, h]
theorem VRow.sg {w wr : World} {cap k : Nat} {p : Option Addr} {l : List Sg} (hv : VRow sgC 2 w p l.length cap l) (ho : Only [] w wr) (hk : k < l.length) :
    ∃ bk off, p = some ⟨bk, off, none⟩ ∧ wr.cell? ⟨bk, off + k * 2, none⟩ = some (.int .i64 (l.getD k sg0).a) ∧ wr.cell? ⟨bk, off + k * 2 + 1, none⟩ = some (.int .i64 (l.getD k sg0).p) ∧ bk < wr.heap.size := by
  obtain ⟨bk, off, hp, hb, hc⟩ := hv.at_ ho (getD_some sg0 hk)
  exact ⟨bk, off, hp, hc 0 _ rfl, hc 1 _ rfl, hb⟩
theorem ret_int {k : IntKind} {a b : Int} (h : a = b) : Ending.returned (.int k a) = .returned (.int k b) := by rw [h]
def OscR (w : World) (l : List Sg) (vi : Value) (wr : World) : Prop :=
  ∃ k : Nat, k ≤ l.length ∧ vi = .int .i64 k ∧ fe (sgE l) l.length 0 = fe (sgE l) (l.length - k) k ∧ Only [] w wr
/-- why a number is not in a range -/
theorem inR_no {n lo hi : Int} (h : ¬ inR n lo hi = true) : n < lo ∨ (lo ≤ n ∧ hi < n) := by
  have := fun a b => h (inR_t.2 ⟨a, b⟩)
  rcases Int.lt_or_le n lo with h1 | h1
  · exact .inl h1
  · exact .inr ⟨h1, by rcases Int.lt_or_le hi n with h2 | h2; exact h2; exact absurd h2 (this h1)⟩
set_option maxRecDepth 100000 in
set_option maxHeartbeats 4000000 in
theorem pOsc {w : World} {p : Option Addr} {n cap : Nat} {l : List Sg} (ph : Int) (hv : VRow sgC 2 w p n cap l) (hn : n ≤ 100000) :
    Calls Tryd.prog 13 #[.agg #[.int .i64 ph, .slice p n cap]] w fun e w' => e = .returned (.int .i64 (oscE ph l)) ∧ Only [] w w' := by
  have hl := hv.len
  subst hl
  have HV := Lib.hid hv; clear hv
  go_enter Tryd.func13, Tryd.ntmps13
  go_upto_region 1 with (fail)
  refine alloc_abs (G := fun w0 => Code.wp _ _ _ _ w0) ?_
  intro w1 hb1 ho1 hs1
  have B1 := Lib.hid hb1; have O1 := Lib.hid ho1
  clear hb1 ho1 hs1
  have g0 := cell_got B1.out 0; have g1 := cell_got B1.out 1
  have l0 := got_lt B1.out
  by_cases h0 : l.length = 0
  · have d1 : ((l.length : Int) == 0) = true := by rw [h0]; rfl
    have HR : Hid (oscE ph l = 14) := Lib.hid (by unfold oscE; rw [if_pos h0])
    go_wp2
    go_ret
    exact ⟨by rw [HR.out]; rfl, O1.out⟩
  · have d1 : ((l.length : Int) == 0) = false := by rw [beq_eq_false_iff_ne]; omega
    by_cases h16 : 16 < l.length
    · have d2 : decide ((l.length : Int) > 16) = true := by simp; omega
      have d3 : decide (16 < (l.length : Int)) = true := by simp; omega
      have HR : Hid (oscE ph l = 6) := Lib.hid (by unfold oscE; rw [if_neg h0, if_pos h16])
      go_wp2
      go_ret
      exact ⟨by rw [HR.out]; rfl, O1.out⟩
    · have d2 : decide ((l.length : Int) > 16) = false := by simp; omega
      have d3 : decide (16 < (l.length : Int)) = false := by simp; omega
      by_cases hph : inR ph (-1125899906842624) 1125899906842624 = true
      · obtain ⟨p0, p1⟩ := inR_t.1 hph
        have e1 : decide (ph < -1125899906842624) = false := by simp; omega
        have e2 : decide (ph > 1125899906842624) = false := by simp; omega
        have e3 : decide (1125899906842624 < ph) = false := by simp; omega
        have HR : Hid (oscE ph l = fe (sgE l) l.length 0) := Lib.hid (by unfold oscE; rw [if_neg h0, if_neg h16, if_pos hph])
        clear hph
        go_wp2
        go_loopw [27] (fun vi wr => OscR w1 l vi wr) (fun vi _ => l.length - (intOf vi).toNat)
        case atStart => exact ⟨0, Nat.zero_le _, rfl, rfl, Only.refl _ _⟩
        case round =>
          clear d1 d2 d3 e1 e2 e3 p0 p1 g0 g1 l0
          obtain ⟨k, hk, rfl, hfe, ho⟩ := hrel
          have HF := Lib.hid hfe; have OO := Lib.hid ho; have OA := Lib.hid (O1.out.nil_trans ho); have B2 := Lib.hid (ho.got B1.out (by simp))
          clear hfe ho
          by_cases hlt : k < l.length
          · obtain ⟨bk, off, hp, c0, c1, lb⟩ := HV.out.sg OA.out hlt
            subst hp
            have hsE : sgE l k = if inR (l.getD k sg0).a 0 1125899906842624 = true ∧ inR (l.getD k sg0).p (-500000) 500000 = true then (if k = 0 ∧ (l.getD k sg0).a ≠ 0 then 7 else if 0 < k ∧ (l.getD k sg0).a ≤ (l.getD (k - 1) sg0).a then 12 else 0) else 3 := rfl
            generalize l.getD k sg0 = s at c0 c1 hsE
            have HSE := Lib.hid hsE
            clear hsE
            have HNO : Hid (sgE l k ≠ 0 → oscE ph l = sgE l k) := Lib.hid (fun h => by rw [HR.out, HF.out, fe_no hlt h])
            have HYE : Hid (sgE l k = 0 → fe (sgE l) l.length 0 = fe (sgE l) (l.length - (k + 1)) (k + 1)) := Lib.hid (fun h => by rw [HF.out, fe_yes hlt h])
            go_upto_region 10 with (fail)
            refine alloc_abs (G := fun w0 => Code.wp _ _ _ _ w0) ?_
            intro w2 hb2 ho2 hs2
            have E2 := Lib.hid hb2; have O2 := Lib.hid (OO.out.nil_trans ho2); have OB := Lib.hid (OA.out.nil_trans ho2); have B3 := Lib.hid (ho2.got B2.out (by simp))
            clear hb2 ho2 hs2 c0 c1 lb
            have c0 := cell_got E2.out 0; have c1 := cell_got E2.out 1; have le := got_lt E2.out
            have g1 := cell_got B3.out 1; have l0 := got_lt B3.out
            by_cases ha : inR s.a 0 1125899906842624 = true
            · obtain ⟨a0, a1⟩ := inR_t.1 ha
              have e1 : decide (s.a < 0) = false := by simp; omega
              have e2 : decide (s.a > 1125899906842624) = false := by simp; omega
              have e3 : decide (1125899906842624 < s.a) = false := by simp; omega
              by_cases hp : inR s.p (-500000) 500000 = true
              · obtain ⟨b0, b1⟩ := inR_t.1 hp
                have e4 : decide (s.p < -500000) = false := by simp; omega
                have e5 : decide (s.p > 500000) = false := by simp; omega
                have e6 : decide (500000 < s.p) = false := by simp; omega
                have hs2 := HSE.out
                rw [if_pos ⟨ha, hp⟩] at hs2
                by_cases hk0 : k = 0
                · have k1 : ((k : Int) == 0) = true := by rw [hk0]; rfl
                  have k2 : decide (0 < (k : Int)) = false := by simp; omega
                  have k3 : decide ((k : Int) > 0) = false := by simp; omega
                  have k4 : decide (0 < k) = false := by simp; omega
                  by_cases hz : s.a = 0
                  · have z1 : (s.a != 0) = false := by simp [hz]
                    have HX := Lib.hid (HYE.out (by rw [hs2, if_neg (fun q => q.2 hz), if_neg (fun q => by omega)]))
                    clear hs2 hz ha hp hk0
                    go_wp2_with fail
                    go_quiet (fail)
                    go_wp2
                    go_roundw
                    case rel => exact ⟨k + 1, by omega, by go_num, HX.out, O2.out.nil_trans (only_dr2 _ _)⟩
                    case measure => first | (simp [intOf]; done) | (simp [intOf]; omega)
                  · have z1 : (s.a != 0) = true := by simp [hz]
                    have h7 : sgE l k = 7 := by rw [hs2, if_pos ⟨hk0, hz⟩]
                    have HX : Hid (oscE ph l = 7) := Lib.hid ((HNO.out (by rw [h7]; decide)).trans h7)
                    clear hs2 hz ha hp hk0 h7
                    go_wp2
                    go_ret
                    exact ⟨by rw [HX.out]; rfl, OB.out⟩
                · have k1 : ((k : Int) == 0) = false := by rw [beq_eq_false_iff_ne]; omega
                  have k2 : decide (0 < (k : Int)) = true := by simp; omega
                  have k3 : decide ((k : Int) > 0) = true := by simp; omega
                  have k4 : decide (0 < k) = true := by simp; omega
                  obtain ⟨bk', off', hp', p0, p1, lb⟩ := HV.out.sg OB.out (show k - 1 < l.length by omega)
                  cases hp'
                  generalize (l.getD (k - 1) sg0) = t at p0 p1 hs2
                  clear p1
                  have hi1 : (1 : Int) ≤ (k : Int) := by omega
                  have hi2 : (k : Int) - 1 < (l.length : Int) := by omega
                  have hi3 : IntKind.i64.wrap ((k : Int) - 1) = (k : Int) - 1 := IntWalk.i64_in _ (by omega)
                  have hi4 : ((k : Int) - 1).toNat = k - 1 := by omega
                  by_cases hle : s.a ≤ t.a
                  · have z1 : decide (s.a ≤ t.a) = true := by simp [hle]
                    have h12 : sgE l k = 12 := by rw [hs2, if_neg (fun q => hk0 q.1), if_pos ⟨by omega, hle⟩]
                    have HX : Hid (oscE ph l = 12) := Lib.hid ((HNO.out (by rw [h12]; decide)).trans h12)
                    clear hs2 hle ha hp hk0 h12
                    go_wp2_with fail
                    go_quiet (fail)
                    go_wp2
                    go_ret
                    exact ⟨by rw [HX.out]; rfl, OB.out.nil_trans (only_dr2 _ _)⟩
                  · have z1 : decide (s.a ≤ t.a) = false := by simpa using hle
                    have HX := Lib.hid (HYE.out (by rw [hs2, if_neg (fun q => hk0 q.1), if_neg (fun q => hle q.2)]))
                    clear hs2 hle ha hp hk0
                    go_wp2_with fail
                    go_quiet (fail)
                    clear hi3 hi4
                    go_wp2
                    go_roundw
                    case rel => exact ⟨k + 1, by omega, by go_num, HX.out, O2.out.nil_trans (only_dr2 _ _)⟩
                    case measure => first | (simp [intOf]; done) | (simp [intOf]; omega)
              · have h3 : sgE l k = 3 := by rw [HSE.out, if_neg (fun q => hp q.2)]
                have HX : Hid (oscE ph l = 3) := Lib.hid ((HNO.out (by rw [h3]; decide)).trans h3)
                rcases inR_no hp with hq | ⟨hq, hr⟩
                · have e4 : decide (s.p < -500000) = true := by simp; omega
                  clear h3 ha hp
                  go_wp2
                  go_ret
                  exact ⟨by rw [HX.out]; rfl, OB.out⟩
                · have e4 : decide (s.p < -500000) = false := by simp; omega
                  have e5 : decide (s.p > 500000) = true := by simp; omega
                  have e6 : decide (500000 < s.p) = true := by simp; omega
                  clear h3 ha hp
                  go_wp2
                  go_ret
                  exact ⟨by rw [HX.out]; rfl, OB.out⟩
            · have h3 : sgE l k = 3 := by rw [HSE.out, if_neg (fun q => ha q.1)]
              have HX : Hid (oscE ph l = 3) := Lib.hid ((HNO.out (by rw [h3]; decide)).trans h3)
              rcases inR_no ha with hq | ⟨hq, hr⟩
              · have e1 : decide (s.a < 0) = true := by simp; omega
                clear h3 ha
                go_wp2
                go_ret
                exact ⟨by rw [HX.out]; rfl, OB.out⟩
              · have e1 : decide (s.a < 0) = false := by simp; omega
                have e2 : decide (s.a > 1125899906842624) = true := by simp; omega
                have e3 : decide (1125899906842624 < s.a) = true := by simp; omega
                clear h3 ha
                go_wp2
                go_ret
                exact ⟨by rw [HX.out]; rfl, OB.out⟩
          · have HX : Hid (oscE ph l = 0) := Lib.hid (by rw [HR.out, HF.out, fe_end (by omega)])
            obtain rfl : k = l.length := by omega
            go_wp2
            go_ret
            exact ⟨by rw [HX.out]; rfl, OA.out⟩
      · have HR : Hid (oscE ph l = 3) := Lib.hid (by unfold oscE; rw [if_neg h0, if_neg h16, if_neg hph])
        rcases inR_no hph with hq | ⟨hq, hr⟩
        · have e1 : decide (ph < -1125899906842624) = true := by simp; omega
          clear hph
          go_wp2
          go_ret
          exact ⟨by rw [HR.out]; rfl, O1.out⟩
        · have e1 : decide (ph < -1125899906842624) = false := by simp; omega
          have e2 : decide (ph > 1125899906842624) = true := by simp; omega
          have e3 : decide (1125899906842624 < ph) = true := by simp; omega
          clear hph
          go_wp2
          go_ret
          exact ⟨by rw [HR.out]; rfl, O1.out⟩
end Go.Proofs.YthmeifdgkodjlaaDoor
