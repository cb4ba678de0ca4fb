/- timesyncref56.Parse reads a scene. Condition: the length. -/
import Derived.Test.YthmeifdgkodjlaaGreatDoorUf
import Derived.Test.YthmeifdgkodjlaaGreatDoorU5
namespace Go.Proofs.YthmeifdgkodjlaaGreatDoor
open Go.RowKit
namespace Rf

theorem RdW.keptLow {B b : Nat} {w w' : World} {x : SSt} {ns : List NdW} {ls : List LkW} {vn vl vf : Value} {S : List Nat} (h : RdW B b w x ns ls vn vl vf) (ho : Only S w w') (hb : b ∉ S) (hS : ∀ k ∈ S, k < B) : RdW B b w' x ns ls vn vl vf :=
  ⟨ho.got h.box hb, h.hn, h.hl, h.nd.kept_below ho hS, h.lk.kept_below ho hS, h.ft.kept_below ho hS, fun y hy => (h.sg y hy).kept_below ho hS, fun y hy => (h.sv y hy).kept_below ho hS, fun y hy => (h.ch y hy).kept_below ho hS, h.apN, h.apL⟩
/-- the state of Parse's loop: so many lines are read, the rest begins at `fr` -/
def PsI (w : World) (W0 : Two) (b : Nat) (L : List UInt8) (v6 v7 v8 : Value) (wr : World) : Prop :=
  ∃ (c fr k : Nat) (x : SSt), v6 = .int .i64 c ∧ v7 = .int .i64 fr ∧ v8 = .int .i64 k ∧ k ≤ L.length ∧ fr ≤ k ∧ c ≤ fr ∧ (10 : UInt8) ∉ (L.drop fr).take (k - fr) ∧ rdA ss0 1 (pcs 10 L) = rdA x (c + 1) (pcs 10 (L.drop fr)) ∧
    SLm c x ∧ x.at_ ≤ 7 ∧ RdX W0 b wr x ∧ wr.heap[w.heap.size]? = some (.cells zSc 27 (0, 0))
theorem rdA_one (x : SSt) (n : Nat) (l : List UInt8) : rdA x n [l] = if l = [] ∧ whole x.at_ = true then .ok x else .error n := by rw [rdA]
theorem rdA_more (x : SSt) (n : Nat) (l : List UInt8) {r : List (List UInt8)} (h : r ≠ []) : rdA x n (l :: r) = match rdW x (pcs 32 l) with
    | none => .error n
    | some y => rdA y (n + 1) r := by
  rw [rdA]
  · cases rdW x (pcs 32 l) <;> rfl
  · exact h
set_option maxRecDepth 100000 in
set_option maxHeartbeats 4000000 in
theorem rParse (X : ByteArray) (L : List UInt8) (hL : X.data.toList = L) (hs : X.size ≤ 4000) (w : World) :
    Calls Tryz.prog 15 #[.string X] w fun e w' => PrsR (prsS L) e w' ∧ Only [] w w' := by
  have hsl : L.length = X.size := by rw [← hL]; exact ba_len X
  have hxt := fun a b => extract_bstr X a b
  rw [hL] at hxt
  have hgt : ∀ i (h : i < X.size), L[i]? = some X[i] := fun i h => by rw [← hL]; exact ba_get h
  have HSL := Lib.hid hsl; have HX := Lib.hid hxt; have HG := Lib.hid hgt
  have HPS : Hid (prsS L = match rdA ss0 1 (pcs 10 L) with
    | .error n => (sc0, n, 19)
    | .ok x => if chkS x.sc = 0 then (x.sc, 0, 0) else (sc0, 0, chkS x.sc)) := Lib.hid rfl
  generalize prsS L = res at HPS ⊢
  clear hsl hxt hgt hL
  go_enter Tryz.func15, Tryz.ntmps15
  go_upto_region 2 with (fail)
  obtain ⟨b, hb⟩ : ∃ b, b = w.heap.size + 1 := ⟨_, rfl⟩
  refine wabs (G := fun w0 => Code.wp _ _ _ _ w0) (R := fun w1 => w1.heap[w.heap.size]? = some (.cells zSc 27 (0, 0)) ∧ w1.heap[w.heap.size + 1]? = some (.cells #[.slice none 0 0, .slice none 0 0, .slice none 0 0, .int .i64 0, .int .u64 0, .int .i64 0] 92 (0, 0)) ∧ Only [] w w1) ?_ ?_
  · have k0 := alloc_new w (.cells zSc 27)
    have k1 := alloc_new (w.alloc (.cells zSc 27)) (.cells #[.slice none 0 0, .slice none 0 0, .slice none 0 0, .int .i64 0, .int .u64 0, .int .i64 0] 92)
    simp only [World.size_alloc] at k0 k1
    exact ⟨alloc_old k0, k1, ((Only.refl [] w).alloc _).alloc _⟩
  rintro w1 ⟨k0, k1, ho1⟩
  rw [← hb] at k1
  have hbw : b < w1.heap.size := got_lt k1
  have hX0 : RdX ⟨w1, w1⟩ b w1 ss0 := ⟨hbw, ⟨Only.refl _ _, ko_nil (Only.refl _ _)⟩, [], [], .slice none 0 0, .slice none 0 0, .slice none 0 0, k1, rfl, rfl, own_nil _ _, own_nil _ _, own_nil _ _, by simp, by simp, by simp, by simp, by simp⟩
  obtain ⟨W0, hW0⟩ : ∃ W0 : Two, W0 = ⟨w1, w1⟩ := ⟨_, rfl⟩
  rw [← hW0] at hX0
  have OB : Hid (∀ w', Ob b W0 w' → Only [] w w') := Lib.hid (fun w' h => by
    have h1 := h.only
    rw [hW0] at h1
    exact ho1.trans h1 (fun x hx => .inr (by rw [List.mem_singleton] at hx; omega)))
  have KB : Hid (∀ w', Ob b W0 w' → w'.heap[w.heap.size]? = some (.cells zSc 27 (0, 0))) := Lib.hid (fun w' h => by
    have h1 := h.only
    rw [hW0] at h1
    exact h1.got k0 (by rw [List.mem_singleton]; omega))
  have HWS : Hid (w.heap.size < W0.heap.size) := Lib.hid (by rw [hW0]; show w.heap.size < w1.heap.size; omega)
  have H0 := Lib.hid hX0; have K0 := Lib.hid k0
  rw [← hb]
  have hbn : b ≠ w.heap.size := by omega
  have HB := Lib.hid hb
  clear k1 ho1 hbw hX0 hW0 k0 hb
  go_wp2
  go_loopw [6, 7, 8] (fun v6 v7 v8 wr => PsI w W0 b L v6 v7 v8 wr) (fun _ _ v8 _ => X.size - (intOf v8).toNat)
  case atStart => exact ⟨0, 0, 0, ss0, rfl, rfl, rfl, Nat.zero_le _, Nat.le_refl _, Nat.le_refl _, by simp, by simp, slm0, by decide, H0.out, K0.out⟩
  case round =>
    clear H0 K0
    obtain ⟨c, fr, k, x, rfl, rfl, rfl, hk, hfk, hcf, hno, hrd, hsm, hat, hX, hrb⟩ := hrel
    have HNO := Lib.hid hno; have HRD := Lib.hid hrd; have SM := Lib.hid hsm; have HAT := Lib.hid hat; have RX := Lib.hid hX; have RBB := Lib.hid hrb
    rw [HSL.out] at hk
    clear hno hrd hsm hat hX hrb
    by_cases hlt : k < X.size
    · have hgi := HG.out k hlt
      have hsplit : L.drop fr = (L.drop fr).take (k - fr) ++ X[k] :: L.drop (k + 1) := by
        have h1 : (L.drop fr).drop (k - fr) = X[k] :: L.drop (k + 1) := by
          rw [List.drop_drop, show fr + (k - fr) = k by omega]
          have hil : k < L.length := by rw [HSL.out]; exact hlt
          rw [List.drop_eq_getElem_cons hil]
          congr 1
          rw [List.getElem?_eq_getElem hil] at hgi
          exact Option.some.inj hgi
        conv => lhs; rw [← List.take_append_drop (k - fr) (L.drop fr)]
        rw [h1]
      have hstep : (L.drop fr).take (k + 1 - fr) = (L.drop fr).take (k - fr) ++ [X[k]] := by
        conv => lhs; rw [hsplit]
        rw [show k + 1 - fr = (k - fr) + 1 by omega]
        have hlen : ((L.drop fr).take (k - fr)).length = k - fr := by rw [List.length_take, List.length_drop, HSL.out]; omega
        rw [List.take_append, hlen]
        simp only [Nat.add_sub_cancel_left, List.take_succ_cons, List.take_zero]
        rw [List.take_of_length_le (by rw [hlen]; omega)]
      have HSP := Lib.hid hsplit; have HST := Lib.hid hstep
      clear hsplit hstep hgi
      by_cases h10 : X[k].toNat = 10
      · have b1 : ((X[k].toNat : Int) != 10) = false := by simp [h10]
        have b2 : ((X[k].toNat : Int) == 10) = true := by simp [h10]
        have hc : X[k] = 10 := UInt8.toNat_inj.1 h10
        obtain ⟨a, ha⟩ : ∃ a, a = (L.drop fr).take (k - fr) := ⟨_, rfl⟩
        have hpc : pcs 10 (L.drop fr) = a :: pcs 10 (L.drop (k + 1)) := by
          conv => lhs; rw [HSP.out, hc]
          rw [pcs_cut _ HNO.out, ha]
        have hal : a.length ≤ 4000 := by rw [ha, List.length_take, List.length_drop, HSL.out]; omega
        have hex : X.extract fr k = bstr a := by rw [HX.out, ha]
        have hrm := rdA_more x (c + 1) a (pcs_ne 10 (L.drop (k + 1)))
        rw [← hpc] at hrm
        have HRM := Lib.hid (HRD.out.trans hrm)
        have HR := Lib.hid (read (l := a) RX.out ⟨Nat.le_trans SM.out.nd (by omega), Nat.le_trans SM.out.lk (by omega), Nat.le_trans SM.out.ft (by omega), fun y hy => by have := SM.out.sg y hy; omega, fun y hy => by have := SM.out.ch y hy; omega⟩ SM.out.l6 HAT.out (by omega))
        have HSS := Lib.hid (fun (y : SSt) (h : rdW x (pcs 32 a) = some y) => (⟨slm_step SM.out h, at7 h⟩ : SLm (c + 1) y ∧ y.at_ ≤ 7))
        generalize bstr a = A at hex HR
        have hf1 : (fr : Int) ≤ (k : Int) := by omega
        have hf2 : (k : Int) ≤ (X.size : Int) := by omega
        clear ha hpc hrm hal hc h10
        go_wp2_with fail
        refine HR.out.mono ?_
        rintro e w2 hr
        clear HR
        cases hq : rdW x (pcs 32 a) with
        | none =>
          rw [hq] at hr
          obtain ⟨rfl, hob⟩ : e = .returned (.bool false) ∧ Ob b W0 w2 := hr
          have HQ : Hid (res = (sc0, c + 1, 19)) := Lib.hid (by rw [HPS.out, HRM.out, hq])
          have OF := Lib.hid (OB.out w2 hob)
          have KF := Lib.hid (KB.out w2 hob)
          unfold zSc at KF
          clear hob hq HRM HSS
          have RB := KF
          have z0 := frozen_got RB.out 0; have z1 := frozen_got RB.out 1; have z2 := frozen_got RB.out 2; have z3 := frozen_got RB.out 3; have z4 := frozen_got RB.out 4
          have y0 := cell_got RB.out 0; have y1 := cell_got RB.out 1; have y2 := cell_got RB.out 2; have y3 := cell_got RB.out 3; have y4 := cell_got RB.out 4; have ly := got_lt RB.out
          go_wp2
          have HD := setCell_got (o := 4) (.int .u64 0) (setCell_got (o := 3) (.int .i64 0) (setCell_got (o := 2) (.slice none 0 0) (setCell_got (o := 1) (.slice none 0 0) (setCell_got (o := 0) (.slice none 0 0) RB.out))))
          have e0 := cell_got HD 0; have e1 := cell_got HD 1; have e2 := cell_got HD 2; have e3 := cell_got HD 3; have e4 := cell_got HD 4
          have le := got_lt HD
          refine bodyPost_ret (v := .tuple #[.agg #[.slice none 0 0, .slice none 0 0, .slice none 0 0, .int .i64 0, .int .u64 0], .int .i64 (c + 1 : Nat), .int .i64 19]) (by simp [results, Tryz.results15, go_sem, e0, e1, e2, e3, e4]) rfl ⟨?_, ((((OF.out.setCell (.inr (by simp)) _).setCell (.inr (by simp)) _).setCell (.inr (by simp)) _).setCell (.inr (by simp)) _).setCell (.inr (by simp)) _⟩
          exact prsR_bad HQ.out
        | some y =>
          rw [hq] at hr
          obtain ⟨rfl, hX2⟩ : e = .returned (.bool true) ∧ RdX W0 b w2 y := hr
          have X2 := Lib.hid hX2
          have HS2 := Lib.hid (HSS.out y hq)
          have HN2 : Hid (rdA ss0 1 (pcs 10 L) = rdA y (c + 1 + 1) (pcs 10 (L.drop (k + 1)))) := Lib.hid (by rw [HRM.out, hq])
          have K2 := Lib.hid (KB.out w2 hX2.2.1)
          clear hX2 hq HRM HSS
          go_wp2
          go_roundw
          case rel => exact ⟨c + 1, k + 1, k + 1, y, by go_num, by go_num, by go_num, by rw [HSL.out]; omega, Nat.le_refl _, by omega, by simp, HN2.out, HS2.out.1, HS2.out.2, X2.out, K2.out⟩
          case measure => first | (simp [intOf]; done) | (simp [intOf]; omega)
      · have b1 : ((X[k].toNat : Int) != 10) = true := by simp; omega
        have b2 : ((X[k].toNat : Int) == 10) = false := by simp; omega
        have HN2 : Hid ((10 : UInt8) ∉ (L.drop fr).take (k + 1 - fr)) := Lib.hid (by
          rw [HST.out]
          intro hm
          rcases List.mem_append.1 hm with hm | hm
          · exact HNO.out hm
          · simp only [List.mem_singleton] at hm
            exact h10 (by rw [← hm]; rfl))
        clear h10
        go_wp2
        go_roundw
        case rel => exact ⟨c, fr, k + 1, x, rfl, rfl, by go_num, by rw [HSL.out]; omega, by omega, hcf, HN2.out, HRD.out, SM.out, HAT.out, RX.out, RBB.out⟩
        case measure => first | (simp [intOf]; done) | (simp [intOf]; omega)
    · obtain rfl : k = X.size := by omega
      have hll : (10 : UInt8) ∉ L.drop fr := by
        have := HNO.out
        rwa [List.take_of_length_le (by rw [List.length_drop, HSL.out]; omega)] at this
      have HE := Lib.hid (show rdA ss0 1 (pcs 10 L) = if L.drop fr = [] ∧ whole x.at_ = true then .ok x else .error (c + 1) by rw [HRD.out, pcs_no hll, rdA_one])
      obtain ⟨_, hob, ns, ls, vn, vl, vf, hR⟩ := RX.out
      obtain ⟨pn, cn, v1, _⟩ := hR.nd.vrow ndC_len
      obtain ⟨pl, cl, v2, _⟩ := hR.lk.vrow lkC_len
      obtain ⟨pf, cf, v3, _⟩ := hR.ft.vrow ftC_len
      subst v1 v2 v3
      have HR := Lib.hid hR; have OF := Lib.hid (OB.out wr hob); have HOB := Lib.hid hob
      have q5 := cell_got HR.out.box 5; have lq := got_lt HR.out.box
      unfold zSc at RBB
      clear hll hR hob RX
      by_cases hfr : fr < X.size
      · have HQ : Hid (res = (sc0, c + 1, 19)) := Lib.hid (by
          rw [HPS.out, HE.out, if_neg (fun q => by have := congrArg List.length q.1; rw [List.length_drop, HSL.out] at this; simp at this; omega)])
        have n1 : decide ((fr : Int) < (X.size : Int)) = true := decide_eq_true (by omega)
        have n2 : decide (fr < X.size) = true := decide_eq_true hfr
        clear hfr
        have RB := RBB
        have z0 := frozen_got RB.out 0; have z1 := frozen_got RB.out 1; have z2 := frozen_got RB.out 2; have z3 := frozen_got RB.out 3; have z4 := frozen_got RB.out 4
        have y0 := cell_got RB.out 0; have y1 := cell_got RB.out 1; have y2 := cell_got RB.out 2; have y3 := cell_got RB.out 3; have y4 := cell_got RB.out 4; have ly := got_lt RB.out
        go_wp2
        have HD := setCell_got (o := 4) (.int .u64 0) (setCell_got (o := 3) (.int .i64 0) (setCell_got (o := 2) (.slice none 0 0) (setCell_got (o := 1) (.slice none 0 0) (setCell_got (o := 0) (.slice none 0 0) RB.out))))
        have e0 := cell_got HD 0; have e1 := cell_got HD 1; have e2 := cell_got HD 2; have e3 := cell_got HD 3; have e4 := cell_got HD 4
        have le := got_lt HD
        refine bodyPost_ret (v := .tuple #[.agg #[.slice none 0 0, .slice none 0 0, .slice none 0 0, .int .i64 0, .int .u64 0], .int .i64 (c + 1 : Nat), .int .i64 19]) (by simp [results, Tryz.results15, go_sem, e0, e1, e2, e3, e4]) rfl ⟨?_, ((((OF.out.setCell (.inr (by simp)) _).setCell (.inr (by simp)) _).setCell (.inr (by simp)) _).setCell (.inr (by simp)) _).setCell (.inr (by simp)) _⟩
        exact prsR_bad HQ.out
      · have n1 : decide ((fr : Int) < (X.size : Int)) = false := decide_eq_false (by omega)
        have n2 : decide (fr < X.size) = false := decide_eq_false hfr
        have hdr : L.drop fr = [] := List.eq_nil_of_length_eq_zero (by rw [List.length_drop, HSL.out]; omega)
        clear hfr
        by_cases h2 : x.at_ < 2
        · have HQ : Hid (res = (sc0, c + 1, 19)) := Lib.hid (by
            rw [HPS.out, HE.out, if_neg (fun q => by have := q.2; unfold whole at this; rw [decide_eq_true_eq] at this; omega)])
          have a1 : decide ((x.at_ : Int) < 2) = true := decide_eq_true (by omega)
          clear hdr h2
          have RB := RBB
          have z0 := frozen_got RB.out 0; have z1 := frozen_got RB.out 1; have z2 := frozen_got RB.out 2; have z3 := frozen_got RB.out 3; have z4 := frozen_got RB.out 4
          have y0 := cell_got RB.out 0; have y1 := cell_got RB.out 1; have y2 := cell_got RB.out 2; have y3 := cell_got RB.out 3; have y4 := cell_got RB.out 4; have ly := got_lt RB.out
          go_wp2
          have HD := setCell_got (o := 4) (.int .u64 0) (setCell_got (o := 3) (.int .i64 0) (setCell_got (o := 2) (.slice none 0 0) (setCell_got (o := 1) (.slice none 0 0) (setCell_got (o := 0) (.slice none 0 0) RB.out))))
          have e0 := cell_got HD 0; have e1 := cell_got HD 1; have e2 := cell_got HD 2; have e3 := cell_got HD 3; have e4 := cell_got HD 4
          have le := got_lt HD
          refine bodyPost_ret (v := .tuple #[.agg #[.slice none 0 0, .slice none 0 0, .slice none 0 0, .int .i64 0, .int .u64 0], .int .i64 (c + 1 : Nat), .int .i64 19]) (by simp [results, Tryz.results15, go_sem, e0, e1, e2, e3, e4]) rfl ⟨?_, ((((OF.out.setCell (.inr (by simp)) _).setCell (.inr (by simp)) _).setCell (.inr (by simp)) _).setCell (.inr (by simp)) _).setCell (.inr (by simp)) _⟩
          exact prsR_bad HQ.out
        · have a1 : decide ((x.at_ : Int) < 2) = false := decide_eq_false (by omega)
          by_cases h3 : x.at_ = 3
          · have HQ : Hid (res = (sc0, c + 1, 19)) := Lib.hid (by
              rw [HPS.out, HE.out, if_neg (fun q => by have := q.2; unfold whole at this; rw [decide_eq_true_eq] at this; omega)])
            have a2 : ((x.at_ : Int) == 3) = true := by rw [beq_iff_eq]; omega
            clear hdr h2 h3
            have RB := RBB
            have z0 := frozen_got RB.out 0; have z1 := frozen_got RB.out 1; have z2 := frozen_got RB.out 2; have z3 := frozen_got RB.out 3; have z4 := frozen_got RB.out 4
            have y0 := cell_got RB.out 0; have y1 := cell_got RB.out 1; have y2 := cell_got RB.out 2; have y3 := cell_got RB.out 3; have y4 := cell_got RB.out 4; have ly := got_lt RB.out
            go_wp2
            have HD := setCell_got (o := 4) (.int .u64 0) (setCell_got (o := 3) (.int .i64 0) (setCell_got (o := 2) (.slice none 0 0) (setCell_got (o := 1) (.slice none 0 0) (setCell_got (o := 0) (.slice none 0 0) RB.out))))
            have e0 := cell_got HD 0; have e1 := cell_got HD 1; have e2 := cell_got HD 2; have e3 := cell_got HD 3; have e4 := cell_got HD 4
            have le := got_lt HD
            refine bodyPost_ret (v := .tuple #[.agg #[.slice none 0 0, .slice none 0 0, .slice none 0 0, .int .i64 0, .int .u64 0], .int .i64 (c + 1 : Nat), .int .i64 19]) (by simp [results, Tryz.results15, go_sem, e0, e1, e2, e3, e4]) rfl ⟨?_, ((((OF.out.setCell (.inr (by simp)) _).setCell (.inr (by simp)) _).setCell (.inr (by simp)) _).setCell (.inr (by simp)) _).setCell (.inr (by simp)) _⟩
            exact prsR_bad HQ.out
          · have a2 : ((x.at_ : Int) == 3) = false := by rw [beq_eq_false_iff_ne]; omega
            have HW : Hid (res = if chkS x.sc = 0 then (x.sc, 0, 0) else (sc0, 0, chkS x.sc)) := Lib.hid (by
              rw [HPS.out, HE.out, if_pos ⟨hdr, by unfold whole; rw [decide_eq_true_eq]; omega⟩])
            clear hdr h2 h3 HE
            obtain ⟨s, hs1, hs2, hs3⟩ := HR.out.scene ⟨Nat.le_trans SM.out.nd (by omega), Nat.le_trans SM.out.lk (by omega), Nat.le_trans SM.out.ft (by omega), fun y hy => by have := SM.out.sg y hy; omega, fun y hy => by have := SM.out.ch y hy; omega⟩
            have HS3 := Lib.hid hs3; have HS1 := Lib.hid hs1; have HS2 := Lib.hid hs2
            have hck := rCheck s (hs3 _ _ _ HR.out)
            rw [hs2, hs1] at hck
            have HCK := Lib.hid hck
            have q0 := cell_got HR.out.box 0; have q1 := cell_got HR.out.box 1; have q2 := cell_got HR.out.box 2; have q3 := cell_got HR.out.box 3; have q4 := cell_got HR.out.box 4
            clear hs1 hs2 hs3 hck
            go_wp2_with fail
            refine HCK.out.mono ?_
            rintro e w2 ⟨rfl, ho2⟩
            have HR2 := Lib.hid (HR.out.kept ho2); have O2 := Lib.hid (OF.out.nil_trans ho2); have RB2 := Lib.hid (ho2.got RBB.out (by simp))
            clear ho2 HR q0 q1 q2 q3 q4 q5 lq HCK
            by_cases hc : chkS x.sc = 0
            · have HQ : Hid (res = (x.sc, 0, 0)) := Lib.hid (by rw [HW.out, if_pos hc])
              rw [hc]
              have RB := RB2
              have q0 := cell_got HR2.out.box 0; have q1 := cell_got HR2.out.box 1; have q2 := cell_got HR2.out.box 2; have q3 := cell_got HR2.out.box 3; have q4 := cell_got HR2.out.box 4; have lq := got_lt HR2.out.box
              have z0 := frozen_got RB.out 0; have z1 := frozen_got RB.out 1; have z2 := frozen_got RB.out 2; have z3 := frozen_got RB.out 3; have z4 := frozen_got RB.out 4
              have y0 := cell_got RB.out 0; have y1 := cell_got RB.out 1; have y2 := cell_got RB.out 2; have y3 := cell_got RB.out 3; have y4 := cell_got RB.out 4; have ly := got_lt RB.out
              clear hc HW
              go_wp2
              have HD := setCell_got (o := 4) (.int .u64 x.sc.sd) (setCell_got (o := 3) (.int .i64 x.sc.un) (setCell_got (o := 2) (.slice pf x.sc.ft.length cf) (setCell_got (o := 1) (.slice pl ls.length cl) (setCell_got (o := 0) (.slice pn ns.length cn) RB.out))))
              have e0 := cell_got HD 0; have e1 := cell_got HD 1; have e2 := cell_got HD 2; have e3 := cell_got HD 3; have e4 := cell_got HD 4
              have le := got_lt HD
              have hst := ((((((Only.refl [w.heap.size] w2).setCell (p := ⟨w.heap.size, 0, none⟩) (.inl (by simp)) (.slice pn ns.length cn)).setCell (p := ⟨w.heap.size, 1, none⟩) (.inl (by simp)) (.slice pl ls.length cl)).setCell (p := ⟨w.heap.size, 2, none⟩) (.inl (by simp)) (.slice pf x.sc.ft.length cf)).setCell (p := ⟨w.heap.size, 3, none⟩) (.inl (by simp)) (.int .i64 x.sc.un)).setCell (p := ⟨w.heap.size, 4, none⟩) (.inl (by simp)) (.int .u64 x.sc.sd))
              have hR3 := HR2.out.keptLow hst (by simpa using hbn) (fun k hk => by rw [List.mem_singleton] at hk; rw [hk]; exact HWS.out)
              refine bodyPost_ret (v := .tuple #[.agg #[.slice pn ns.length cn, .slice pl ls.length cl, .slice pf x.sc.ft.length cf, .int .i64 x.sc.un, .int .u64 x.sc.sd], .int .i64 0, .int .i64 0]) (by simp [results, Tryz.results15, go_sem, e0, e1, e2, e3, e4]) rfl ⟨?_, ((((O2.out.setCell (.inr (by simp)) _).setCell (.inr (by simp)) _).setCell (.inr (by simp)) _).setCell (.inr (by simp)) _).setCell (.inr (by simp)) _⟩
              refine ⟨s, by rw [HS1.out, HQ.out], HS3.out _ _ _ hR3, ?_⟩
              rw [HS2.out, HQ.out]
              rfl
            · have HQ : Hid (res = (sc0, 0, chkS x.sc)) := Lib.hid (by rw [HW.out, if_neg hc])
              generalize chkS x.sc = ec at hc HQ ⊢
              have r1 : (ec != 0) = true := by simp [hc]
              have r2 : (ec == 0) = false := by simp [hc]
              clear hc HW
              have RB := RB2
              have z0 := frozen_got RB.out 0; have z1 := frozen_got RB.out 1; have z2 := frozen_got RB.out 2; have z3 := frozen_got RB.out 3; have z4 := frozen_got RB.out 4
              have y0 := cell_got RB.out 0; have y1 := cell_got RB.out 1; have y2 := cell_got RB.out 2; have y3 := cell_got RB.out 3; have y4 := cell_got RB.out 4; have ly := got_lt RB.out
              go_wp2
              have HD := setCell_got (o := 4) (.int .u64 0) (setCell_got (o := 3) (.int .i64 0) (setCell_got (o := 2) (.slice none 0 0) (setCell_got (o := 1) (.slice none 0 0) (setCell_got (o := 0) (.slice none 0 0) RB.out))))
              have e0 := cell_got HD 0; have e1 := cell_got HD 1; have e2 := cell_got HD 2; have e3 := cell_got HD 3; have e4 := cell_got HD 4
              have le := got_lt HD
              refine bodyPost_ret (v := .tuple #[.agg #[.slice none 0 0, .slice none 0 0, .slice none 0 0, .int .i64 0, .int .u64 0], .int .i64 0, .int .i64 ec]) (by simp [results, Tryz.results15, go_sem, e0, e1, e2, e3, e4]) rfl ⟨?_, ((((O2.out.setCell (.inr (by simp)) _).setCell (.inr (by simp)) _).setCell (.inr (by simp)) _).setCell (.inr (by simp)) _).setCell (.inr (by simp)) _⟩
              exact prsR_bad HQ.out
end Rf
end Go.Proofs.YthmeifdgkodjlaaGreatDoor
