/- number of the reference: the int that a word is. Condition: the length. -/
import Derived.Test.YtdpfbedcejahjaaDoorRn1
import Derived.Deep.Light
namespace Go.Proofs.YtdpfbedcejahjaaDoor
open Go.RowKit

set_option maxRecDepth 100000 in
set_option maxHeartbeats 2000000 in
theorem rnumber_b (S D : ByteArray) (neg : Bool) (s : List UInt8) (w : World) (HSG : Hid (Sgn s D.data.toList neg)) (HDL : Hid (D.data.toList.length = D.size)) (HNE : Hid (∀ T : ByteArray, (S.toList == T.toList) = decide (T.data.toList = s))) (hneg : neg = true) (hDz : D.size ≤ 19) (hDS : S.extract 1 S.size = D) (t2 : S.toList.isEmpty = false) (h0 : 0 < S.size) (t3 : ((S[0].toNat : Int) == 45) = true) :
    Calls Tryd.prog 43 #[.string S] w fun e w' => NumV (numO s) e ∧ Only [] w w' := by
  have d1 : decide (19 < (D.size : Int)) = false := by simp; omega
  have d2 : decide (19 < D.size) = false := by simp; omega
  have t4 : (1 : Int) ≤ (S.size : Int) := by omega
  go_enter Tryd.func43, Tryd.ntmps43
  go_wp2
  clear t2 d1 d2
  go_loop [6, 7] (fun vm vi => NumL D vm vi) (fun _ vi => D.size - (intOf vi).toNat)
  case atStart => exact ⟨0, 0, Nat.zero_le _, rfl, rfl, rfl⟩
  case round =>
    obtain ⟨k, m, hk, rfl, rfl, hd⟩ := hrel
    have HD := Lib.hid hd
    have hm10 : m < 10000000000000000000 := decFrom_lt10 hd (by rw [List.length_take, HDL.out]; omega)
    clear hd
    by_cases hlt : k < D.size
    · have hget : D.data.toList[k]? = some D[k] := by
        rw [List.getElem?_eq_getElem (by rw [HDL.out]; exact hlt)]; rfl
      have hm9 : m < 1000000000000000000 := Lib.decFrom_lt18 HD.out (by rw [List.length_take, HDL.out]; omega)
      have HG := Lib.hid hget
      clear hget
      by_cases h48 : D[k].toNat < 48
      · have q1 : decide ((D[k].toNat : Int) < 48) = true := by simp; omega
        have HN : Hid (numO s = none) := Lib.hid (num_byte HSG.out (List.mem_of_getElem? HG.out) (by omega))
        go_wp2
        go_ret2
        exact ⟨by rw [HN.out]; exact ⟨0, rfl⟩, Only.refl _ _⟩
      · have q1 : decide ((D[k].toNat : Int) < 48) = false := by simp; omega
        by_cases h57 : 57 < D[k].toNat
        · have q2 : decide (57 < (D[k].toNat : Int)) = true := by simp; omega
          have HN : Hid (numO s = none) := Lib.hid (num_byte HSG.out (List.mem_of_getElem? HG.out) (by omega))
          go_wp2
          go_ret2
          exact ⟨by rw [HN.out]; exact ⟨0, rfl⟩, Only.refl _ _⟩
        · have q2 : decide (57 < (D[k].toNat : Int)) = false := by simp; omega
          have HN := Lib.hid (Lib.decFrom_take D.data.toList k 0 m D[k] (D[k].toNat - 48) HD.out HG.out (by unfold Lib.digitVal; rw [if_pos (by omega)]))
          go_wp2
          go_round
          case rel => exact ⟨k + 1, m * 10 + (D[k].toNat - 48), by omega, by go_num, by congr 1; omega, HN.out⟩
          case measure => simp [intOf]; omega
    · obtain rfl : k = D.size := by omega
      have e : Lib.decFrom 0 D.data.toList = some m := by
        have := HD.out
        rwa [List.take_of_length_le (by rw [HDL.out]; exact Nat.le_refl _)] at this
      have HM := Lib.hid e
      clear e HD
      by_cases hbig : 9223372036854775808 < m ∨ (m = 9223372036854775808 ∧ neg = false)
      · have HN : Hid (numO s = none) := Lib.hid (num_range HSG.out HM.out hbig)
        by_cases hb1 : 9223372036854775808 < m
        · have q1 : decide (9223372036854775808 < (m : Int)) = true := by simp; omega
          have q2 : decide (9223372036854775808 < m) = true := by simp; omega
          clear hbig
          go_wp2
          go_ret2
          exact ⟨by rw [HN.out]; exact ⟨0, rfl⟩, Only.refl _ _⟩
        · obtain ⟨hm, hn⟩ : m = 9223372036854775808 ∧ neg = false := by
            rcases hbig with h | h
            · exact absurd h hb1
            · exact h
          subst hm
          rw [hneg] at hn; cases hn
      · have hm1 : m ≤ 9223372036854775808 := by omega
        have hm2 : neg = false → m ≤ 9223372036854775807 := fun h => by
          rcases Nat.lt_or_ge m 9223372036854775808 with h1 | h1
          · omega
          · exact absurd (.inr ⟨by omega, h⟩) hbig
        have hval := num_value HSG.out HM.out hm1 hm2
        have q1 : decide (9223372036854775808 < (m : Int)) = false := by simp; omega
        have q2 : decide (9223372036854775808 < m) = false := by simp; omega
        rw [hneg] at hval hm2
        clear hbig
        simp only [if_true] at hval
        clear hm2
        have hdec := rdecimal (-(m : Int)) ⟨by omega, by omega⟩
        have heq := HNE.out (bstr (Lib.itoa (-(m : Int))))
        rw [bstr_data] at heq
        by_cases hm0 : m = 0
        · subst hm0
          have hns : numO s = none := by
            rw [hval, if_neg]
            intro q
            rcases HSG.out with ⟨_, e⟩ | ⟨e, _⟩
            · rw [e] at q
              simp [Lib.itoa, Lib.decDigits] at q
            · rw [hneg] at e; cases e
          have hi0 : ¬ Lib.itoa 0 = s := by
            intro q
            rcases HSG.out with ⟨_, e⟩ | ⟨e, _⟩
            · rw [e] at q
              simp [Lib.itoa, Lib.decDigits] at q
            · rw [hneg] at e; cases e
          have HN := Lib.hid hns
          clear hns hval hdec heq
          have hdec := rdecimal 0 ⟨by omega, by omega⟩
          have heq := HNE.out (bstr (Lib.itoa 0))
          rw [bstr_data, decide_eq_false hi0] at heq
          clear hi0
          generalize bstr (Lib.itoa 0) = T at hdec heq
          have HDC := Lib.hid hdec
          clear hdec
          go_wp2_with fail
          with_reducible refine (HDC.out w).mono ?_
          rintro e w' ⟨rfl, ho⟩
          go_wp2
          go_ret2
          exact ⟨by rw [HN.out]; exact ⟨0, rfl⟩, ho⟩
        · have q3 : decide (0 < (m : Int)) = true := by simp; omega
          have q4 : decide (0 < m) = true := by simp; omega
          have q5 : -((m : Int) - 1) - 1 = -(m : Int) := by omega
          obtain ⟨bx, q6⟩ : ∃ b, ((m : Int) == 9223372036854775808) = b := ⟨_, rfl⟩
          by_cases hit : Lib.itoa (-(m : Int)) = s
          · rw [decide_eq_true hit] at heq
            have HN : Hid (numO s = some (-(m : Int))) := Lib.hid (by rw [hval, if_pos hit])
            clear hval hit
            generalize bstr (Lib.itoa (-(m : Int))) = T at hdec heq
            have HDC := Lib.hid hdec
            clear hdec
            cases bx
            all_goals
              go_wp2_with fail
              with_reducible refine (HDC.out w).mono ?_
              rintro e w' ⟨rfl, ho⟩
              go_wp2
              go_ret2
              exact ⟨by rw [HN.out]; exact ⟨0, rfl⟩, ho⟩
          · rw [decide_eq_false hit] at heq
            have HN : Hid (numO s = none) := Lib.hid (by rw [hval, if_neg hit])
            clear hval hit
            generalize bstr (Lib.itoa (-(m : Int))) = T at hdec heq
            have HDC := Lib.hid hdec
            clear hdec
            cases bx
            all_goals
              go_wp2_with fail
              with_reducible refine (HDC.out w).mono ?_
              rintro e w' ⟨rfl, ho⟩
              go_wp2
              go_ret2
              exact ⟨by rw [HN.out]; exact ⟨-(m : Int), rfl⟩, ho⟩

set_option maxRecDepth 100000 in
set_option maxHeartbeats 2000000 in
theorem rnumber (S : ByteArray) (hS : S.size ≤ 1000000) (w : World) :
    Calls Tryd.prog 43 #[.string S] w fun e w' => NumV (numO S.data.toList) e ∧ Only [] w w' := by
  have hSl : S.data.toList.length = S.size := by rw [Array.length_toList]; rfl
  obtain ⟨D, neg, hsg, hDs, hcase⟩ : ∃ (D : ByteArray) (neg : Bool), Sgn S.data.toList D.data.toList neg ∧ D.size ≤ S.size ∧
      ((S.data.toList = [] ∧ D = S ∧ neg = false) ∨ (∃ h0 : 0 < S.size, S[0].toNat = 45 ∧ D = S.extract 1 S.size ∧ neg = true) ∨ (∃ h0 : 0 < S.size, S[0].toNat ≠ 45 ∧ D = S ∧ neg = false)) := by
    cases hq : S.data.toList with
    | nil => exact ⟨S, false, .inr ⟨rfl, hq.symm, by rw [hq]; simp⟩, Nat.le_refl _, .inl ⟨rfl, rfl, rfl⟩⟩
    | cons c r =>
      have h0 : 0 < S.size := by rw [← hSl, hq]; simp
      have hc : S[0] = c := by
        have h1 : S.data.toList[0]? = some S[0] := by rw [List.getElem?_eq_getElem (by rw [hSl]; exact h0)]; rfl
        rw [hq] at h1
        simpa using h1.symm
      by_cases h45 : c = 45
      · subst h45
        have hx : (S.extract 1 S.size).data.toList = r := by rw [Lib.extract_to_end, hq]; rfl
        refine ⟨S.extract 1 S.size, true, .inl ⟨rfl, by rw [hx]⟩, ?_, .inr (.inl ⟨h0, by rw [hc]; rfl, rfl, rfl⟩)⟩
        simp
      · have hr : ∀ q, S.data.toList ≠ 45 :: q := by
          intro q e; rw [hq] at e; injection e with e1 _; exact h45 e1
        exact ⟨S, false, .inr ⟨rfl, hq.symm, hr⟩, Nat.le_refl _, .inr (.inr ⟨h0, fun e => h45 (by rw [← hc]; exact UInt8.toNat_inj.1 e), rfl, rfl⟩)⟩
  have hDl : D.data.toList.length = D.size := by rw [Array.length_toList]; rfl
  obtain ⟨s, hs⟩ : ∃ s, s = S.data.toList := ⟨_, rfl⟩
  obtain ⟨ds, hds⟩ : ∃ ds, ds = D.data.toList := ⟨_, rfl⟩
  have hne : ∀ T : ByteArray, (S.toList == T.toList) = decide (T.data.toList = s) := by
    intro T
    rw [hs, Lib.toList_data, Lib.toList_data, Bool.eq_iff_iff]
    simp only [beq_iff_eq, decide_eq_true_eq]
    exact eq_comm
  rw [← hs] at hsg ⊢
  have HSG := Lib.hid hsg; have HDL := Lib.hid hDl; have HNE := Lib.hid hne
  have hemp : (S.data.toList = [] → S.toList = [] ∧ S.toList.isEmpty = true) ∧ (0 < S.size → ¬ S.toList = [] ∧ S.toList.isEmpty = false) := by
    refine ⟨fun h => ?_, fun h => ?_⟩
    · rw [Lib.toList_data, h]; exact ⟨rfl, rfl⟩
    · rw [Lib.toList_data]
      cases hq : S.data.toList with
      | nil => rw [hq] at hSl; simp at hSl; omega
      | cons a b => exact ⟨by simp, rfl⟩
  have HEM := Lib.hid hemp
  clear hemp hsg hs hds hDl hne hSl
  have facts : (neg = false ∧ D = S ∧ S.toList = [] ∧ S.toList.isEmpty = true ∧ D.size = 0) ∨ (neg = true ∧ S.extract 1 S.size = D ∧ ¬ S.toList = [] ∧ S.toList.isEmpty = false ∧ ∃ h0 : 0 < S.size, ((S[0].toNat : Int) == 45) = true) ∨
      (neg = false ∧ D = S ∧ ¬ S.toList = [] ∧ S.toList.isEmpty = false ∧ ∃ h0 : 0 < S.size, ((S[0].toNat : Int) == 45) = false) := by
    rcases hcase with ⟨h1, h2, h3⟩ | ⟨h0, h1, h2, h3⟩ | ⟨h0, h1, h2, h3⟩
    · exact .inl ⟨h3, h2, (HEM.out.1 h1).1, (HEM.out.1 h1).2, by rw [h2, show S.size = S.data.toList.length by rw [Array.length_toList]; rfl, h1]; rfl⟩
    · exact .inr (.inl ⟨h3, h2.symm, (HEM.out.2 h0).1, (HEM.out.2 h0).2, h0, by simp; omega⟩)
    · exact .inr (.inr ⟨h3, h2, (HEM.out.2 h0).1, (HEM.out.2 h0).2, h0, by simp; omega⟩)
  clear hcase HEM
  by_cases h19 : 19 < D.size
  · have HN : Hid (numO s = none) := Lib.hid (num_long HSG.out (by rw [HDL.out]; exact h19))
    have d1 : decide (19 < (D.size : Int)) = true := by simp; omega
    have d2 : decide (19 < D.size) = true := by simp; omega
    rcases facts with ⟨rfl, hDS, t1, t2, t3⟩ | ⟨rfl, hDS, t1, t2, h0, t3⟩ | ⟨rfl, rfl, t1, t2, h0, t3⟩
    · omega
    · have t4 : (1 : Int) ≤ (S.size : Int) := by omega
      go_enter Tryd.func43, Tryd.ntmps43
      go_wp2
      go_ret2
      exact ⟨by rw [HN.out]; exact ⟨0, rfl⟩, Only.refl _ _⟩
    · go_enter Tryd.func43, Tryd.ntmps43
      go_wp2
      go_ret2
      exact ⟨by rw [HN.out]; exact ⟨0, rfl⟩, Only.refl _ _⟩
  · rcases facts with ⟨hneg, hDS, t1, t2, t3⟩ | ⟨hneg, hDS, t1, t2, h0, t3⟩ | ⟨hneg, hDS, t1, t2, h0, t3⟩
    · exact rnumber_a S D neg s w HSG HDL HNE hneg (by omega) hDS t1 t2
    · exact rnumber_b S D neg s w HSG HDL HNE hneg (by omega) hDS t2 h0 t3
    · exact rnumber_c S D neg s w HSG HDL HNE hneg (by omega) hDS t1 t2 h0 t3
end Go.Proofs.YtdpfbedcejahjaaDoor
