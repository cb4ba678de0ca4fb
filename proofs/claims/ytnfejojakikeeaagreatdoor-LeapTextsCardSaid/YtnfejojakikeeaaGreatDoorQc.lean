/- parse, blank, fields, numbers, before of the reference of layer 6. Condition: the length. -/
import Derived.Test.YtnfejojakikeeaaGreatDoorQb
import Derived.Test.YtnfejojakikeeaaGreatDoorKe
namespace Go.Proofs.YtnfejojakikeeaaGreatDoor
open Go.RowKit

set_option maxRecDepth 100000 in
set_option maxHeartbeats 2000000 in
theorem rparse (S : ByteArray) (hS : S.size ≤ 1000000) (w : World) :
    Calls Tryz.prog 70 #[.string S] w fun e w' => NumP (numO S.data.toList) e ∧ w = w' := by
  have hSl : S.data.toList.length = S.size := by rw [Array.length_toList]; rfl
  obtain ⟨D, neg, hsg, hDs, hcase⟩ : ∃ (D : ByteArray) (neg : Bool), Sgn S.data.toList D.data.toList neg ∧ D.size ≤ S.size ∧
      ((S.data.toList = [] ∧ D = S ∧ neg = false) ∨ (∃ h0 : 0 < S.size, ((S[0].toNat : Int) == 45) = true ∧ S.extract 1 S.size = D ∧ neg = true) ∨ (∃ h0 : 0 < S.size, ((S[0].toNat : Int) == 45) = false ∧ D = S ∧ neg = false)) := by
    cases hq : S.data.toList with
    | nil => exact ⟨S, false, .inr ⟨rfl, hq.symm, by rw [hq]; simp⟩, Nat.le_refl _, .inl ⟨rfl, rfl, rfl⟩⟩
    | cons c r =>
      have h0 : 0 < S.size := by rw [← hSl, hq]; simp
      have hc : S[0] = c := by
        have h1 : S.data.toList[0]? = some S[0] := by rw [List.getElem?_eq_getElem (by rw [hSl]; exact h0)]; rfl
        rw [hq] at h1
        simpa using h1.symm
      by_cases h45 : c = 45
      · subst h45
        have hx : (S.extract 1 S.size).data.toList = r := by rw [Lib.extract_to_end, hq]; rfl
        refine ⟨S.extract 1 S.size, true, .inl ⟨rfl, by rw [hx]⟩, ?_, .inr (.inl ⟨h0, by rw [hc]; rfl, rfl, rfl⟩)⟩
        simp
      · have hr : ∀ q, S.data.toList ≠ 45 :: q := by
          intro q e; rw [hq] at e; injection e with e1 _; exact h45 e1
        exact ⟨S, false, .inr ⟨rfl, hq.symm, hr⟩, Nat.le_refl _, .inr (.inr ⟨h0, by
          rw [beq_eq_false_iff_ne, hc]; intro e
          exact h45 (UInt8.toNat_inj.1 (show c.toNat = 45 by omega)), rfl, rfl⟩)⟩
  have hDl : D.data.toList.length = D.size := by rw [Array.length_toList]; rfl
  obtain ⟨s, hs⟩ : ∃ s, s = S.data.toList := ⟨_, rfl⟩
  rw [← hs] at hsg hcase ⊢
  have HSG := Lib.hid hsg; have HDL := Lib.hid hDl; have HSE := Lib.hid hs
  clear hsg hDl hSl hs
  by_cases hD0 : D.size = 0
  · have hnil : D.data.toList = [] := List.length_eq_zero_iff.1 (by rw [HDL.out]; exact hD0)
    have HN : Hid (numO s = none) := Lib.hid (num_nil (neg := neg) (by have := HSG.out; rwa [hnil] at this))
    have a3 : ((D.size : Int) == 0) = true := by rw [hD0]; rfl
    unfold NumP
    rcases hcase with ⟨h1, rfl, rfl⟩ | ⟨h0, t3, hDS, rfl⟩ | ⟨h0, t3, rfl, rfl⟩
    · have a1 : decide (0 < (D.size : Int)) = false := by rw [hD0]; rfl
      have a2 : decide ((D.size : Int) > 0) = false := by rw [hD0]; rfl
      go_enter Tryz.func70, Tryz.ntmps70
      go_wp2
      go_ret2
      exact ⟨by rw [HN.out]; rfl, rfl⟩
    · have a1 : decide (0 < (S.size : Int)) = true := by simp; omega
      have a2 : decide ((S.size : Int) > 0) = true := by simp; omega
      have t4 : (1 : Int) ≤ (S.size : Int) := by omega
      go_enter Tryz.func70, Tryz.ntmps70
      go_wp2
      go_ret2
      exact ⟨by rw [HN.out]; rfl, rfl⟩
    · omega
  · have hne : D.data.toList ≠ [] := fun e => hD0 (by rw [← HDL.out, e]; rfl)
    have hpos : 0 < D.size := by omega
    have hd0 : D.data.toList[0]? = some D[0] := by rw [List.getElem?_eq_getElem (by rw [HDL.out]; exact hpos)]; rfl
    have a3 : ((D.size : Int) == 0) = false := by rw [beq_eq_false_iff_ne]; omega
    by_cases h19 : 19 < D.size
    · have HN : Hid (numO s = none) := Lib.hid (num_long HSG.out (by rw [HDL.out]; exact h19))
      have d1 : decide (19 < (D.size : Int)) = true := by simp; omega
      have d2 : decide ((D.size : Int) > 19) = true := by simp; omega
      unfold NumP
      clear hd0 hne
      rcases hcase with ⟨h1, rfl, rfl⟩ | ⟨h0, t3, hDS, rfl⟩ | ⟨h0, t3, rfl, rfl⟩
      · exfalso
        have := HDL.out
        rw [← HSE.out, h1] at this
        simp at this; omega
      · have a1 : decide (0 < (S.size : Int)) = true := by simp; omega
        have a2 : decide ((S.size : Int) > 0) = true := by simp; omega
        have t4 : (1 : Int) ≤ (S.size : Int) := by omega
        go_enter Tryz.func70, Tryz.ntmps70
        go_wp2
        go_ret2
        exact ⟨by rw [HN.out]; rfl, rfl⟩
      · have a1 : decide (0 < (D.size : Int)) = true := by simp; omega
        have a2 : decide ((D.size : Int) > 0) = true := by simp; omega
        go_enter Tryz.func70, Tryz.ntmps70
        go_wp2
        go_ret2
        exact ⟨by rw [HN.out]; rfl, rfl⟩
    · by_cases hz : D[0] = 48 ∧ (1 < D.size ∨ neg = true)
      · obtain ⟨hz0, hz1⟩ := hz
        obtain ⟨r, hr⟩ : ∃ r, D.data.toList = 48 :: r := by
          cases hq : D.data.toList with
          | nil => exact absurd hq hne
          | cons c r =>
            rw [hq] at hd0
            simp only [List.getElem?_cons_zero, Option.some.injEq] at hd0
            rw [hd0, hz0]; exact ⟨r, rfl⟩
        have HN : Hid (numO s = none) := Lib.hid (num_zero (r := r) (neg := neg) (by have := HSG.out; rwa [hr] at this) (by
          rcases hz1 with h | h
          · left; intro e
            have := HDL.out
            rw [hr, e] at this
            simp at this; omega
          · exact .inr h))
        have b0 : ((D[0].toNat : Int) == 48) = true := by rw [hz0]; rfl
        have d1 : decide (19 < (D.size : Int)) = false := by simp; omega
        have d2 : decide ((D.size : Int) > 19) = false := by simp; omega
        have z0 : (0 : Int) < (D.size : Int) := by omega
        unfold NumP
        clear hd0 hne hr hz0
        rcases hcase with ⟨h1, rfl, rfl⟩ | ⟨h0, t3, hDS, rfl⟩ | ⟨h0, t3, rfl, rfl⟩
        · exfalso
          have := HDL.out
          rw [← HSE.out, h1] at this
          simp at this; omega
        · have a1 : decide (0 < (S.size : Int)) = true := by simp; omega
          have a2 : decide ((S.size : Int) > 0) = true := by simp; omega
          have t4 : (1 : Int) ≤ (S.size : Int) := by omega
          by_cases h1 : 1 < D.size
          · have c1 : decide (1 < (D.size : Int)) = true := by simp; omega
            have c2 : decide ((D.size : Int) > 1) = true := by simp; omega
            go_enter Tryz.func70, Tryz.ntmps70
            go_wp2
            go_ret2
            exact ⟨by rw [HN.out]; rfl, rfl⟩
          · have c1 : decide (1 < (D.size : Int)) = false := by simp; omega
            have c2 : decide ((D.size : Int) > 1) = false := by simp; omega
            go_enter Tryz.func70, Tryz.ntmps70
            go_wp2
            go_ret2
            exact ⟨by rw [HN.out]; rfl, rfl⟩
        · have a1 : decide (0 < (D.size : Int)) = true := by simp; omega
          have a2 : decide ((D.size : Int) > 0) = true := by simp; omega
          have h1 : 1 < D.size := by
            rcases hz1 with h | h
            · exact h
            · cases h
          have c1 : decide (1 < (D.size : Int)) = true := by simp; omega
          have c2 : decide ((D.size : Int) > 1) = true := by simp; omega
          go_enter Tryz.func70, Tryz.ntmps70
          go_wp2
          go_ret2
          exact ⟨by rw [HN.out]; rfl, rfl⟩
      · have hz48 : ∀ r, D.data.toList = 48 :: r → D[0] = 48 := fun r e => by
          rw [e] at hd0
          simp only [List.getElem?_cons_zero, Option.some.injEq] at hd0
          exact hd0.symm
        have hz1 : ∀ r, D.data.toList = 48 :: r → r = [] := fun r e => by
          have h48 := hz48 r e
          have h1 : ¬ 1 < D.size := fun h => hz ⟨h48, .inl h⟩
          have := HDL.out
          rw [e] at this
          simp only [List.length_cons] at this
          exact List.length_eq_zero_iff.1 (by omega)
        rcases hcase with ⟨h1, rfl, rfl⟩ | ⟨h0, t3, hDS, rfl⟩ | ⟨h0, t3, rfl, rfl⟩
        · exact absurd (HSE.out ▸ h1) hne
        · have hz2 : D[0] ≠ 48 := fun e => hz ⟨e, .inr rfl⟩
          refine rparse_n S D s w HSG HDL hDS hpos (by omega) h0 t3 (Lib.hid hne) (Lib.hid fun r e => hz2 (hz48 r e)) ?_
          rw [beq_eq_false_iff_ne]
          intro e
          exact hz2 (UInt8.toNat_inj.1 (show D[0].toNat = 48 by omega))
        · refine rparse_p D D s w HSG HDL rfl hpos (by omega) h0 t3 (Lib.hid hne) (Lib.hid hz1) ?_
          by_cases h48 : D[0] = 48
          · exact .inr (by
              have : ¬ 1 < D.size := fun h => hz ⟨h48, .inl h⟩
              omega)
          · left
            rw [beq_eq_false_iff_ne]
            intro e
            exact h48 (UInt8.toNat_inj.1 (show D[0].toNat = 48 by omega))
end Go.Proofs.YtnfejojakikeeaaGreatDoor
