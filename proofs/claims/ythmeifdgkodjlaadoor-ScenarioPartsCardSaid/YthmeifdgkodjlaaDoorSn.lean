/- whole, until of the reader. Conditions: the library's variables are laid; the lengths. -/
import Derived.Test.YthmeifdgkodjlaaDoorSm
namespace Go.Proofs.YthmeifdgkodjlaaDoor
open Go.RowKit

def bk (W0 : Two) (b : Nat) (w : World) : Prop := b < W0.heap.size ∧ Ob b W0 w
set_option maxRecDepth 100000 in
set_option maxHeartbeats 2000000 in
theorem kWhole {w : World} {b a : Nat} {v0 v1 v2 v3 v4 : Value} (hb : w.heap[b]? = some (.cells #[v0, v1, v2, v3, v4, .int .i64 a] 81 (0, 0))) :
    Calls Tryd.prog 33 #[.pointer (some ⟨b, 0, none⟩)] w fun e w' => e = .returned (.bool (whole a)) ∧ Only [] w w' := by
  have hw : whole a = (((a : Int) == 2) || decide ((a : Int) ≥ 4)) := by
    unfold whole
    rw [Bool.eq_iff_iff]; simp only [decide_eq_true_eq, Bool.or_eq_true, beq_iff_eq]; omega
  have HW := Lib.hid hw
  have c5 := cell_got hb 5; have lb := got_lt hb
  generalize whole a = res at HW ⊢
  clear hw hb
  by_cases h2 : (a : Int) = 2
  · have d1 : ((a : Int) == 2) = true := by simp [h2]
    have HR : Hid (res = true) := Lib.hid (by rw [HW.out, d1]; rfl)
    clear HW h2
    go_enter Tryd.func33, Tryd.ntmps33
    go_wp2
    go_ret
    exact ⟨by rw [HR.out]; rfl, Only.refl _ _⟩
  · have d1 : ((a : Int) == 2) = false := by simp [h2]
    by_cases h4 : (a : Int) ≥ 4
    · have d2 : decide ((a : Int) ≥ 4) = true := by simp only [decide_eq_true_eq]; exact h4
      have d3 : decide ((4 : Int) ≤ (a : Int)) = true := by simp only [decide_eq_true_eq]; exact h4
      have HR : Hid (res = true) := Lib.hid (by rw [HW.out, d1, d2]; rfl)
      clear HW h2 h4
      go_enter Tryd.func33, Tryd.ntmps33
      go_wp2
      go_ret
      exact ⟨by rw [HR.out]; rfl, Only.refl _ _⟩
    · have d2 : decide ((a : Int) ≥ 4) = false := by simp only [decide_eq_false_iff_not]; exact h4
      have d3 : decide ((4 : Int) ≤ (a : Int)) = false := by simp only [decide_eq_false_iff_not]; exact h4
      have HR : Hid (res = false) := Lib.hid (by rw [HW.out, d1, d2]; rfl)
      clear HW h2 h4
      go_enter Tryd.func33, Tryd.ntmps33
      go_wp2
      go_ret
      exact ⟨by rw [HR.out]; rfl, Only.refl _ _⟩
set_option maxRecDepth 100000 in
set_option maxHeartbeats 2000000 in
theorem kUntil {W0 : Two} {w : World} {b : Nat} {x : SSt} {p : Option Addr} {n cap : Nat} {wd : List UInt8} {r : List (List UInt8)} (h : RdX W0 b w x) (hv : VRow strC 1 w p n cap (wd :: r)) (hn : n ≤ 100000) (hl : ∀ y ∈ wd :: r, y.length ≤ 1000000) (he : Env w) :
    Calls Tryd.prog 47 #[.pointer (some ⟨b, 0, none⟩), .slice p n cap] w fun e w' => RdR W0 b (rdUntil x r) e w' := by
  have hlen := hv.len
  subst hlen
  obtain ⟨hb0, hb1, ns, ls, vn, vl, vf, hR⟩ := h
  have HR := Lib.hid hR; have HV := Lib.hid hv; have HE := Lib.hid he; have HL := Lib.hid hl; have H0 := Lib.hid hb0; have H1 := Lib.hid hb1
  clear hR hv he hl hb0 hb1
  have c5 := cell_got HR.out.box 5; have lb := got_lt HR.out.box
  by_cases h0 : x.at_ = 0
  · have d0 : ((x.at_ : Int) != 0) = false := by rw [h0]; rfl
    have d0' : ((x.at_ : Int) == 0) = true := by rw [h0]; rfl
    by_cases h2 : (wd :: r).length = 2
    · obtain ⟨a, rfl⟩ : ∃ a, r = [a] := by
        rcases r with _ | ⟨a, _ | ⟨c, r⟩⟩
        · simp at h2
        · exact ⟨a, rfl⟩
        · simp at h2
      have HRD : Hid (rdUntil x [a] = (numO a).map fun m => ⟨{ x.sc with un := m }, 1⟩) := Lib.hid (if_pos h0)
      generalize rdUntil x [a] = res at HRD ⊢
      obtain ⟨bw, off, hp, s1, lw⟩ := HV.out.str (Only.refl [] w) (k := 1) (by simp)
      subst hp
      have hal := HL.out a (by simp)
      have s1' : w.cell? ⟨bw, off + 1, none⟩ = some (.string (bstr a)) := s1
      have HC := Lib.hid (pNumber a hal w HE.out)
      clear s1 h0 h2 hal
      have z2 : ((([wd, a] : List (List UInt8)).length : Int) != 2) = false := rfl
      go_enter Tryd.func47, Tryd.ntmps47
      go_wp2_with fail
      refine HC.out.mono ?_
      rintro e w1 ⟨hv1, ho1⟩
      have R1 := Lib.hid (HR.out.kept ho1); have O1 := Lib.hid (H1.out.nil_trans ho1)
      clear ho1 s1' c5 lb lw d0 d0' z2 HC HR H1
      cases hx : numO a with
      | none =>
        rw [hx] at hv1 HRD
        obtain ⟨V, rfl⟩ := hv1
        have HX : Hid (res = none) := HRD
        have lb := got_lt R1.out.box
        have f3 := frozen_got R1.out.box 3; have f5 := frozen_got R1.out.box 5; have c3 := cell_got R1.out.box 3; have c5 := cell_got R1.out.box 5
        go_wp2
        go_ret
        rw [HX.out]
        exact ⟨rfl, (O1.out.setCell (.inl (by simp)) _).setCell (.inl (by simp)) _⟩
      | some m =>
        rw [hx] at hv1 HRD
        have hv1' : e = .returned (.tuple #[.int .i64 m, .bool true]) := hv1
        subst hv1'
        have HX : Hid (res = some ⟨{ x.sc with un := m }, 1⟩) := HRD
        have lb := got_lt R1.out.box
        have f3 := frozen_got R1.out.box 3; have f5 := frozen_got R1.out.box 5; have c3 := cell_got R1.out.box 3; have c5 := cell_got R1.out.box 5
        go_wp2
        go_ret
        rw [HX.out]
        refine ⟨rfl, H0.out, (O1.out.setCell (.inl (by simp)) _).setCell (.inl (by simp)) _, ns, ls, vn, vl, vf, ?_⟩
        exact R1.out.cell (((Only.refl [b] w1).setCell (.inl (by simp)) _).setCell (.inl (by simp)) _) (setCell_got _ (setCell_got _ R1.out.box)) rfl rfl rfl
    · have HX : Hid (rdUntil x r = none) := Lib.hid (by
        rcases r with _ | ⟨a, _ | ⟨c, r⟩⟩
        · rfl
        · exact absurd rfl h2
        · rfl)
      generalize rdUntil x r = res at HX ⊢
      have z2 : (((wd :: r).length : Int) != 2) = true := by rw [bne_iff_ne]; omega
      have z2' : (((wd :: r).length : Int) == 2) = false := by rw [beq_eq_false_iff_ne]; omega
      clear h0 h2
      generalize (wd :: r).length = nn at z2 z2' hn ⊢
      go_enter Tryd.func47, Tryd.ntmps47
      go_wp2
      go_ret
      rw [HX.out]
      exact ⟨rfl, H1.out⟩
  · have d0 : ((x.at_ : Int) != 0) = true := by rw [bne_iff_ne]; omega
    have d0' : ((x.at_ : Int) == 0) = false := by rw [beq_eq_false_iff_ne]; omega
    have HX : Hid (rdUntil x r = none) := Lib.hid (by
      rcases r with _ | ⟨a, _ | ⟨c, r⟩⟩
      · rfl
      · exact if_neg h0
      · rfl)
    generalize rdUntil x r = res at HX ⊢
    clear h0
    generalize (wd :: r).length = nn at hn ⊢
    go_enter Tryd.func47, Tryd.ntmps47
    go_wp2
    go_ret
    rw [HX.out]
    exact ⟨rfl, H1.out⟩
end Go.Proofs.YthmeifdgkodjlaaDoor
