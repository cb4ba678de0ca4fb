/- osc.Bound. Condition: the length. -/
import Derived.Test.YthmeifdgkodjlaaDoorS5
import Derived.Test.YthmeifdgkodjlaaDoorS3
namespace Go.Proofs.YthmeifdgkodjlaaDoor
open Go.RowKit

def BndR (w : World) (l : List Sg) (v vi : Value) (wr : World) : Prop :=
  ∃ k : Nat, k ≤ l.length ∧ vi = .int .i64 k ∧ v = .int .i64 (oscM (l.take k)) ∧ Only [] w wr
theorem oscM_snoc (l : List Sg) (s : Sg) : oscM (l ++ [s]) = max (max (oscM l) s.p) (-s.p) := by simp [oscM]
theorem oscM_bd : ∀ {l : List Sg}, (∀ s ∈ l, -500000 ≤ s.p ∧ s.p ≤ 500000) → 0 ≤ oscM l ∧ oscM l ≤ 500000 := by
  intro l
  have key : ∀ (l : List Sg) (b : Int), (∀ s ∈ l, -500000 ≤ s.p ∧ s.p ≤ 500000) → 0 ≤ b → b ≤ 500000 → 0 ≤ l.foldl (fun b s => max (max b s.p) (-s.p)) b ∧ l.foldl (fun b s => max (max b s.p) (-s.p)) b ≤ 500000 := by
    intro l
    induction l with
    | nil => intro b _ h0 h1; exact ⟨h0, h1⟩
    | cons s r ih =>
      intro b h h0 h1
      have hs := h s (by simp)
      rw [List.foldl_cons]
      exact ih _ (fun x hx => h x (by simp [hx])) (by omega) (by omega)
  exact fun h => key l 0 h (by decide) (by decide)
set_option maxRecDepth 100000 in
set_option maxHeartbeats 4000000 in
theorem pBound {w : World} {p : Option Addr} {n cap : Nat} {l : List Sg} (ph : Int) (hv : VRow sgC 2 w p n cap l) (hn : n ≤ 100000) :
    Calls Tryd.prog 14 #[.agg #[.int .i64 ph, .slice p n cap]] w fun e w' => e = .returned (.int .i64 (oscB ph l)) ∧ Only [] w w' := by
  have hl := hv.len
  subst hl
  have HV := Lib.hid hv; clear hv
  go_enter Tryd.func14, Tryd.ntmps14
  go_wp2_with fail
  refine alloc_abs (G := fun w0 => Calls _ _ _ w0 _) ?_
  intro w1 hb1 ho1 hs1
  have B1 := Lib.hid hb1; have O1 := Lib.hid ho1
  clear hb1 ho1 hs1
  refine (pOsc ph (HV.out.kept O1.out) hn).mono ?_
  rintro e w2 ⟨rfl, ho2⟩
  have B2 := Lib.hid (ho2.got B1.out (by simp)); have O2 := Lib.hid (O1.out.nil_trans ho2)
  clear ho2 B1 O1
  have g0 := cell_got B2.out 0; have g1 := cell_got B2.out 1
  have l0 := got_lt B2.out
  by_cases hc : oscE ph l = 0
  · have HR : Hid (oscB ph l = oscM l) := Lib.hid (by unfold oscB; rw [if_pos hc])
    have hall : ∀ s ∈ l, -500000 ≤ s.p ∧ s.p ≤ 500000 := fun s hs => by
      obtain ⟨i, hi, rfl⟩ := List.getElem_of_mem hs
      have := (oscE_ok hc).2.2.2 i hi
      unfold sgE at this
      by_cases hq : inR (l.getD i sg0).a 0 1125899906842624 = true ∧ inR (l.getD i sg0).p (-500000) 500000 = true
      · have h2 := inR_t.1 hq.2
        rwa [show l.getD i sg0 = l[i] by simp [List.getD_eq_getElem?_getD, hi]] at h2
      · rw [if_neg hq] at this; cases this
    have HAL := Lib.hid hall
    rw [hc]
    clear hc hall
    go_wp2
    go_loopw [3, 12] (fun v vi wr => BndR w2 l v vi wr) (fun _ vi _ => l.length - (intOf vi).toNat)
    case atStart => exact ⟨0, Nat.zero_le _, rfl, rfl, Only.refl _ _⟩
    case round =>
      clear g0 g1 l0
      obtain ⟨k, hk, rfl, rfl, ho⟩ := hrel
      have OO := Lib.hid ho; have OA := Lib.hid (O2.out.nil_trans ho)
      clear ho
      by_cases hlt : k < l.length
      · obtain ⟨bk, off, hp, c0, c1, lb⟩ := HV.out.sg OA.out hlt
        subst hp
        have hgk := getD_some sg0 hlt
        have hsb := HAL.out _ (List.mem_of_getElem? hgk)
        have htk : oscM (l.take (k + 1)) = max (max (oscM (l.take k)) (l.getD k sg0).p) (-(l.getD k sg0).p) := by rw [List.take_add_one, hgk]; exact oscM_snoc _ _
        have hmb := oscM_bd (l := l.take k) (fun s hs => HAL.out s (List.mem_of_mem_take hs))
        generalize l.getD k sg0 = s at c0 c1 hsb htk
        generalize oscM (l.take k) = z at hmb htk ⊢
        have HTK := Lib.hid htk
        clear hgk htk
        obtain ⟨s0, s1⟩ := hsb
        obtain ⟨m0, m1⟩ := hmb
        go_wp2
        go_roundw
        case rel => exact ⟨k + 1, by omega, by go_num, by rw [HTK.out]; first | rfl | (congr 1; omega), OO.out.alloc _⟩
        case measure => first | (simp [intOf]; done) | (simp [intOf]; omega)
      · rw [List.take_of_length_le (by omega)]
        obtain rfl : k = l.length := by omega
        go_wp2
        go_ret
        exact ⟨by rw [HR.out]; rfl, OA.out⟩
  · have HR : Hid (oscB ph l = 0) := Lib.hid (by unfold oscB; rw [if_neg hc])
    have b1 : (oscE ph l == 0) = false := by simp [hc]
    have b2 : (oscE ph l != 0) = true := by simp [hc]
    clear hc
    go_wp2
    go_ret
    exact ⟨by rw [HR.out]; rfl, O2.out⟩
end Go.Proofs.YthmeifdgkodjlaaDoor
