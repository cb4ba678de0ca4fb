/- parseLine of package logbook: the entry of a line. Conditions: the library's variables are laid; the length. -/
import Derived.Test.YtdpfbedcejahjaaDoorLn
import Derived.Deep.Light
namespace Go.Proofs.YtdpfbedcejahjaaDoor
open Go.RowKit

theorem RowAt.vrow_tail {α : Type} {enc : α → List Value} {e : TypeId} {w : World} {g cap : Nat} {x : α} {l : List α} (hs : ∀ x, (enc x).length = 1) (h : RowAt enc e 1 w g cap (x :: l)) : VRow enc 1 w (some ⟨g, 1, none⟩) l.length (cap - 1) l := by
  have h' := h
  obtain ⟨cur, hg, h1, h2, h3, h4⟩ := h'
  simp only [List.length_cons] at h2
  refine ⟨rfl, by omega, by omega, by simp, fun i y hy => ⟨g, 1, rfl, h.lt, fun j v hv => ?_⟩⟩
  have hj : j < 1 := by have := (List.getElem?_eq_some_iff.1 hv).1; rw [hs] at this; exact this
  have := h.cell (i := i + 1) (j := j) (x := y) hs (by simpa using hy) hj
  rw [show 1 + (i * 1 + j) = (i + 1) * 1 + j by omega, this]; exact hv
def en0 : En := ⟨0, 0, 0, 0, 0, 0⟩
/-- what parseLine and entry return -/
def lineV (o : Option En) : Value := .tuple #[enV (o.getD en0), .bool o.isSome]
theorem mkE_send {h : List UInt8} {a b c d : Int} (hh : h = wSend) : mkE h [a, b, c, d] = some ⟨1, a, b, c, d, 0⟩ := by simp [mkE, hh]
theorem mkE_recv {h : List UInt8} {a b c d : Int} (hh : h = wRecv) : mkE h [a, b, c, d] = some ⟨2, a, b, c, d, 0⟩ := by
  subst hh; simp [mkE, show wRecv ≠ wSend by decide]
theorem mkE_step {h : List UInt8} {a b c : Int} (hh : h = wStep) : mkE h [a, b, c] = some ⟨3, a, 0, 0, b, c⟩ := by simp [mkE, hh]
theorem mkE_mark {h : List UInt8} {a b : Int} (hh : h = wMark) : mkE h [a, b] = some ⟨4, a, 0, 0, b, 0⟩ := by simp [mkE, hh]
theorem mkE_none {h : List UInt8} {ns : List Int} (h1 : ¬ (h = wSend ∧ ns.length = 4)) (h2 : ¬ (h = wRecv ∧ ns.length = 4)) (h3 : ¬ (h = wStep ∧ ns.length = 3)) (h4 : ¬ (h = wMark ∧ ns.length = 2)) : mkE h ns = none := by
  unfold mkE
  split <;> simp_all

set_option maxRecDepth 100000 in
set_option maxHeartbeats 2000000 in
theorem Pline (s : ByteArray) (hs : s.size ≤ 100000) (w : World) (he : Env w) :
    Calls Tryd.prog 28 #[.string s] w fun e w' => e = .returned (lineV (lineE s.data.toList)) ∧ Only [] w w' := by
  have hsl : s.data.toList.length = s.size := by rw [Array.length_toList]; rfl
  have hpl := pcs_length_le 32 s.data.toList
  have hspl := fun w he => split_any 32 s w (by omega) he
  have hwl : ∀ x ∈ pcs 32 s.data.toList, x.length ≤ 1000000 := by
    intro x hx
    have : ∀ (ps : List (List UInt8)), x ∈ ps → x.length ≤ (joinC 32 ps).length := by
      intro ps
      induction ps with
      | nil => intro h; cases h
      | cons p r ih =>
        intro h
        by_cases hr : r = []
        · subst hr; simp at h; subst h; simp [joinC]
        · rw [joinC_cons 32 p hr]
          rcases List.mem_cons.1 h with rfl | h
          · simp
          · have := ih h; simp; omega
    have := this _ hx
    rw [join_pcs] at this
    omega
  have hle : lineE s.data.toList = entW (pcs 32 s.data.toList) := rfl
  generalize lineE s.data.toList = res at hle ⊢
  obtain ⟨ws, hws⟩ : ∃ ws, ws = pcs 32 s.data.toList := ⟨_, rfl⟩
  have hne := pcs_ne 32 s.data.toList
  rw [← hws] at hle hspl hwl hpl hne
  clear hws
  cases ws with
  | nil => exact absurd rfl hne
  | cons hd r =>
    have HE := Lib.hid he; have HSP := Lib.hid hspl; have HWL := Lib.hid hwl; have HR := Lib.hid hle
    have hrl : r.length ≤ 100000 := by simp only [List.length_cons] at hpl; omega
    clear he hspl hwl hle hne hpl hsl
    go_enter Tryd.func28, Tryd.ntmps28
    go_wp2_with fail
    refine alloc_abs (G := fun w0 => Calls _ _ _ w0 _) ?_
    intro w1 hb1 ho1 hs1
    have B1 := Lib.hid hb1; have O1 := Lib.hid ho1
    clear hb1 hs1 ho1
    refine (HSP.out w1 (HE.out.kept O1.out)).mono ?_
    rintro e w2 ⟨rfl, hrow2, ho2⟩
    have B2 := Lib.hid (ho2.got B1.out (by simp)); have O2 := Lib.hid (O1.out.nil_trans ho2); have R2 := Lib.hid hrow2
    clear B1 O1 ho2 hrow2 HSP
    simp only [List.length_cons]
    obtain ⟨g, hg⟩ : ∃ g, g = w1.heap.size := ⟨_, rfl⟩
    rw [← hg] at R2 ⊢
    clear hg
    have hwr : ∀ x ∈ r, x.length ≤ 1000000 := fun x hx => HWL.out x (by simp [hx])
    obtain ⟨pr, hpr, hvr⟩ : ∃ pr, pr = (if r.length = 0 then (⟨g, 0, none⟩ : Addr) else ⟨g, 1, none⟩) ∧ VRow strC 1 w2 (some pr) r.length r.length r := by
      refine ⟨_, rfl, ?_⟩
      have h1 := R2.out.vrow_tail strC_len
      simp only [List.length_cons, Nat.add_one_sub_one] at h1
      split
      · rename_i h0
        obtain rfl : r = [] := List.eq_nil_of_length_eq_zero h0
        exact ⟨rfl, Nat.le_refl _, Nat.zero_le _, by simp, by simp⟩
      · exact h1
    have HPR := Lib.hid hpr; have HVR := Lib.hid hvr; have HWR := Lib.hid hwr
    clear hpr hvr hwr
    have hcall := Pnumbers HVR.out (by omega) HWR.out (HE.out.kept O2.out)
    have HC := Lib.hid hcall
    clear hcall
    have hd0 := R2.out.cell (i := 0) (j := 0) (x := hd) strC_len rfl (by decide)
    rw [show (strC hd)[0]? = some (.string (bstr hd)) from rfl, Nat.zero_mul, Nat.add_zero] at hd0
    have hgl := R2.out.lt
    obtain ⟨H, hH⟩ : ∃ H, H = bstr hd := ⟨_, rfl⟩
    rw [← hH] at hd0
    have D0 := Lib.hid hd0
    have HHd : Hid (H.toList = hd) := Lib.hid (by rw [hH, Lib.toList_data]; rfl)
    clear hd0 hH
    have hsl : (∃ off, pr = ⟨g, off, none⟩ ∧ ((r.length = 0 ∧ off = 0) ∨ (1 ≤ r.length ∧ off = 1))) := by
      by_cases h0 : r.length = 0
      · exact ⟨0, by rw [HPR.out, if_pos h0], .inl ⟨h0, rfl⟩⟩
      · exact ⟨1, by rw [HPR.out, if_neg h0], .inr ⟨by omega, rfl⟩⟩
    obtain ⟨poff, rfl, hpo⟩ := hsl
    clear HPR
    rcases hpo with ⟨h0, rfl⟩ | ⟨h0, rfl⟩
    · obtain rfl : r = [] := List.eq_nil_of_length_eq_zero h0
      have HRS : Hid (res = none) := Lib.hid (by rw [HR.out]; rfl)
      clear h0
      simp only [List.length_nil, Nat.zero_add] at HC ⊢
      go_wp2_with fail
      refine HC.out.mono ?_
      rintro e w3 ⟨hres, ho3⟩
      obtain ⟨p', cap', rfl, hvn⟩ := hres
      have B3 := Lib.hid (ho3.got B2.out (by simp)); have O3 := Lib.hid (O2.out.nil_trans ho3)
      have k0 : w3.cell? ⟨g, 0, none⟩ = some (.string H) := by rw [ho3.cell hgl (by simp)]; exact D0.out
      have hgl3 : g < w3.heap.size := Nat.lt_of_lt_of_le hgl ho3.size
      clear ho3 B2 O2 HC hvn hgl
      have g0 := cell_got B3.out 0; have g1 := cell_got B3.out 1; have g2 := cell_got B3.out 2; have g3 := cell_got B3.out 3; have g4 := cell_got B3.out 4; have g5 := cell_got B3.out 5
      have f0 := frozen_got B3.out 0; have f1 := frozen_got B3.out 1; have f2 := frozen_got B3.out 2; have f3 := frozen_got B3.out 3; have f4 := frozen_got B3.out 4; have f5 := frozen_got B3.out 5
      have l0 := got_lt B3.out
      simp only [List.length_nil]
      go_wp2
      all_goals exact bodyPost_ret (v := lineV none) (by simp [results, Tryd.results28, go_sem, lineV, enV, en0, g0, g1, g2, g3, g4, g5]) rfl ⟨by rw [HRS.out], ((((((O3.out.setCell (.inr (Nat.le_refl _)) _).setCell (.inr (Nat.le_refl _)) _).setCell (.inr (Nat.le_refl _)) _).setCell (.inr (Nat.le_refl _)) _).setCell (.inr (Nat.le_refl _)) _).setCell (.inr (Nat.le_refl _)) _)⟩
    · have hrn : ¬ r = [] := fun q => by rw [q] at h0; simp at h0
      go_wp2_with fail
      refine HC.out.mono ?_
      rintro e w3 ⟨hres, ho3⟩
      cases hnn : numsO r with
      | none =>
        rw [hnn] at hres
        unfold NumsR at hres
        dsimp only at hres
        subst hres
        have HRS : Hid (res = none) := Lib.hid (by rw [HR.out, entW, hnn])
        have B3 := Lib.hid (ho3.got B2.out (by simp)); have O3 := Lib.hid (O2.out.nil_trans ho3)
        clear ho3 B2 O2 HC hnn
        have g0 := cell_got B3.out 0; have g1 := cell_got B3.out 1; have g2 := cell_got B3.out 2; have g3 := cell_got B3.out 3; have g4 := cell_got B3.out 4; have g5 := cell_got B3.out 5
        have f0 := frozen_got B3.out 0; have f1 := frozen_got B3.out 1; have f2 := frozen_got B3.out 2; have f3 := frozen_got B3.out 3; have f4 := frozen_got B3.out 4; have f5 := frozen_got B3.out 5
        have l0 := got_lt B3.out
        go_wp2
        exact bodyPost_ret (v := lineV none) (by simp [results, Tryd.results28, go_sem, lineV, enV, en0, g0, g1, g2, g3, g4, g5]) rfl ⟨by rw [HRS.out], ((((((O3.out.setCell (.inr (Nat.le_refl _)) _).setCell (.inr (Nat.le_refl _)) _).setCell (.inr (Nat.le_refl _)) _).setCell (.inr (Nat.le_refl _)) _).setCell (.inr (Nat.le_refl _)) _).setCell (.inr (Nat.le_refl _)) _)⟩
      | some ns =>
        rw [hnn] at hres
        unfold NumsR at hres
        dsimp only at hres
        obtain ⟨p', cap', rfl, hvn⟩ := hres
        have HNN := Lib.hid hnn
        have B3 := Lib.hid (ho3.got B2.out (by simp)); have O3 := Lib.hid (O2.out.nil_trans ho3); have VN := Lib.hid hvn
        have k0 : w3.cell? ⟨g, 0, none⟩ = some (.string H) := by rw [ho3.cell hgl (by simp)]; exact D0.out
        have hgl3 : g < w3.heap.size := Nat.lt_of_lt_of_le hgl ho3.size
        clear ho3 B2 O2 HC hvn hgl hnn
        by_cases c : hd = wSend ∧ ns.length = 4
        · have hHl : H.toList = [115, 101, 110, 100] := by rw [HHd.out, c.1]; rfl
          obtain ⟨za, zb, zc, zd, rfl⟩ : ∃ za zb zc zd, ns = [za, zb, zc, zd] := by
            match ns, c.2 with
            | [za, zb, zc, zd], _ => exact ⟨za, zb, zc, zd, rfl⟩
          have HRS : Hid (res = some ⟨1, za, zb, zc, zd, 0⟩) := Lib.hid (by rw [HR.out, entW, HNN.out]; exact mkE_send c.1)
          obtain ⟨nb, noff, hpn, hnb, hn0⟩ := VN.out.cell 0 za rfl
          subst hpn
          have m0 : w3.cell? ⟨nb, noff, none⟩ = some (.int .i64 za) := by simpa using hn0 0 _ rfl
          have m1 : w3.cell? ⟨nb, noff + 1, none⟩ = some (.int .i64 zb) := by
            obtain ⟨nb', noff', hpn, _, hn1⟩ := VN.out.cell 1 zb rfl
            cases hpn
            simpa using hn1 0 _ rfl
          have m2 : w3.cell? ⟨nb, noff + 2, none⟩ = some (.int .i64 zc) := by
            obtain ⟨nb', noff', hpn, _, hn1⟩ := VN.out.cell 2 zc rfl
            cases hpn
            simpa using hn1 0 _ rfl
          have m3 : w3.cell? ⟨nb, noff + 3, none⟩ = some (.int .i64 zd) := by
            obtain ⟨nb', noff', hpn, _, hn1⟩ := VN.out.cell 3 zd rfl
            cases hpn
            simpa using hn1 0 _ rfl
          clear hn0 c VN
          simp only [List.length_cons, List.length_nil, Nat.zero_add, Nat.reduceAdd]
          have g0 := cell_got B3.out 0; have g1 := cell_got B3.out 1; have g2 := cell_got B3.out 2; have g3 := cell_got B3.out 3; have g4 := cell_got B3.out 4; have g5 := cell_got B3.out 5
          have f0 := frozen_got B3.out 0; have f1 := frozen_got B3.out 1; have f2 := frozen_got B3.out 2; have f3 := frozen_got B3.out 3; have f4 := frozen_got B3.out 4; have f5 := frozen_got B3.out 5
          have l0 := got_lt B3.out
          go_wp2_with fail
          refine wp_region_grown [0, 1, 2, 3, 4, 5, 6, 7, 8, 9, 10, 11, 12] [13, 14] (by kernel_rfl) (by kernel_rfl) ?_
          simp only [pick, List.map_cons, List.map_nil, List.getD_cons_succ, List.getD_cons_zero]
          repeat (go_big_quiet_step (fail))
          refine wpQuiet_nil ?_
          intro w4 hw4
          have B4 := Lib.hid ((only_of_plus hw4).got B3.out (by simp)); have O4 := Lib.hid (O3.out.nil_trans (only_of_plus hw4))
          clear hw4 g0 g1 g2 g3 g4 g5 f0 f1 f2 f3 f4 f5 l0 B3 O3
          have g0 := cell_got B4.out 0; have g1 := cell_got B4.out 1; have g2 := cell_got B4.out 2; have g3 := cell_got B4.out 3; have g4 := cell_got B4.out 4; have g5 := cell_got B4.out 5
          have f0 := frozen_got B4.out 0; have f1 := frozen_got B4.out 1; have f2 := frozen_got B4.out 2; have f3 := frozen_got B4.out 3; have f4 := frozen_got B4.out 4; have f5 := frozen_got B4.out 5
          have l0 := got_lt B4.out
          go_wp2
          exact bodyPost_ret (v := lineV (some ⟨1, za, zb, zc, zd, 0⟩)) (by simp [results, Tryd.results28, go_sem, lineV, enV, g0, g1, g2, g3, g4, g5]) rfl ⟨by rw [HRS.out], ((((((O4.out.setCell (.inr (Nat.le_refl _)) _).setCell (.inr (Nat.le_refl _)) _).setCell (.inr (Nat.le_refl _)) _).setCell (.inr (Nat.le_refl _)) _).setCell (.inr (Nat.le_refl _)) _).setCell (.inr (Nat.le_refl _)) _)⟩
        · have c1 := Lib.hid c; clear c
          by_cases c : hd = wRecv ∧ ns.length = 4
          · have hHl : H.toList = [114, 101, 99, 118] := by rw [HHd.out, c.1]; rfl
            obtain ⟨za, zb, zc, zd, rfl⟩ : ∃ za zb zc zd, ns = [za, zb, zc, zd] := by
              match ns, c.2 with
              | [za, zb, zc, zd], _ => exact ⟨za, zb, zc, zd, rfl⟩
            have HRS : Hid (res = some ⟨2, za, zb, zc, zd, 0⟩) := Lib.hid (by rw [HR.out, entW, HNN.out]; exact mkE_recv c.1)
            obtain ⟨nb, noff, hpn, hnb, hn0⟩ := VN.out.cell 0 za rfl
            subst hpn
            have m0 : w3.cell? ⟨nb, noff, none⟩ = some (.int .i64 za) := by simpa using hn0 0 _ rfl
            have m1 : w3.cell? ⟨nb, noff + 1, none⟩ = some (.int .i64 zb) := by
              obtain ⟨nb', noff', hpn, _, hn1⟩ := VN.out.cell 1 zb rfl
              cases hpn
              simpa using hn1 0 _ rfl
            have m2 : w3.cell? ⟨nb, noff + 2, none⟩ = some (.int .i64 zc) := by
              obtain ⟨nb', noff', hpn, _, hn1⟩ := VN.out.cell 2 zc rfl
              cases hpn
              simpa using hn1 0 _ rfl
            have m3 : w3.cell? ⟨nb, noff + 3, none⟩ = some (.int .i64 zd) := by
              obtain ⟨nb', noff', hpn, _, hn1⟩ := VN.out.cell 3 zd rfl
              cases hpn
              simpa using hn1 0 _ rfl
            clear hn0 c VN
            simp only [List.length_cons, List.length_nil, Nat.zero_add, Nat.reduceAdd]
            have g0 := cell_got B3.out 0; have g1 := cell_got B3.out 1; have g2 := cell_got B3.out 2; have g3 := cell_got B3.out 3; have g4 := cell_got B3.out 4; have g5 := cell_got B3.out 5
            have f0 := frozen_got B3.out 0; have f1 := frozen_got B3.out 1; have f2 := frozen_got B3.out 2; have f3 := frozen_got B3.out 3; have f4 := frozen_got B3.out 4; have f5 := frozen_got B3.out 5
            have l0 := got_lt B3.out
            go_wp2_with fail
            refine wp_region_grown [0, 1, 2, 3, 4, 5, 6, 7, 8, 9, 10, 11, 12] [13, 14] (by kernel_rfl) (by kernel_rfl) ?_
            simp only [pick, List.map_cons, List.map_nil, List.getD_cons_succ, List.getD_cons_zero]
            repeat (go_big_quiet_step (fail))
            refine wpQuiet_nil ?_
            intro w4 hw4
            have B4 := Lib.hid ((only_of_plus hw4).got B3.out (by simp)); have O4 := Lib.hid (O3.out.nil_trans (only_of_plus hw4))
            clear hw4 g0 g1 g2 g3 g4 g5 f0 f1 f2 f3 f4 f5 l0 B3 O3
            have g0 := cell_got B4.out 0; have g1 := cell_got B4.out 1; have g2 := cell_got B4.out 2; have g3 := cell_got B4.out 3; have g4 := cell_got B4.out 4; have g5 := cell_got B4.out 5
            have f0 := frozen_got B4.out 0; have f1 := frozen_got B4.out 1; have f2 := frozen_got B4.out 2; have f3 := frozen_got B4.out 3; have f4 := frozen_got B4.out 4; have f5 := frozen_got B4.out 5
            have l0 := got_lt B4.out
            go_wp2
            exact bodyPost_ret (v := lineV (some ⟨2, za, zb, zc, zd, 0⟩)) (by simp [results, Tryd.results28, go_sem, lineV, enV, g0, g1, g2, g3, g4, g5]) rfl ⟨by rw [HRS.out], ((((((O4.out.setCell (.inr (Nat.le_refl _)) _).setCell (.inr (Nat.le_refl _)) _).setCell (.inr (Nat.le_refl _)) _).setCell (.inr (Nat.le_refl _)) _).setCell (.inr (Nat.le_refl _)) _).setCell (.inr (Nat.le_refl _)) _)⟩
          · have c2 := Lib.hid c; clear c
            by_cases c : hd = wStep ∧ ns.length = 3
            · have hHl : H.toList = [115, 116, 101, 112] := by rw [HHd.out, c.1]; rfl
              obtain ⟨za, zb, zc, rfl⟩ : ∃ za zb zc, ns = [za, zb, zc] := by
                match ns, c.2 with
                | [za, zb, zc], _ => exact ⟨za, zb, zc, rfl⟩
              have HRS : Hid (res = some ⟨3, za, 0, 0, zb, zc⟩) := Lib.hid (by rw [HR.out, entW, HNN.out]; exact mkE_step c.1)
              obtain ⟨nb, noff, hpn, hnb, hn0⟩ := VN.out.cell 0 za rfl
              subst hpn
              have m0 : w3.cell? ⟨nb, noff, none⟩ = some (.int .i64 za) := by simpa using hn0 0 _ rfl
              have m1 : w3.cell? ⟨nb, noff + 1, none⟩ = some (.int .i64 zb) := by
                obtain ⟨nb', noff', hpn, _, hn1⟩ := VN.out.cell 1 zb rfl
                cases hpn
                simpa using hn1 0 _ rfl
              have m2 : w3.cell? ⟨nb, noff + 2, none⟩ = some (.int .i64 zc) := by
                obtain ⟨nb', noff', hpn, _, hn1⟩ := VN.out.cell 2 zc rfl
                cases hpn
                simpa using hn1 0 _ rfl
              clear hn0 c VN
              simp only [List.length_cons, List.length_nil, Nat.zero_add, Nat.reduceAdd]
              have g0 := cell_got B3.out 0; have g1 := cell_got B3.out 1; have g2 := cell_got B3.out 2; have g3 := cell_got B3.out 3; have g4 := cell_got B3.out 4; have g5 := cell_got B3.out 5
              have f0 := frozen_got B3.out 0; have f1 := frozen_got B3.out 1; have f2 := frozen_got B3.out 2; have f3 := frozen_got B3.out 3; have f4 := frozen_got B3.out 4; have f5 := frozen_got B3.out 5
              have l0 := got_lt B3.out
              go_wp2_with fail
              refine wp_region_grown [0, 1, 2, 3, 4, 5, 6, 7, 8, 9] [10, 11] (by kernel_rfl) (by kernel_rfl) ?_
              simp only [pick, List.map_cons, List.map_nil, List.getD_cons_succ, List.getD_cons_zero]
              repeat (go_big_quiet_step (fail))
              refine wpQuiet_nil ?_
              intro w4 hw4
              have B4 := Lib.hid ((only_of_plus hw4).got B3.out (by simp)); have O4 := Lib.hid (O3.out.nil_trans (only_of_plus hw4))
              clear hw4 g0 g1 g2 g3 g4 g5 f0 f1 f2 f3 f4 f5 l0 B3 O3
              have g0 := cell_got B4.out 0; have g1 := cell_got B4.out 1; have g2 := cell_got B4.out 2; have g3 := cell_got B4.out 3; have g4 := cell_got B4.out 4; have g5 := cell_got B4.out 5
              have f0 := frozen_got B4.out 0; have f1 := frozen_got B4.out 1; have f2 := frozen_got B4.out 2; have f3 := frozen_got B4.out 3; have f4 := frozen_got B4.out 4; have f5 := frozen_got B4.out 5
              have l0 := got_lt B4.out
              go_wp2
              exact bodyPost_ret (v := lineV (some ⟨3, za, 0, 0, zb, zc⟩)) (by simp [results, Tryd.results28, go_sem, lineV, enV, g0, g1, g2, g3, g4, g5]) rfl ⟨by rw [HRS.out], ((((((O4.out.setCell (.inr (Nat.le_refl _)) _).setCell (.inr (Nat.le_refl _)) _).setCell (.inr (Nat.le_refl _)) _).setCell (.inr (Nat.le_refl _)) _).setCell (.inr (Nat.le_refl _)) _).setCell (.inr (Nat.le_refl _)) _)⟩
            · have c3 := Lib.hid c; clear c
              by_cases c : hd = wMark ∧ ns.length = 2
              · have hHl : H.toList = [109, 97, 114, 107] := by rw [HHd.out, c.1]; rfl
                obtain ⟨za, zb, rfl⟩ : ∃ za zb, ns = [za, zb] := by
                  match ns, c.2 with
                  | [za, zb], _ => exact ⟨za, zb, rfl⟩
                have HRS : Hid (res = some ⟨4, za, 0, 0, zb, 0⟩) := Lib.hid (by rw [HR.out, entW, HNN.out]; exact mkE_mark c.1)
                obtain ⟨nb, noff, hpn, hnb, hn0⟩ := VN.out.cell 0 za rfl
                subst hpn
                have m0 : w3.cell? ⟨nb, noff, none⟩ = some (.int .i64 za) := by simpa using hn0 0 _ rfl
                have m1 : w3.cell? ⟨nb, noff + 1, none⟩ = some (.int .i64 zb) := by
                  obtain ⟨nb', noff', hpn, _, hn1⟩ := VN.out.cell 1 zb rfl
                  cases hpn
                  simpa using hn1 0 _ rfl
                clear hn0 c VN
                simp only [List.length_cons, List.length_nil, Nat.zero_add, Nat.reduceAdd]
                have g0 := cell_got B3.out 0; have g1 := cell_got B3.out 1; have g2 := cell_got B3.out 2; have g3 := cell_got B3.out 3; have g4 := cell_got B3.out 4; have g5 := cell_got B3.out 5
                have f0 := frozen_got B3.out 0; have f1 := frozen_got B3.out 1; have f2 := frozen_got B3.out 2; have f3 := frozen_got B3.out 3; have f4 := frozen_got B3.out 4; have f5 := frozen_got B3.out 5
                have l0 := got_lt B3.out
                go_wp2_with fail
                refine wp_region_grown [0, 1, 2, 3, 4, 5, 6] [7, 8] (by kernel_rfl) (by kernel_rfl) ?_
                simp only [pick, List.map_cons, List.map_nil, List.getD_cons_succ, List.getD_cons_zero]
                repeat (go_big_quiet_step (fail))
                refine wpQuiet_nil ?_
                intro w4 hw4
                have B4 := Lib.hid ((only_of_plus hw4).got B3.out (by simp)); have O4 := Lib.hid (O3.out.nil_trans (only_of_plus hw4))
                clear hw4 g0 g1 g2 g3 g4 g5 f0 f1 f2 f3 f4 f5 l0 B3 O3
                have g0 := cell_got B4.out 0; have g1 := cell_got B4.out 1; have g2 := cell_got B4.out 2; have g3 := cell_got B4.out 3; have g4 := cell_got B4.out 4; have g5 := cell_got B4.out 5
                have f0 := frozen_got B4.out 0; have f1 := frozen_got B4.out 1; have f2 := frozen_got B4.out 2; have f3 := frozen_got B4.out 3; have f4 := frozen_got B4.out 4; have f5 := frozen_got B4.out 5
                have l0 := got_lt B4.out
                go_wp2
                exact bodyPost_ret (v := lineV (some ⟨4, za, 0, 0, zb, 0⟩)) (by simp [results, Tryd.results28, go_sem, lineV, enV, g0, g1, g2, g3, g4, g5]) rfl ⟨by rw [HRS.out], ((((((O4.out.setCell (.inr (Nat.le_refl _)) _).setCell (.inr (Nat.le_refl _)) _).setCell (.inr (Nat.le_refl _)) _).setCell (.inr (Nat.le_refl _)) _).setCell (.inr (Nat.le_refl _)) _).setCell (.inr (Nat.le_refl _)) _)⟩
              · have c4 := Lib.hid c; clear c
                have HRS : Hid (res = none) := Lib.hid (by rw [HR.out, entW, HNN.out]; exact mkE_none c1.out c2.out c3.out c4.out)
                have g0 := cell_got B3.out 0; have g1 := cell_got B3.out 1; have g2 := cell_got B3.out 2; have g3 := cell_got B3.out 3; have g4 := cell_got B3.out 4; have g5 := cell_got B3.out 5
                have f0 := frozen_got B3.out 0; have f1 := frozen_got B3.out 1; have f2 := frozen_got B3.out 2; have f3 := frozen_got B3.out 3; have f4 := frozen_got B3.out 4; have f5 := frozen_got B3.out 5
                have l0 := got_lt B3.out
                go_wp2
                all_goals
                  first
                    | exact bodyPost_ret (v := lineV none) (by simp [results, Tryd.results28, go_sem, lineV, enV, en0, g0, g1, g2, g3, g4, g5]) rfl ⟨by rw [HRS.out], ((((((O3.out.setCell (.inr (Nat.le_refl _)) _).setCell (.inr (Nat.le_refl _)) _).setCell (.inr (Nat.le_refl _)) _).setCell (.inr (Nat.le_refl _)) _).setCell (.inr (Nat.le_refl _)) _).setCell (.inr (Nat.le_refl _)) _)⟩
                    | (exfalso; first | exact c1.out ⟨HHd.out.symm.trans ‹H.toList = [115, 101, 110, 100]›, by have q := ‹((ns.length : Int) == 4) = true›; simp at q; omega⟩ | exact c2.out ⟨HHd.out.symm.trans ‹H.toList = [114, 101, 99, 118]›, by have q := ‹((ns.length : Int) == 4) = true›; simp at q; omega⟩ | exact c3.out ⟨HHd.out.symm.trans ‹H.toList = [115, 116, 101, 112]›, by have q := ‹((ns.length : Int) == 3) = true›; simp at q; omega⟩ | exact c4.out ⟨HHd.out.symm.trans ‹H.toList = [109, 97, 114, 107]›, by have q := ‹((ns.length : Int) == 2) = true›; simp at q; omega⟩)
end Go.Proofs.YtdpfbedcejahjaaDoor
