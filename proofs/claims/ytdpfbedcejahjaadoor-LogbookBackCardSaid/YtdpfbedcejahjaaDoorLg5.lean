/- Check of package logbook. Condition: the length of the slice. -/
import Derived.Test.YtdpfbedcejahjaaDoorLg4
namespace Go.Proofs.YtdpfbedcejahjaaDoor
open Go.RowKit

def OneRel (w : World) (l : List En) (vi : Value) (wr : World) : Prop :=
  ∃ k : Nat, k ≤ l.length ∧ vi = .int .i64 k ∧ onesE l = onesE (l.drop k) ∧ Only [] w wr

set_option maxRecDepth 100000 in
set_option maxHeartbeats 2000000 in
theorem Pcheck {w : World} {p : Option Addr} {n cap : Nat} {l : List En} (hv : VRow enC 6 w p n cap l) (hn : n ≤ 100000) :
    Calls Tryd.prog 10 #[.slice p n cap] w fun e w' => e = .returned (.int .i64 (logE l)) ∧ Only [] w w' := by
  have hl := hv.len
  subst hl
  have HV := Lib.hid hv; clear hv
  by_cases h512 : 512 < l.length
  · have d1 : decide (512 < (l.length : Int)) = true := by simp; omega
    have d2 : decide (512 < l.length) = true := by simp; omega
    have HR : Hid (logE l = 6) := Lib.hid (by unfold logE; rw [if_pos h512])
    go_enter Tryd.func10, Tryd.ntmps10
    go_wp2
    go_ret
    exact ⟨by rw [HR.out]; rfl, Only.refl _ _⟩
  · have d1 : decide (512 < (l.length : Int)) = false := by simp; omega
    have d2 : decide (512 < l.length) = false := by simp; omega
    have HR : Hid (logE l = if onesE l = 0 then ordE [] l else onesE l) := Lib.hid (by unfold logE; rw [if_neg h512])
    go_enter Tryd.func10, Tryd.ntmps10
    go_wp2
    go_loopw [11] (fun vi wr => OneRel w l vi wr) (fun vi _ => l.length - (intOf vi).toNat)
    case atStart => exact ⟨0, Nat.zero_le _, rfl, rfl, Only.refl _ _⟩
    case round =>
      obtain ⟨k, hk, rfl, hone, ho⟩ := hrel
      have OE := Lib.hid hone; have OO := Lib.hid ho
      clear hone ho
      by_cases hlt : k < l.length
      · obtain ⟨bb, off, hp, hb, hcl⟩ := HV.out.cell k l[k] (List.getElem?_eq_getElem hlt)
        subst hp
        have hle := OO.out.size
        have hb' : bb < wr.heap.size := by omega
        obtain ⟨e, he⟩ : ∃ e, e = l[k] := ⟨_, rfl⟩
        rw [← he] at hcl
        have HE := Lib.hid he
        clear he
        obtain ⟨ek, en, ep, em, ec, ev⟩ := e
        have c0 : wr.cell? ⟨bb, off + k * 6, none⟩ = some (.int .i64 ek) := by rw [OO.out.cell hb (by simp)]; exact hcl 0 _ rfl
        have c1 : wr.cell? ⟨bb, off + k * 6 + 1, none⟩ = some (.int .i64 en) := by rw [OO.out.cell hb (by simp)]; exact hcl 1 _ rfl
        have c2 : wr.cell? ⟨bb, off + k * 6 + 2, none⟩ = some (.int .i64 ep) := by rw [OO.out.cell hb (by simp)]; exact hcl 2 _ rfl
        have c3 : wr.cell? ⟨bb, off + k * 6 + 3, none⟩ = some (.int .i64 em) := by rw [OO.out.cell hb (by simp)]; exact hcl 3 _ rfl
        have c4 : wr.cell? ⟨bb, off + k * 6 + 4, none⟩ = some (.int .i64 ec) := by rw [OO.out.cell hb (by simp)]; exact hcl 4 _ rfl
        have c5 : wr.cell? ⟨bb, off + k * 6 + 5, none⟩ = some (.int .i64 ev) := by rw [OO.out.cell hb (by simp)]; exact hcl 5 _ rfl
        clear hcl
        have hdrop : l.drop k = ⟨ek, en, ep, em, ec, ev⟩ :: l.drop (k + 1) := by rw [List.drop_eq_getElem_cons hlt, HE.out]
        have hst : onesE l = if eChk ⟨ek, en, ep, em, ec, ev⟩ = 0 then onesE (l.drop (k + 1)) else eChk ⟨ek, en, ep, em, ec, ev⟩ := by rw [OE.out, hdrop]; rfl
        have hone := Pone ⟨ek, en, ep, em, ec, ev⟩
        dsimp only at hone
        obtain ⟨x, hx⟩ : ∃ x, x = eChk ⟨ek, en, ep, em, ec, ev⟩ := ⟨_, rfl⟩
        rw [← hx] at hst hone
        have HST := Lib.hid hst; have HO := Lib.hid hone
        clear hst hone hdrop OE hx
        go_wp2_with fail
        refine alloc_abs (G := fun w0 => Calls _ _ _ w0 _) ?_
        intro w1 hb1 ho1 hs1
        refine (HO.out w1).mono ?_
        rintro r w2 ⟨rfl, ho2⟩
        have O2 := Lib.hid ((OO.out.nil_trans ho1).nil_trans ho2)
        clear hb1 ho1 hs1 ho2 c0 c1 c2 c3 c4 c5
        by_cases hx0 : x = 0
        · subst hx0
          have HN : Hid (onesE l = onesE (l.drop (k + 1))) := Lib.hid (by rw [HST.out, if_pos rfl])
          go_wp2
          go_roundw
          case rel => exact ⟨k + 1, by omega, by go_num, HN.out, O2.out⟩
          case measure => simp [intOf]; omega
        · have b1 : (x != 0) = true := by simp [hx0]
          have b2 : (x == 0) = false := by simp [hx0]
          have HN : Hid (logE l = x) := Lib.hid (by rw [HR.out, HST.out, if_neg hx0, if_neg hx0])
          go_wp2
          go_ret
          exact ⟨by rw [HN.out]; rfl, O2.out⟩
      · have hz : onesE l = 0 := by rw [OE.out, List.drop_of_length_le (by omega)]; rfl
        have HN : Hid (logE l = ordE [] l) := Lib.hid (by rw [HR.out, if_pos hz])
        clear hz OE
        go_wp2_with fail
        refine (Porder (HV.out.kept OO.out) hn).mono ?_
        rintro r w2 ⟨rfl, ho2⟩
        go_wp2
        go_ret
        exact ⟨by rw [HN.out]; rfl, OO.out.nil_trans ho2⟩
end Go.Proofs.YtdpfbedcejahjaaDoor
