/- back of the reference: does the clock of an entry run backwards? Condition: the length of the slice. -/
import Derived.Test.YtdpfbedcejahjaaDoorLg5
namespace Go.Proofs.YtdpfbedcejahjaaDoor
open Go.RowKit

theorem only_drewN (w : World) (n : Nat) : Only [] w (w.drewN n) := ⟨rfl, rfl, rfl, Nat.le_refl _, fun _ _ _ => rfl⟩
def BackRel (w : World) (l : List En) (i : Nat) (n : Int) (vk : Value) (wr : World) : Prop :=
  ∃ j : Nat, j ≤ i ∧ vk = .int .i64 ((j : Int) - 1) ∧ lastOf (l.take i) n = lastOf (l.take j) n ∧ Only [] w wr

/-- field `q` of entry `k` of the slice -/
theorem VRow.field {w wr : World} {b off cap : Nat} {p : Option Addr} {l : List En} {k : Nat} (hv : VRow enC 6 w p l.length cap l) (ho : Only [] w wr) (hp : p = some ⟨b, off, none⟩) (hk : k < l.length) :
    wr.cell? ⟨b, off + k * 6, none⟩ = some (.int .i64 l[k].k) ∧ wr.cell? ⟨b, off + k * 6 + 1, none⟩ = some (.int .i64 l[k].n) ∧ wr.cell? ⟨b, off + k * 6 + 2, none⟩ = some (.int .i64 l[k].p) ∧ wr.cell? ⟨b, off + k * 6 + 3, none⟩ = some (.int .i64 l[k].m) ∧ wr.cell? ⟨b, off + k * 6 + 4, none⟩ = some (.int .i64 l[k].c) ∧ b < wr.heap.size := by
  obtain ⟨b', off', hp', hb, hcl⟩ := hv.cell k l[k] (List.getElem?_eq_getElem hk)
  rw [hp] at hp'
  cases hp'
  refine ⟨?_, ?_, ?_, ?_, ?_, Nat.lt_of_lt_of_le hb ho.size⟩
  · rw [ho.cell hb (by simp)]; exact hcl 0 _ rfl
  · rw [ho.cell hb (by simp)]; exact hcl 1 _ rfl
  · rw [ho.cell hb (by simp)]; exact hcl 2 _ rfl
  · rw [ho.cell hb (by simp)]; exact hcl 3 _ rfl
  · rw [ho.cell hb (by simp)]; exact hcl 4 _ rfl

set_option maxRecDepth 100000 in
set_option maxHeartbeats 2000000 in
theorem Rback {w : World} {p : Option Addr} {cap : Nat} {l : List En} (hv : VRow enC 6 w p l.length cap l) (hn : l.length ≤ 100000) (i : Nat) (hi : i < l.length) :
    Calls Tryd.prog 26 #[.slice p l.length cap, .int .i64 i] w fun e w' => e = .returned (.bool (bk (l.take i) l[i])) ∧ Only [] w w' := by
  have HV := Lib.hid hv; clear hv
  obtain ⟨bb, off, hp, _, _⟩ := HV.out.cell i l[i] (List.getElem?_eq_getElem hi)
  subst hp
  obtain ⟨en, hen⟩ : ∃ x, x = l[i].n := ⟨_, rfl⟩
  obtain ⟨ec, hec⟩ : ∃ x, x = l[i].c := ⟨_, rfl⟩
  have hF := fun (wr : World) (ho : Only [] w wr) => HV.out.field ho rfl hi
  rw [← hen, ← hec] at hF
  have HF := Lib.hid hF
  have hbk : bk (l.take i) l[i] = (match lastOf (l.take i) en with | some a => decide (a.k ≠ 3) && decide (ec < a.c) | none => false) := by rw [hen, hec]; rfl
  generalize bk (l.take i) l[i] = res at hbk
  have HBK := Lib.hid hbk
  clear hF hbk hen hec
  go_enter Tryd.func26, Tryd.ntmps26
  go_wp2
  go_loopw [5] (fun vk wr => BackRel w l i en vk wr) (fun vk _ => (intOf vk + 1).toNat)
  case atStart => exact ⟨i, Nat.le_refl _, rfl, rfl, Only.refl _ _⟩
  case round =>
    obtain ⟨j, hj, rfl, hlast, ho⟩ := hrel
    have HL := Lib.hid hlast; have OO := Lib.hid ho
    clear hlast ho
    cases j with
    | zero =>
      have HR : Hid (res = false) := Lib.hid (by rw [HBK.out, HL.out]; rfl)
      go_wp2
      go_ret
      exact ⟨by rw [HR.out]; rfl, OO.out⟩
    | succ j =>
      have hjl : j < l.length := by omega
      obtain ⟨f0, f1, _, _, f4, hbb⟩ := HV.out.field OO.out rfl hjl
      obtain ⟨_, g1, _, _, g4, _⟩ := HF.out wr OO.out
      have hstep := lastF_step (l.take j) l[j] en
      rw [← List.take_succ_eq_append_getElem hjl] at hstep
      generalize l[j] = a at f0 f1 f4 hstep
      have HST := Lib.hid hstep
      clear hstep
      have hj1 : ((j + 1 : Nat) : Int) - 1 = (j : Int) := by omega
      rw [hj1]
      obtain ⟨ak, an, ap, am, ac, av⟩ := a
      dsimp only at f0 f1 f4
      have hij : (i : Int) < (l.length : Int) := by omega
      have hjj : (j : Int) < (l.length : Int) := by omega
      by_cases hnn : an = en
      · have b1 : (an == en) = true := by simp [hnn]
        have HR : Hid (res = (decide (ak ≠ 3) && decide (ec < ac))) := Lib.hid (by rw [HBK.out, HL.out, HST.out, if_pos hnn.symm])
        by_cases h3 : ak = 3
        · have n3 : (ak != 3) = false := by simp [h3]
          have HR2 : Hid (res = false) := Lib.hid (by rw [HR.out]; simp [h3])
          clear hnn h3
          go_wp2_with fail
          go_quiet (fail)
          go_wp2_with fail
          go_quiet (fail)
          go_wp2
          go_ret
          exact ⟨by rw [HR2.out]; rfl, (OO.out.nil_trans (only_drewN _ _)).nil_trans (only_drewN _ _)⟩
        · have n3 : (ak != 3) = true := by simp [h3]
          have HR2 : Hid (res = decide (ec < ac)) := Lib.hid (by rw [HR.out]; simp [h3])
          clear hnn h3
          go_wp2_with fail
          go_quiet (fail)
          go_wp2_with fail
          go_quiet (fail)
          go_wp2
          go_ret
          exact ⟨by rw [HR2.out]; rfl, (OO.out.nil_trans (only_drewN _ _)).nil_trans (only_drewN _ _)⟩
      · have b1 : (an == en) = false := by simp [hnn]
        have HN : Hid (lastOf (l.take i) en = lastOf (l.take j) en) := Lib.hid (by rw [HL.out, HST.out, if_neg (fun q => hnn q.symm)])
        clear hnn
        go_wp2_with fail
        go_quiet (fail)
        go_wp2
        go_roundw
        case rel => exact ⟨j, by omega, by go_num, HN.out, OO.out.nil_trans (only_drewN _ _)⟩
        case measure => simp [intOf]
end Go.Proofs.YtdpfbedcejahjaaDoor
