/- Check of package choose. Condition: the length of the slice. -/
import Derived.Test.YtikjdmbfjkbndaaGreatMa
import Derived.Carry
namespace Go.Proofs.YtikjdmbfjkbndaaGreat
open Go.RowKit

/-- one record of the slice, cell by cell -/
theorem VRow.cd {w w' : World} {p : Option Addr} {n cap : Nat} {l : List Cd} (hv : VRow cdC 5 w p n cap l) (ho : Only [] w w') {k : Nat} (hlt : k < l.length) : ∃ b off, p = some ⟨b, off, none⟩ ∧ b < w.heap.size ∧
    w'.cell? ⟨b, off + k * 5, none⟩ = some (.int .i64 l[k].id) ∧ w'.cell? ⟨b, off + k * 5 + 1, none⟩ = some (.int .i64 l[k].off) ∧ w'.cell? ⟨b, off + k * 5 + 2, none⟩ = some (.int .i64 l[k].dist) ∧ w'.cell? ⟨b, off + k * 5 + 3, none⟩ = some (.int .i64 l[k].jit) ∧ w'.cell? ⟨b, off + k * 5 + 4, none⟩ = some (.int .i64 l[k].str) := by
  obtain ⟨b, off, hp, hb, hc⟩ := hv.cell k l[k] (List.getElem?_eq_getElem hlt)
  refine ⟨b, off, hp, hb, ?_, ?_, ?_, ?_, ?_⟩
  · rw [ho.cell hb (by simp)]; exact hc 0 _ rfl
  · rw [ho.cell hb (by simp)]; exact hc 1 _ rfl
  · rw [ho.cell hb (by simp)]; exact hc 2 _ rfl
  · rw [ho.cell hb (by simp)]; exact hc 3 _ rfl
  · rw [ho.cell hb (by simp)]; exact hc 4 _ rfl
/-- the set of numbers -/
def snF (s : List Int) (k : Int) : Option Bool := if k ∈ s then some true else none
theorem snF_cons (s : List Int) (x : Int) : (fun k' => if k' = x then some true else snF s k') = snF (x :: s) := by
  funext k'
  unfold snF
  by_cases h : k' = x
  · rw [if_pos h, if_pos (by simp [h])]
  · rw [if_neg h]
    by_cases h2 : k' ∈ s
    · rw [if_pos h2, if_pos (by simp [h2])]
    · rw [if_neg h2, if_neg (by simp [h, h2])]
def ChkI (w : World) (b : Nat) (l : List Cd) (vi : Value) (wr : World) : Prop :=
  ∃ (k : Nat) (s : List Int), k ≤ l.length ∧ vi = .int .i64 k ∧ chkL [] l = chkL s (l.drop k) ∧ MapF (fun n : Int => Value.int .i64 n) Value.bool wr b (snF s) ∧ Only [] w wr
set_option maxRecDepth 100000 in
set_option maxHeartbeats 2000000 in
theorem pCheck {w : World} {p : Option Addr} {n cap : Nat} {l : List Cd} (hv : VRow cdC 5 w p n cap l) (hn : n ≤ 100000) :
    Calls Tryz.prog 90 #[.slice p n cap] w fun e w' => e = .returned (.int .i64 (chkC l)) ∧ Only [] w w' := by
  have hl := hv.len
  subst hl
  have HV := Lib.hid hv; clear hv
  obtain ⟨res, hres⟩ : ∃ res, res = chkC l := ⟨_, rfl⟩
  rw [← hres]
  have HR := Lib.hid hres
  clear hres
  by_cases h12 : 12 < l.length
  · have d1 : decide (12 < (l.length : Int)) = true := by simp; omega
    have d2 : decide (12 < l.length) = true := by simp; omega
    obtain rfl : res = 6 := by rw [HR.out]; unfold chkC; rw [if_pos h12]
    clear HR
    go_enter Tryz.func90, Tryz.ntmps90
    go_wp2
    go_ret
    exact ⟨rfl, Only.refl _ _⟩
  · have d1 : decide (12 < (l.length : Int)) = false := by simp; omega
    have d2 : decide (12 < l.length) = false := by simp; omega
    have HRF : Hid (res = chkL [] l) := Lib.hid (by rw [HR.out]; unfold chkC; rw [if_neg h12])
    clear HR h12
    have hmm := @run_makeMap Tryz.prog
    go_enter Tryz.func90, Tryz.ntmps90
    go_wp2
    clear hmm
    go_loopw [12] (fun vi wr => ChkI w w.heap.size l vi wr) (fun vi _ => l.length - (intOf vi).toNat)
    case atStart => exact ⟨0, [], Nat.zero_le _, rfl, rfl, mapF_new (alloc_new _ _), (Only.refl _ _).alloc _⟩
    case round =>
      obtain ⟨k, s, hk, rfl, hfe, hmp, ho⟩ := hrel
      have HF := Lib.hid hfe; have MM := Lib.hid hmp; have OO := Lib.hid ho
      clear hfe hmp ho
      by_cases hlt : k < l.length
      · obtain ⟨bk, off, hp, hb, c0, c1, c2, c3, c4⟩ := HV.out.cd OO.out hlt
        subst hp
        have hle := OO.out.size
        have hb' : bk < wr.heap.size := by omega
        have HST : Hid (res = if okC l[k] = true then (if l[k].id ∈ s then 10 else chkL (l[k].id :: s) (l.drop (k + 1))) else 3) := Lib.hid (by rw [HRF.out, HF.out, List.drop_eq_getElem_cons hlt, chkL])
        generalize l[k] = c at c0 c1 c2 c3 c4 HST
        obtain ⟨id, of, di, ji, st⟩ := c
        dsimp only at c0 c1 c2 c3 c4
        have HZ : Hid (∀ w, (zeroValue 4).run Tryz.prog w = .ok (.bool false) w) := Lib.hid Tryz.zeroValue4
        have HVL := Lib.hid (fun w => pValid ⟨id, of, di, ji, st⟩ w)
        have HID : Hid ((Cd.mk id of di ji st).id = id) := Lib.hid rfl
        rw [HID.out] at HST
        generalize okC ⟨id, of, di, ji, st⟩ = okk at HST HVL
        go_wp2_with fail
        refine alloc_abs (G := fun w0 => Calls _ _ _ w0 _) ?_
        intro w1 hb1 ho1 hs1
        refine (HVL.out w1).mono ?_
        rintro r w2 ⟨rfl, ho2⟩
        have hoo := (Only.refl [] wr).nil_trans ho1 |>.nil_trans ho2
        have O2 := Lib.hid (OO.out.nil_trans hoo); have M2 := Lib.hid (MM.out.kept hoo (by simp)); have B2 := Lib.hid (ho2.got hb1 (by simp))
        clear hb1 ho1 hs1 ho2 hoo c0 c1 c2 c3 c4 MM OO HVL
        have k0 := cell_got B2.out 0; have lk := got_lt B2.out
        cases okk with
        | false =>
          obtain rfl : res = 3 := by rw [HST.out]; rfl
          clear HRF HF HST
          go_wp2
          go_ret
          exact ⟨rfl, O2.out⟩
        | true =>
          by_cases hin : id ∈ s
          · obtain rfl : res = 10 := by rw [HST.out, if_pos rfl, if_pos hin]
            have hsn : snF s id = some true := by unfold snF; rw [if_pos hin]
            clear HRF HF HST
            go_wp2_with (at_lookup; refine stop_here ?_)
            refine stop_go ?_
            refine wpList_lookup_F (kE := fun n : Int => Value.int .i64 n) (vE := Value.bool) rfl _ _ 231 false rfl 3 4 (key_int Tryz.underlying3) Tryz.underlying231 (.bool false) (HZ.out _) w.heap.size _ rfl M2.out id rfl ?_
            rw [hsn]
            simp only [Option.map_some, Option.getD_some, Bool.false_eq_true, if_false]
            clear hin hsn
            go_wp2
            go_ret
            exact ⟨rfl, O2.out⟩
          · have HQ : Hid (res = chkL (id :: s) (l.drop (k + 1))) := Lib.hid (by rw [HST.out, if_pos rfl, if_neg hin])
            have hsn : snF s id = none := by unfold snF; rw [if_neg hin]
            clear HST
            go_wp2_with (at_lookup; refine stop_here ?_)
            refine stop_go ?_
            refine wpList_lookup_F (kE := fun n : Int => Value.int .i64 n) (vE := Value.bool) rfl _ _ 231 false rfl 3 4 (key_int Tryz.underlying3) Tryz.underlying231 (.bool false) (HZ.out _) w.heap.size _ rfl M2.out id rfl ?_
            rw [hsn]
            simp only [Option.map_none, Option.getD_none, Bool.false_eq_true, if_false]
            clear hin hsn
            go_wp2_with (at_mapUpdate; refine stop_here ?_)
            refine stop_go ?_
            refine wpList_update_F (kE := fun n : Int => Value.int .i64 n) (vE := Value.bool) rfl _ _ _ 231 rfl 3 4 (key_int Tryz.underlying3) Tryz.underlying231 w.heap.size _ rfl M2.out id rfl true rfl ?_
            intro w5 hm5 ho5 hs5
            rw [snF_cons] at hm5
            have M5 := Lib.hid hm5; have O5 := Lib.hid (O2.out.trans ho5 (fun x hx => .inr (by simp at hx; omega)))
            clear hm5 ho5 hs5 M2 O2
            go_wp2
            go_roundw
            case rel => exact ⟨k + 1, id :: s, by omega, by go_num, HRF.out.symm.trans HQ.out, M5.out, O5.out⟩
            case measure => simp [intOf]; omega
      · obtain rfl : res = 0 := by rw [HRF.out, HF.out, List.drop_of_length_le (by omega)]; rfl
        clear HRF HF
        go_wp2
        go_ret
        exact ⟨rfl, OO.out⟩
end Go.Proofs.YtikjdmbfjkbndaaGreat
