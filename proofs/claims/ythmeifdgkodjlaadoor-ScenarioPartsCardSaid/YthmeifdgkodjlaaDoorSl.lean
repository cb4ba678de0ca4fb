/- number and numbers of package scenario. Conditions: the library's variables are laid; the lengths. -/
import Derived.Test.YthmeifdgkodjlaaDoorSj
namespace Go.Proofs.YthmeifdgkodjlaaDoor
open Go.RowKit

/-- what number returns -/
def NumR (r : Option Int) (e : Ending) : Prop := match r with
  | some n => e = .returned (.tuple #[.int .i64 n, .bool true])
  | none => ∃ V, e = .returned (.tuple #[.int .i64 V, .bool false])
set_option maxRecDepth 100000 in
set_option maxHeartbeats 2000000 in
theorem pNumber (l : List UInt8) (hs : l.length ≤ 1000000) (w : World) (he : Env w) :
    Calls Tryd.prog 63 #[.string (bstr l)] w fun e w' => NumR (numO l) e ∧ Only [] w w' := by
  have HE := Lib.hid he
  have hsz : (bstr l).size ≤ 1000000 := by rw [bstr_size]; exact hs
  by_cases ha : ∃ z, Lib.atoiAll l = .ok z
  · obtain ⟨z, hz⟩ := ha
    have hb := Lib.atoiAll_bounds hz
    have HA := Lib.hid (atoi_ok (bstr l) z hz hsz w)
    have HI := Lib.hid (fun w' (ho : Only [] w w') => itoa_plus z w' hb.1 hb.2 (HE.out.kept ho).tab)
    have hq : numO l = if Lib.itoa z = l then some z else none := by
      by_cases h : Lib.itoa z = l
      · rw [if_pos h, numO_ok hz h]
      · rw [if_neg h, numO_no hz h]
    have heq : ((⟨(Lib.itoa z).toArray⟩ : ByteArray).toList == (bstr l).toList) = decide (Lib.itoa z = l) := by
      rw [Lib.toList_data, Lib.toList_data, Bool.eq_iff_iff, beq_iff_eq, decide_eq_true_eq]
      exact Iff.rfl
    have HQ := Lib.hid hq
    clear hq hz hb he
    generalize hS : (⟨(Lib.itoa z).toArray⟩ : ByteArray) = S at HI heq
    generalize bstr l = T at HA heq hsz
    generalize numO l = res at HQ ⊢
    by_cases hd : Lib.itoa z = l
    · have HR : Hid (res = some z) := Lib.hid (by rw [HQ.out, if_pos hd])
      rw [decide_eq_true hd] at heq
      clear hd HQ hS
      go_enter Tryd.func63, Tryd.ntmps63
      go_wp2_with fail
      refine HA.out.mono ?_
      rintro e w1 ⟨rfl, ho1⟩
      have O1 := Lib.hid ho1
      clear ho1
      go_wp2_with fail
      refine (HI.out w1 O1.out).mono ?_
      rintro e w2 ⟨rfl, ho2⟩
      have O2 := Lib.hid (O1.out.nil_trans ho2)
      clear ho2
      go_wp2
      refine bodyPost_ret (v := .tuple #[.int .i64 z, .bool true]) (by simp [results, Tryd.results63, go_sem]) rfl ⟨?_, O2.out⟩
      rw [HR.out]; rfl
    · have HR : Hid (res = none) := Lib.hid (by rw [HQ.out, if_neg hd])
      rw [decide_eq_false hd] at heq
      clear hd HQ hS
      go_enter Tryd.func63, Tryd.ntmps63
      go_wp2_with fail
      refine HA.out.mono ?_
      rintro e w1 ⟨rfl, ho1⟩
      have O1 := Lib.hid ho1
      clear ho1
      go_wp2_with fail
      refine (HI.out w1 O1.out).mono ?_
      rintro e w2 ⟨rfl, ho2⟩
      have O2 := Lib.hid (O1.out.nil_trans ho2)
      clear ho2
      go_wp2
      refine bodyPost_ret (v := .tuple #[.int .i64 z, .bool false]) (by simp [results, Tryd.results63, go_sem]) rfl ⟨?_, O2.out⟩
      rw [HR.out]; exact ⟨_, rfl⟩
  · have ha' : ∀ z, Lib.atoiAll l ≠ .ok z := fun z hz => ha ⟨z, hz⟩
    have HA := Lib.hid (atoi_bad (bstr l) ha' hsz w he)
    have HR : Hid (numO l = none) := Lib.hid (numO_bad ha')
    clear ha ha' he
    generalize numO l = res at HR ⊢
    go_enter Tryd.func63, Tryd.ntmps63
    go_wp2_with fail
    refine HA.out.mono ?_
    rintro e w1 ⟨V, N, rfl, ho1⟩
    have O1 := Lib.hid ho1
    clear ho1
    go_wp2
    refine bodyPost_ret (v := .tuple #[.int .i64 V, .bool false]) (by simp [results, Tryd.results63, go_sem]) rfl ⟨?_, O1.out⟩
    rw [HR.out]; exact ⟨_, rfl⟩
theorem numsO_len : ∀ {l : List (List UInt8)} {ns : List Int}, numsO l = some ns → ns.length = l.length
  | [], ns, h => by cases h; rfl
  | x :: l, ns, h => by
    cases hx : numO x with
    | none => simp [numsO, hx] at h
    | some n =>
      cases hl : numsO l with
      | none => simp [numsO, hx, hl] at h
      | some m => simp [numsO, hx, hl] at h; subst h; simp [numsO_len hl]
theorem numsO_snoc (x : List UInt8) : ∀ (l : List (List UInt8)) (ns : List Int), numsO l = some ns → numsO (l ++ [x]) = (numO x).map (fun n => ns ++ [n])
  | [], ns, h => by cases h; cases hx : numO x <;> simp [numsO, hx]
  | y :: l, ns, h => by
    cases hy : numO y with
    | none => simp [numsO, hy] at h
    | some n =>
      cases hl : numsO l with
      | none => simp [numsO, hy, hl] at h
      | some m =>
        simp [numsO, hy, hl] at h
        subst h
        have := numsO_snoc x l m hl
        simp only [List.cons_append, numsO, hy]
        rw [this]
        cases numO x <;> rfl
theorem numsO_none {l r : List (List UInt8)} (h : numsO l = none) (hp : l <+: r) : numsO r = none := by
  obtain ⟨t, rfl⟩ := hp
  induction l with
  | nil => cases h
  | cons x l ih =>
    simp only [List.cons_append, numsO]
    cases hx : numO x with
    | none => rfl
    | some n =>
      cases hl : numsO l with
      | none => rw [ih hl]
      | some m => simp [numsO, hx, hl] at h
/-- what numbers returns -/
def NumsR (r : Option (List Int)) (w : World) (e : Ending) (w' : World) : Prop := match r with
  | some ns => ∃ g, w.heap.size ≤ g ∧ e = .returned (.tuple #[.slice (some ⟨g, 0, none⟩) ns.length ns.length, .bool true]) ∧ RowAt itC 3 1 w' g ns.length ns
  | none => e = .returned (.tuple #[.slice none 0 0, .bool false])
def NbI (w : World) (g : Nat) (ws : List (List UInt8)) (vi : Value) (wr : World) : Prop :=
  ∃ (k : Nat) (ns : List Int), k ≤ ws.length ∧ vi = .int .i64 k ∧ ns.length = k ∧ numsO (ws.take k) = some ns ∧ RowAt itC 3 1 wr g ws.length (ns ++ List.replicate (ws.length - k) 0) ∧ Only [] w wr
theorem VRow.str {w wr : World} {cap k : Nat} {p : Option Addr} {l : List (List UInt8)} (hv : VRow strC 1 w p l.length cap l) (ho : Only [] w wr) (hk : k < l.length) :
    ∃ bk off, p = some ⟨bk, off, none⟩ ∧ wr.cell? ⟨bk, off + k, none⟩ = some (.string (bstr (l.getD k []))) ∧ bk < wr.heap.size := by
  obtain ⟨bk, off, hp, hb, hc⟩ := hv.at_ ho (getD_some [] hk)
  exact ⟨bk, off, hp, by have := hc 0 _ rfl; rwa [Nat.mul_one, Nat.add_zero] at this, hb⟩
set_option maxRecDepth 100000 in
set_option maxHeartbeats 2000000 in
theorem pNumbers {w : World} {p : Option Addr} {n cap : Nat} {ws : List (List UInt8)} (hv : VRow strC 1 w p n cap ws) (hn : n ≤ 100000) (hl : ∀ x ∈ ws, x.length ≤ 1000000) (he : Env w) :
    Calls Tryd.prog 65 #[.slice p n cap] w fun e w' => NumsR (numsO ws) w e w' ∧ Only [] w w' := by
  have hlen := hv.len
  subst hlen
  have HV := Lib.hid hv; have HE := Lib.hid he; have HL := Lib.hid hl; clear hv he hl
  obtain ⟨res, hres⟩ : ∃ res, res = numsO ws := ⟨_, rfl⟩
  rw [← hres]
  have HR := Lib.hid hres
  clear hres
  go_enter Tryd.func65, Tryd.ntmps65
  go_wp2_with (refine wpList_make_own itC rfl _ _ 42 rfl 3 (.int .i64 0) 1 8 Tryd.underlying42 (by kernel_rfl) itC_len (0 : Int) rfl .i64 .i64 _ _ ws.length rfl rfl rfl rfl (by omega) (by unfold maxLen; omega) ?_; intro w1 hr1 ho1 hs1; have R1 := Lib.hid hr1; have O1 := Lib.hid ho1; clear hr1 ho1 hs1)
  go_loopw [14] (fun vi wr => NbI w w.heap.size ws vi wr) (fun vi _ => ws.length - (intOf vi).toNat)
  case atStart => exact ⟨0, [], Nat.zero_le _, rfl, rfl, rfl, by simpa using R1.out, O1.out⟩
  case round =>
    obtain ⟨k, ns, hk, rfl, hnl, hns, hrow, ho⟩ := hrel
    have HN := Lib.hid hns; have RR := Lib.hid hrow; have OO := Lib.hid ho
    clear hns hrow ho
    by_cases hlt : k < ws.length
    · obtain ⟨bk, off, hp, c0, lb⟩ := HV.out.str OO.out hlt
      subst hp
      have htk : ws.take (k + 1) = ws.take k ++ [ws.getD k []] := by rw [List.take_add_one, getD_some [] hlt]; rfl
      have hxl := HL.out _ (getD_mem [] hlt)
      have hsn := numsO_snoc (ws.getD k []) _ _ HN.out
      rw [← htk] at hsn
      generalize ws.getD k [] = x at c0 hxl hsn
      have HSN := Lib.hid hsn
      have HP := Lib.hid (pNumber x hxl wr (HE.out.kept OO.out))
      clear htk hsn
      go_wp2_with fail
      refine HP.out.mono ?_
      rintro e w2 ⟨hv2, ho2⟩
      have O2 := Lib.hid (OO.out.nil_trans ho2); have R2 := Lib.hid (RR.out.kept ho2 (by simp))
      clear ho2 c0 lb HP
      cases hx : numO x with
      | none =>
        rw [hx] at hv2 HSN
        obtain ⟨V, rfl⟩ := hv2
        have HX : Hid (res = none) := Lib.hid (by rw [HR.out]; exact numsO_none HSN.out (List.take_prefix _ _))
        go_wp2
        refine bodyPost_ret (v := .tuple #[.slice none 0 0, .bool false]) (by simp [results, Tryd.results65, go_sem]) rfl ⟨?_, O2.out⟩
        rw [HX.out]; rfl
      | some z =>
        rw [hx] at hv2 HSN
        have hv2' : e = .returned (.tuple #[.int .i64 z, .bool true]) := hv2
        subst hv2'
        have HSM : Hid (numsO (ws.take (k + 1)) = some (ns ++ [z])) := HSN
        obtain ⟨cur, hcur, hcz, _⟩ := R2.out
        have hsz := R2.out.set1 (f := Value.int .i64) (i := k) (by simp; omega) z
        have hset : (ns ++ List.replicate (ws.length - k) 0).set k z = (ns ++ [z]) ++ List.replicate (ws.length - (k + 1)) 0 := by
          rw [show ws.length - k = (ws.length - (k + 1)) + 1 by omega, List.replicate_succ, List.set_append_right _ _ (by omega), hnl, Nat.sub_self, List.set_cons_zero]
          simp
        rw [hset] at hsz
        have R3 := Lib.hid hsz
        have O3 := Lib.hid (O2.out.setCell (p := ⟨w.heap.size, k, none⟩) (.inr (Nat.le_refl _)) (.int .i64 z))
        have cc := cell_got hcur k; have ff := frozen_got hcur k; have lc := got_lt hcur
        have hck : k < cur.size := by rw [hcz]; omega
        rw [Array.getElem?_eq_getElem hck] at cc
        clear hsz hset hcur hcz
        go_wp2
        go_roundw
        case rel => exact ⟨k + 1, ns ++ [z], by omega, by go_num, by simp; omega, HSM.out, R3.out, O3.out⟩
        case measure => first | (simp [intOf]; done) | (simp [intOf]; omega)
    · obtain rfl : k = ws.length := by omega
      have hn' := HN.out
      rw [List.take_of_length_le (Nat.le_refl _)] at hn'
      have HX : Hid (res = some ns) := Lib.hid (by rw [HR.out, hn'])
      have hrow := RR.out
      rw [Nat.sub_self, List.replicate_zero, List.append_nil] at hrow
      go_wp2
      refine bodyPost_ret (v := .tuple #[.slice (some ⟨w.heap.size, 0, none⟩) ws.length ws.length, .bool true]) (by simp [results, Tryd.results65, go_sem]) rfl ⟨?_, OO.out⟩
      rw [HX.out]; exact ⟨w.heap.size, Nat.le_refl _, by rw [hnl], by rw [hnl]; exact hrow⟩
end Go.Proofs.YthmeifdgkodjlaaDoor
