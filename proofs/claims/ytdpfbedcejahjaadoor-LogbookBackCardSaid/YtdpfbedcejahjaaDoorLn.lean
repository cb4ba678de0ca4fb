/- numbers of package logbook: the numbers that words are. Conditions: the library's variables are laid; the lengths. -/
import Derived.Test.YtdpfbedcejahjaaDoorEnv
import Derived.Test.YtdpfbedcejahjaaDoorLt
import Derived.Test.YtdpfbedcejahjaaDoorOwn
namespace Go.Proofs.YtdpfbedcejahjaaDoor
open Go.RowKit

def intC (z : Int) : List Value := [.int .i64 z]
theorem intC_len (z : Int) : (intC z).length = 1 := rfl
theorem numsO_snoc (x : List UInt8) : ∀ (ws : List (List UInt8)) (ns : List Int), numsO ws = some ns → numsO (ws ++ [x]) = (numO x).map (fun n => ns ++ [n])
  | [], ns, h => by
    simp only [numsO, Option.some.injEq] at h
    subst h
    simp only [List.nil_append, numsO]
    cases numO x <;> rfl
  | p :: ws, ns, h => by
    simp only [numsO] at h
    cases hp : numO p with
    | none => rw [hp] at h; cases h
    | some n =>
      rw [hp] at h
      cases hw : numsO ws with
      | none => rw [hw] at h; cases h
      | some ms =>
        rw [hw] at h
        cases h
        simp only [List.cons_append, numsO, hp, numsO_snoc x ws ms hw]
        cases numO x <;> rfl
theorem numsO_none {x : List UInt8} (hx : numO x = none) : ∀ {ws : List (List UInt8)}, x ∈ ws → numsO ws = none
  | [], h => by cases h
  | p :: ws, h => by
    simp only [numsO]
    rcases List.mem_cons.1 h with rfl | h
    · rw [hx]
    · cases numO p with
      | none => rfl
      | some n => rw [numsO_none hx h]
theorem numsO_len : ∀ {ws : List (List UInt8)} {ns : List Int}, numsO ws = some ns → ns.length = ws.length
  | [], ns, h => by simp only [numsO, Option.some.injEq] at h; subst h; rfl
  | p :: ws, ns, h => by
    simp only [numsO] at h
    split at h
    · cases h
    · split at h
      · cases h
      · rename_i hms; cases h; simp [numsO_len hms]
/-- what numbers returns -/
def NumsR (o : Option (List Int)) (e : Ending) (w : World) : Prop := match o with
  | none => e = .returned (.tuple #[.slice none 0 0, .bool false])
  | some ns => ∃ p cap, e = .returned (.tuple #[.slice p ns.length cap, .bool true]) ∧ VRow intC 1 w p ns.length cap ns
def NumRel (w : World) (ws : List (List UInt8)) (vi : Value) (wr : World) : Prop :=
  ∃ (k : Nat) (ns : List Int), k ≤ ws.length ∧ vi = .int .i64 k ∧ numsO (ws.take k) = some ns ∧ RowAt intC 3 1 wr w.heap.size ws.length (ns ++ List.replicate (ws.length - k) 0) ∧ Only [] w wr

set_option maxRecDepth 100000 in
set_option maxHeartbeats 2000000 in
theorem Pnumbers {w : World} {p : Option Addr} {n cap : Nat} {ws : List (List UInt8)} (hv : VRow strC 1 w p n cap ws) (hn : n ≤ 1000000) (hsz : ∀ x ∈ ws, x.length ≤ 1000000) (he : Env w) :
    Calls Tryd.prog 40 #[.slice p n cap] w fun e w' => NumsR (numsO ws) e w' ∧ Only [] w w' := by
  have hl := hv.len
  subst hl
  have HV := Lib.hid hv; have HE := Lib.hid he; have HS := Lib.hid hsz
  clear hv he hsz
  go_enter Tryd.func40, Tryd.ntmps40
  go_wp2_with (at_make; refine wpList_make_own intC rfl _ _ 71 rfl 3 (.int .i64 0) 1 8 Tryd.underlying71 (by kernel_rfl) intC_len 0 rfl .i64 .i64 _ _ ws.length rfl rfl rfl rfl (by omega) (by simp [maxLen]; omega) ?_; intro w1 hrow1 ho1 hs1)
  have R1 := Lib.hid hrow1; have O1 := Lib.hid ho1
  clear hrow1 ho1 hs1
  go_wp2
  go_loopw [14] (fun vi wr => NumRel w ws vi wr) (fun vi _ => ws.length - (intOf vi).toNat)
  case atStart => exact ⟨0, [], Nat.zero_le _, rfl, rfl, by simpa using R1.out, O1.out⟩
  case round =>
    obtain ⟨k, ns, hk, rfl, hnums, hrow, ho⟩ := hrel
    have HN := Lib.hid hnums; have RR := Lib.hid hrow; have OO := Lib.hid ho
    clear hnums hrow ho
    by_cases hlt : k < ws.length
    · obtain ⟨bb, off, hp, hb, hcl⟩ := HV.out.cell k ws[k] (List.getElem?_eq_getElem hlt)
      subst hp
      have hxs := HS.out ws[k] (List.getElem_mem hlt)
      have htk : ws.take (k + 1) = ws.take k ++ [ws[k]] := List.take_succ_eq_append_getElem hlt
      have hmem : ws[k] ∈ ws := List.getElem_mem hlt
      generalize ws[k] = x at hcl hxs htk hmem
      have c0 : wr.cell? ⟨bb, off + k, none⟩ = some (.string (bstr x)) := by rw [OO.out.cell hb (by simp)]; simpa using hcl 0 _ rfl
      have hle := OO.out.size
      have hb' : bb < wr.heap.size := by omega
      have HTK := Lib.hid htk; have HM := Lib.hid hmem
      have hxz : (bstr x).size ≤ 1000000 := by rw [bstr_size]; exact hxs
      clear hcl htk hmem
      have hkl : (k : Int) < (ws.length : Int) := by omega
      go_wp2_with fail
      by_cases ha : ∃ v, Lib.atoiAll x = .ok v
      · obtain ⟨v, hv⟩ := ha
        have hbd := Lib.atoiAll_bounds hv
        have HVV := Lib.hid hv
        refine (atoi_ok (bstr x) v hv hxz wr).mono ?_
        rintro e w2 ⟨rfl, ho2⟩
        have O2 := Lib.hid (OO.out.nil_trans ho2); have R2 := Lib.hid (RR.out.kept ho2 (by simp))
        clear ho2 RR OO c0 hv
        go_wp2_with fail
        refine (itoa_plus v w2 hbd.1 hbd.2 (HE.out.kept O2.out).tab).mono ?_
        rintro e w3 ⟨rfl, ho3⟩
        have O3 := Lib.hid (O2.out.nil_trans ho3); have R3 := Lib.hid (R2.out.kept ho3 (by simp))
        clear ho3 R2 O2
        by_cases hxv : Lib.itoa v = x
        · have e1 : (⟨(Lib.itoa v).toArray⟩ : ByteArray) = bstr x := by rw [hxv]; rfl
          have HX : Hid (numsO (ws.take (k + 1)) = some (ns ++ [v])) := Lib.hid (by rw [HTK.out, numsO_snoc x _ ns HN.out, numO_ok HVV.out hxv]; rfl)
          rw [e1]
          clear e1 hxv
          have hnl : ns.length = k := by
            have := numsO_len HN.out
            rw [List.length_take] at this; omega
          have hset : ns ++ [v] ++ List.replicate (ws.length - (k + 1)) 0 = (ns ++ List.replicate (ws.length - k) 0).set k v := by
            rw [List.set_append_right _ _ (by omega), hnl, Nat.sub_self, show ws.length - k = (ws.length - (k + 1)) + 1 by omega, List.replicate_succ, List.set_cons_zero, List.append_assoc]
            rfl
          have R4 : Hid (RowAt intC 3 1 (w3.setCell ⟨w.heap.size, k, none⟩ (.int .i64 v)) w.heap.size ws.length (ns ++ [v] ++ List.replicate (ws.length - (k + 1)) 0)) := Lib.hid (by
            rw [hset]
            exact RowAt.set1 (f := fun z => Value.int .i64 z) R3.out (by simp; omega) v)
          have hfz := R3.out.frozen k
          have hwl := R3.out.lt
          have hcell : ∃ u, w3.cell? ⟨w.heap.size, k, none⟩ = some u := by
            have hx := R3.out.cell (i := k) (j := 0) (x := (ns ++ List.replicate (ws.length - k) 0)[k]'(by simp; omega)) intC_len (List.getElem?_eq_getElem _) (by decide)
            rw [Nat.mul_one, Nat.add_zero] at hx
            exact ⟨_, hx⟩
          obtain ⟨u, hcu⟩ := hcell
          have O4 := Lib.hid (O3.out.setCell (p := ⟨w.heap.size, k, none⟩) (.inr (Nat.le_refl _)) (.int .i64 v))
          clear hset hnl
          go_wp2
          go_roundw
          case rel => exact ⟨k + 1, ns ++ [v], by omega, by go_num, HX.out, R4.out, O4.out⟩
          case measure => simp [intOf]; omega
        · have HX : Hid (numsO ws = none) := Lib.hid (numsO_none (numO_no HVV.out hxv) HM.out)
          have hne : ((⟨(Lib.itoa v).toArray⟩ : ByteArray).toList == (bstr x).toList) = false := by
            rw [Lib.toList_data, Lib.toList_data]
            exact beq_eq_false_iff_ne.2 hxv
          have hne2 : ((⟨(Lib.itoa v).toArray⟩ : ByteArray).toList != (bstr x).toList) = true := by unfold bne; rw [hne]; rfl
          clear hxv
          generalize (⟨(Lib.itoa v).toArray⟩ : ByteArray) = T at hne hne2 ⊢
          go_wp2
          go_ret2
          exact ⟨by rw [HX.out]; rfl, O3.out⟩
      · have HX : Hid (numsO ws = none) := Lib.hid (numsO_none (numO_bad fun v hv => ha ⟨v, hv⟩) HM.out)
        refine (atoi_bad (bstr x) (fun v hv => ha ⟨v, hv⟩) hxz wr (HE.out.kept OO.out)).mono ?_
        rintro e w2 ⟨V, N, rfl, ho2⟩
        have O2 := Lib.hid (OO.out.nil_trans ho2)
        clear ho2 RR OO c0 ha
        go_wp2
        go_ret2
        exact ⟨by rw [HX.out]; rfl, O2.out⟩
    · obtain rfl : k = ws.length := by omega
      have hh := HN.out
      rw [List.take_of_length_le (Nat.le_refl _)] at hh
      have hlen := numsO_len hh
      have hr := RR.out
      rw [Nat.sub_self, List.replicate_zero, List.append_nil] at hr
      have H1 := Lib.hid hh; have H2 := Lib.hid (hr.vrow intC_len rfl); have H3 := Lib.hid hlen
      clear hh hr hlen RR HN
      go_wp2
      go_ret2
      exact ⟨by rw [H1.out]; exact ⟨some ⟨w.heap.size, 0, none⟩, ws.length, by rw [H3.out]; rfl, H2.out⟩, OO.out⟩
end Go.Proofs.YtdpfbedcejahjaaDoor
