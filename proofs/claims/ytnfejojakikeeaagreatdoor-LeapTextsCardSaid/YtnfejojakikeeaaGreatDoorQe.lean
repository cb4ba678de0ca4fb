/- blank, fields, numbers, before of the reference of layer 6. Condition: the length. -/
import Derived.Test.YtnfejojakikeeaaGreatDoorQc
namespace Go.Proofs.YtnfejojakikeeaaGreatDoor
open Go.RowKit

theorem rblank (c : UInt8) (w : World) : Calls Tryz.prog 48 #[.int .u8 c.toNat] w fun e w' => e = .returned (.bool (blk c)) ∧ w = w' := by
  have h : blk c = (((c.toNat : Int) == 32) || ((c.toNat : Int) == 9)) := by
    unfold blk; rw [u8_beq c 32, u8_beq c 9]; rfl
  cases q1 : ((c.toNat : Int) == 32) with
  | true =>
    have HR : Hid (blk c = true) := Lib.hid (by rw [h, q1]; rfl)
    clear h
    go_enter Tryz.func48, Tryz.ntmps48
    go_wp2
    go_ret
    exact ⟨by rw [HR.out]; rfl, rfl⟩
  | false =>
    have HR : Hid (blk c = ((c.toNat : Int) == 9)) := Lib.hid (by rw [h, q1]; rfl)
    clear h
    go_enter Tryz.func48, Tryz.ntmps48
    go_wp2
    go_ret
    exact ⟨by rw [HR.out]; rfl, rfl⟩
/-- where fields stands -/
def FdI (w : World) (L : List UInt8) (vl vf vi : Value) (wr : World) : Prop :=
  ∃ (k f : Nat) (acc : List (List UInt8)), k ≤ L.length + 1 ∧ f ≤ k ∧ (k ≤ L.length ∨ f = k) ∧ vi = .int .i64 k ∧ vf = .int .i64 f ∧ wds [] L = acc ++ wds ((L.take k).drop f) (L.drop k) ∧ acc.length ≤ k ∧ Own strC 9 1 w.heap.size wr vl acc ∧ Only [] w wr
theorem strC_one (x : List UInt8) : ∀ u ∈ strC x, u.oneCell' = true := by simp [strC, Value.oneCell']
theorem cur_len {L : List UInt8} {k f : Nat} (hk : k ≤ L.length) : ((L.take k).drop f).length = k - f := by simp; omega
set_option maxRecDepth 100000 in
set_option maxHeartbeats 2000000 in
theorem rfields (X : ByteArray) (L : List UInt8) (hL : X.data.toList = L) (hs : X.size ≤ 100000) (w : World) :
    Calls Tryz.prog 50 #[.string X] w fun e w' => ∃ v, e = .returned v ∧ Own strC 9 1 w.heap.size w' v (wds [] L) ∧ Only [] w w' := by
  have hsz : X.size = L.length := by rw [← hL, Array.length_toList]; rfl
  go_enter Tryz.func50, Tryz.ntmps50
  go_wp2
  go_loopw [3, 4, 5] (fun vl vf vi wr => FdI w L vl vf vi wr) (fun _ _ vi _ => L.length + 1 - (intOf vi).toNat)
  case atStart => exact ⟨0, 0, [], by omega, Nat.le_refl _, .inl (Nat.zero_le _), rfl, rfl, by simp, Nat.zero_le _, own_nil _ _, Only.refl _ _⟩
  case round =>
    obtain ⟨k, f, acc, hk, hfk, hkf, rfl, rfl, hw, hal, hown, ho⟩ := hrel
    have OW := Lib.hid hown; have OO := Lib.hid ho; have HW := Lib.hid hw
    clear hown ho hw
    obtain ⟨pp, cap, rfl, _⟩ := OW.out.vrow strC_len
    by_cases hle : k ≤ L.length
    · have q0 : decide ((k : Int) ≤ (X.size : Int)) = true := by simp; omega
      by_cases hlt : k < L.length
      · have q1 : decide ((k : Int) < (X.size : Int)) = true := by simp; omega
        have hki : (k : Int) < (X.size : Int) := by omega
        have hxk : X[k]'(by omega) = L[k]'hlt := by subst hL; rfl
        have hdr : L.drop k = (L[k]'hlt) :: L.drop (k + 1) := List.drop_eq_getElem_cons hlt
        have htk : L.take (k + 1) = L.take k ++ [L[k]'hlt] := List.take_succ_eq_append_getElem hlt
        have hbk := rblank (L[k]'hlt) wr
        have hw2 := HW.out
        rw [hdr] at hw2
        rw [← hxk] at hw2 htk hbk
        clear hxk hdr
        generalize hc : X[k]'(by omega) = c at hw2 htk hbk
        by_cases hbl : blk c = true
        · rw [hbl] at hbk
          have HBK := Lib.hid hbk
          clear hbk
          by_cases hfe : f < k
          · have q2 : decide ((f : Int) < (k : Int)) = true := by simp; omega
            have q3 : decide ((k : Int) > (f : Int)) = true := by simp; omega
            have hcn : (L.take k).drop f ≠ [] := fun e => by
              have := cur_len (f := f) hle; rw [e] at this; simp at this; omega
            have HX : Hid (wds [] L = (acc ++ [(L.take k).drop f]) ++ wds ((L.take (k + 1)).drop (k + 1)) (L.drop (k + 1))) := Lib.hid (by
              rw [hw2, show (L.take (k + 1)).drop (k + 1) = [] by simp]; simp [wds, hbl, hcn])
            have hex : X.extract f k = bstr ((L.take k).drop f) := by rw [← hL]; exact (ext_take X f k).symm
            have HEX := Lib.hid hex
            clear hw2 htk hex hcn HW hbl
            have hf1 : (f : Int) ≤ (k : Int) := by omega
            have hk1 : (k : Int) ≤ (X.size : Int) := by omega
            go_wp2_with fail
            refine HBK.out.mono ?_
            rintro e w' ⟨rfl, rfl⟩
            go_wp2_with (at_builtin; refine stop_here ?_)
            refine alloc_abs (G := fun w0 => Stop (wpList _ _ _ _ _ w0)) ?_
            intro w5 hb5 ho5 hs5
            have B5 := Lib.hid hb5; have O5 := Lib.hid (OO.out.nil_trans ho5); have R5 := Lib.hid (OW.out.kept ho5)
            clear hb5 ho5 hs5
            refine stop_go ?_
            refine wpList_append_one (w0 := w) rfl _ _ 52 rfl 9 (.string ⟨#[]⟩) 1 16 Tryz.underlying52 (by kernel_rfl) rfl (by decide) strC strC_len strC_one acc _ rfl R5.out wr.heap.size ((L.take k).drop f) rfl (fun j u hj => ?_) (by simp [maxLen]; omega) (by omega) O5.out ?_
            · rw [cell_got B5.out, ← hj, HEX.out]; simp [strC]
            intro v6 w6 hown6 ho6 _
            have W6 := Lib.hid hown6; have O6 := Lib.hid ho6
            clear hown6 ho6
            go_wp2
            go_roundw
            case rel => exact ⟨k + 1, k + 1, acc ++ [(L.take k).drop f], by omega, Nat.le_refl _, .inr rfl, by go_num, by go_num, HX.out, by simp; omega, W6.out, O6.out⟩
            case measure => first | (simp [intOf]; done) | (simp [intOf]; omega)
          · obtain rfl : f = k := by omega
            have q2 : decide ((f : Int) > (f : Int)) = false := by simp
            have q3 : decide ((f : Int) < (f : Int)) = false := by simp
            have HX : Hid (wds [] L = acc ++ wds ((L.take (f + 1)).drop (f + 1)) (L.drop (f + 1))) := Lib.hid (by
              rw [hw2, show (L.take (f + 1)).drop (f + 1) = [] by simp, show (L.take f).drop f = [] by simp]; simp [wds, hbl])
            clear hw2 htk HW hbl
            go_wp2_with fail
            refine HBK.out.mono ?_
            rintro e w' ⟨rfl, rfl⟩
            go_wp2
            go_roundw
            case rel => exact ⟨f + 1, f + 1, acc, by omega, Nat.le_refl _, .inr rfl, by go_num, by go_num, HX.out, by omega, OW.out, OO.out⟩
            case measure => first | (simp [intOf]; done) | (simp [intOf]; omega)
        · have hbl2 : blk c = false := by simpa using hbl
          rw [hbl2] at hbk
          have HBK := Lib.hid hbk
          have HX : Hid (wds [] L = acc ++ wds ((L.take (k + 1)).drop f) (L.drop (k + 1))) := Lib.hid (by
            rw [hw2, htk, List.drop_append_of_le_length (by simp; omega)]; simp [wds, hbl2])
          clear hbk hw2 htk HW hbl hbl2
          go_wp2_with fail
          refine HBK.out.mono ?_
          rintro e w' ⟨rfl, rfl⟩
          go_wp2
          go_roundw
          case rel => exact ⟨k + 1, f, acc, by omega, by omega, .inl (by omega), by go_num, rfl, HX.out, by omega, OW.out, OO.out⟩
          case measure => first | (simp [intOf]; done) | (simp [intOf]; omega)
      · obtain rfl : k = L.length := by omega
        have q1 : decide ((L.length : Int) < (X.size : Int)) = false := by simp; omega
        have hw2 := HW.out
        rw [show L.drop L.length = [] by simp] at hw2
        by_cases hfe : f < L.length
        · have q2 : decide ((f : Int) < (L.length : Int)) = true := by simp; omega
          have q3 : decide ((L.length : Int) > (f : Int)) = true := by simp; omega
          have hcn : (L.take L.length).drop f ≠ [] := fun e => by
            have := cur_len (f := f) hle; rw [e] at this; simp at this; omega
          have HX : Hid (wds [] L = (acc ++ [(L.take L.length).drop f]) ++ wds ((L.take (L.length + 1)).drop (L.length + 1)) (L.drop (L.length + 1))) := Lib.hid (by
            rw [hw2, show (L.take (L.length + 1)).drop (L.length + 1) = [] by simp, show L.drop (L.length + 1) = [] by simp]; rw [wds, if_neg hcn]; simp [wds])
          have hex : X.extract f L.length = bstr ((L.take L.length).drop f) := by rw [← hL]; exact (ext_take X f _).symm
          have HEX := Lib.hid hex
          clear hw2 hex hcn HW
          have hf1 : (f : Int) ≤ (L.length : Int) := by omega
          have hk1 : (L.length : Int) ≤ (X.size : Int) := by omega
          go_wp2_with (at_builtin; refine stop_here ?_)
          refine alloc_abs (G := fun w0 => Stop (wpList _ _ _ _ _ w0)) ?_
          intro w5 hb5 ho5 hs5
          have B5 := Lib.hid hb5; have O5 := Lib.hid (OO.out.nil_trans ho5); have R5 := Lib.hid (OW.out.kept ho5)
          clear hb5 ho5 hs5
          refine stop_go ?_
          refine wpList_append_one (w0 := w) rfl _ _ 52 rfl 9 (.string ⟨#[]⟩) 1 16 Tryz.underlying52 (by kernel_rfl) rfl (by decide) strC strC_len strC_one acc _ rfl R5.out wr.heap.size ((L.take L.length).drop f) rfl (fun j u hj => ?_) (by simp [maxLen]; omega) (by omega) O5.out ?_
          · rw [cell_got B5.out, ← hj, HEX.out]; simp [strC]
          intro v6 w6 hown6 ho6 _
          have W6 := Lib.hid hown6; have O6 := Lib.hid ho6
          clear hown6 ho6
          go_wp2
          go_roundw
          case rel => exact ⟨L.length + 1, L.length + 1, acc ++ [(L.take L.length).drop f], by omega, Nat.le_refl _, .inr rfl, by go_num, by go_num, HX.out, by simp; omega, W6.out, O6.out⟩
          case measure => first | (simp [intOf]; done) | (simp [intOf]; omega)
        · obtain rfl : f = L.length := by omega
          have q2 : decide ((L.length : Int) > (L.length : Int)) = false := by simp
          have q3 : decide ((L.length : Int) < (L.length : Int)) = false := by simp
          have HX : Hid (wds [] L = acc ++ wds ((L.take (L.length + 1)).drop (L.length + 1)) (L.drop (L.length + 1))) := Lib.hid (by
            rw [hw2, show (L.take (L.length + 1)).drop (L.length + 1) = [] by simp, show (L.take L.length).drop L.length = [] by simp, show L.drop (L.length + 1) = [] by simp])
          clear hw2 HW
          go_wp2
          go_roundw
          case rel => exact ⟨L.length + 1, L.length + 1, acc, by omega, Nat.le_refl _, .inr rfl, by go_num, by go_num, HX.out, by omega, OW.out, OO.out⟩
          case measure => first | (simp [intOf]; done) | (simp [intOf]; omega)
    · have q0 : decide ((k : Int) ≤ (X.size : Int)) = false := by simp; omega
      have hkk : k = L.length + 1 := by omega
      have hff : f = k := by omega
      subst hff
      have hfin : wds [] L = acc := by
        rw [HW.out, show (L.take f).drop f = [] by simp, show L.drop f = [] by simp; omega]; simp [wds]
      have HF := Lib.hid hfin
      clear hfin HW
      go_wp2
      go_ret
      exact ⟨_, rfl, by rw [HF.out]; exact OW.out, OO.out⟩

/-- where numbers stands -/
def NuI (w : World) (ws : List (List UInt8)) (vo vi : Value) (wr : World) : Prop :=
  ∃ (k : Nat) (ns : List Int), k ≤ ws.length ∧ vi = .int .i64 k ∧ numsO (ws.take k) = some ns ∧ Own (fun z : Int => [Value.int .i64 z]) 3 1 w.heap.size wr vo ns ∧ Only [] w wr
/-- what numbers returns -/
def NuV (r : Option (List Int)) (w0 : World) (e : Ending) (w : World) : Prop :=
  match r with
  | some ns => ∃ v, e = .returned (.tuple #[v, .bool true]) ∧ Own (fun z : Int => [Value.int .i64 z]) 3 1 w0.heap.size w v ns
  | none => e = .returned (.tuple #[.slice none 0 0, .bool false])
set_option maxRecDepth 100000 in
set_option maxHeartbeats 2000000 in
theorem rnumbers {w : World} {p : Option Addr} {n cap : Nat} {ws : List (List UInt8)} (hv : VRow strC 1 w p n cap ws) (hn : n ≤ 200000) (hl : ∀ x ∈ ws, x.length ≤ 1000000) :
    Calls Tryz.prog 52 #[.slice p n cap] w fun e w' => NuV (numsO ws) w e w' ∧ Only [] w w' := by
  have hlen := hv.len
  subst hlen
  have HV := Lib.hid hv; have HL := Lib.hid hl
  clear hv hl
  go_enter Tryz.func52, Tryz.ntmps52
  go_wp2
  go_loopw [4, 5] (fun vo vi wr => NuI w ws vo vi wr) (fun _ vi _ => ws.length - (intOf vi).toNat)
  case atStart => exact ⟨0, [], Nat.zero_le _, rfl, rfl, own_nil _ _, Only.refl _ _⟩
  case round =>
    obtain ⟨k, ns, hk, rfl, hns, hown, ho⟩ := hrel
    have OW := Lib.hid hown; have OO := Lib.hid ho; have HNS := Lib.hid hns
    have hnl : ns.length ≤ k := by have := numsO_len hns; simp at this; omega
    clear hown ho hns
    by_cases hlt : k < ws.length
    · have q0 : decide ((k : Int) < (ws.length : Int)) = true := by simp [hlt]
      obtain ⟨bk, off, hp, hb, hc⟩ := HV.out.cell k _ (List.getElem?_eq_getElem hlt)
      subst hp
      have hcell : wr.cell? ⟨bk, off + k, none⟩ = some (.string (bstr ws[k])) := by
        rw [OO.out.cell hb (by simp)]
        have := hc 0 _ rfl
        simpa [strC] using this
      have lb : bk < wr.heap.size := Nat.lt_of_lt_of_le hb OO.out.size
      have hxl := HL.out _ (List.getElem_mem hlt)
      have hst : numsO (ws.take (k + 1)) = (numO ws[k]).map (fun n => ns ++ [n]) := by
        rw [List.take_succ_eq_append_getElem hlt]; exact numsO_snoc _ _ _ HNS.out
      have hpre : ws.take (k + 1) <+: ws := List.take_prefix _ _
      have hpa := rparse (bstr ws[k]) (by rw [bstr_size]; exact hxl) wr
      rw [bstr_data] at hpa
      unfold NumP at hpa
      generalize bstr ws[k] = T at hcell hpa
      clear hc hxl
      cases hq : numO ws[k] with
      | none =>
        rw [hq] at hst hpa
        have HX : Hid (numsO ws = none) := Lib.hid (numsO_none hst hpre)
        have HPA := Lib.hid hpa
        clear hst hpa hq hpre
        have hkl : (k : Int) < (ws.length : Int) := by omega
        go_wp2_with fail
        refine HPA.out.mono ?_
        rintro e w' ⟨rfl, rfl⟩
        simp only [Option.getD_none, Option.isSome_none]
        go_wp2
        go_ret2
        rw [HX.out]
        exact ⟨rfl, OO.out⟩
      | some z =>
        rw [hq] at hst hpa
        have HX : Hid (numsO (ws.take (k + 1)) = some (ns ++ [z])) := Lib.hid hst
        have HPA := Lib.hid hpa
        clear hst hpa hq hpre
        have hkl : (k : Int) < (ws.length : Int) := by omega
        go_wp2_with fail
        refine HPA.out.mono ?_
        rintro e w' ⟨rfl, rfl⟩
        simp only [Option.getD_some, Option.isSome_some]
        obtain ⟨pp, cap', rfl, _⟩ := Own.vrow (enc := fun z : Int => [Value.int .i64 z]) (s := 1) (fun _ => rfl) OW.out
        go_wp2_with (at_builtin; refine stop_here ?_)
        refine alloc_abs (G := fun w0 => Stop (wpList _ _ _ _ _ w0)) ?_
        intro w5 hb5 ho5 hs5
        have B5 := Lib.hid hb5; have O5 := Lib.hid (OO.out.nil_trans ho5); have R5 := Lib.hid (OW.out.kept ho5)
        clear hb5 ho5 hs5
        refine stop_go ?_
        refine wpList_append_one (w0 := w) rfl _ _ 81 rfl 3 (.int .i64 0) 1 8 Tryz.underlying81 (by kernel_rfl) rfl (by decide) (fun z : Int => [Value.int .i64 z]) (fun _ => rfl) (fun x => by simp [Value.oneCell']) ns _ rfl R5.out wr.heap.size z rfl (fun j u hj => ?_) (by simp [maxLen]; omega) (by omega) O5.out ?_
        · rw [cell_got B5.out, ← hj]; simp
        intro v6 w6 hown6 ho6 _
        have W6 := Lib.hid hown6; have O6 := Lib.hid ho6
        clear hown6 ho6
        go_wp2
        go_roundw
        case rel => exact ⟨k + 1, ns ++ [z], by omega, by go_num, HX.out, W6.out, O6.out⟩
        case measure => first | (simp [intOf]; done) | (simp [intOf]; omega)
    · have q0 : decide ((k : Int) < (ws.length : Int)) = false := by simp; omega
      have HX : Hid (numsO ws = some ns) := Lib.hid (by have := HNS.out; rwa [List.take_of_length_le (by omega)] at this)
      go_wp2
      go_ret2
      rw [HX.out]
      exact ⟨⟨_, rfl, OW.out⟩, OO.out⟩
def BfI (L : List UInt8) (vi : Value) : Prop := ∃ k : Nat, k ≤ L.length ∧ vi = .int .i64 k ∧ (35 : UInt8) ∉ L.take k
set_option maxRecDepth 100000 in
set_option maxHeartbeats 2000000 in
theorem rbefore (X : ByteArray) (L : List UInt8) (hL : X.data.toList = L) (hs : X.size ≤ 100000) (w : World) :
    Calls Tryz.prog 51 #[.string X] w fun e w' => e = .returned (.string (bstr (cutH L))) ∧ w = w' := by
  have hsz : X.size = L.length := by rw [← hL, Array.length_toList]; rfl
  go_enter Tryz.func51, Tryz.ntmps51
  go_wp2
  go_loop [3] (fun vi => BfI L vi) (fun vi => L.length - (intOf vi).toNat)
  case atStart => exact ⟨0, Nat.zero_le _, rfl, by simp⟩
  case round =>
    obtain ⟨k, hk, rfl, hno⟩ := hrel
    have HNO := Lib.hid hno
    clear hno
    by_cases hlt : k < L.length
    · have q1 : decide ((k : Int) < (X.size : Int)) = true := by simp; omega
      have hki : (k : Int) < (X.size : Int) := by omega
      have hxk : X[k]'(by omega) = L[k]'hlt := by subst hL; rfl
      have htk : L.take (k + 1) = L.take k ++ [L[k]'hlt] := List.take_succ_eq_append_getElem hlt
      have hsp : L = L.take k ++ L[k]'hlt :: L.drop (k + 1) := by rw [← List.drop_eq_getElem_cons hlt, List.take_append_drop]
      rw [← hxk] at htk hsp
      have hub := u8_beq (X[k]'(by omega)) 35
      rw [show ((35 : UInt8).toNat : Int) = 35 from rfl] at hub
      clear hxk
      by_cases hc : X[k]'(by omega) = 35
      · have b1 : (((X[k]'(by omega)).toNat : Int) == 35) = true := by rw [← hub]; simp [hc]
        have HX : Hid (X.extract 0 k = bstr (cutH L)) := Lib.hid (by
          have h1 : cutH L = L.take k := by
            unfold cutH
            rw [hc] at hsp
            have := cut_at (c := 35) (a := L.take k) (L.drop (k + 1)) HNO.out
            rw [← hsp] at this
            rw [this]
          rw [h1, ← ext_take X 0 k, hL]; rfl)
        clear htk hsp hub hc
        have hk1 : (k : Int) ≤ (X.size : Int) := by omega
        go_wp2
        go_ret
        exact ⟨by rw [← HX.out]; rfl, rfl⟩
      · have b1 : (((X[k]'(by omega)).toNat : Int) == 35) = false := by rw [← hub]; simp [hc]
        have HX : Hid ((35 : UInt8) ∉ L.take (k + 1)) := Lib.hid (by
          rw [htk]; intro hm
          rcases List.mem_append.1 hm with h | h
          · exact HNO.out h
          · simp only [List.mem_singleton] at h; exact hc h.symm)
        clear htk hsp hub hc
        go_wp2
        go_round
        case rel => exact ⟨k + 1, by omega, by go_num, HX.out⟩
        case measure => first | (simp [intOf]; done) | (simp [intOf]; omega)
    · have q1 : decide ((k : Int) < (X.size : Int)) = false := by simp; omega
      have HX : Hid (X = bstr (cutH L)) := Lib.hid (by
        have h1 : cutH L = L := by
          unfold cutH
          rw [cut_no]
          have := HNO.out
          rwa [List.take_of_length_le (by omega)] at this
        rw [h1]; exact bstr_eq hL)
      go_wp2
      go_ret
      exact ⟨by rw [← HX.out]; rfl, rfl⟩
end Go.Proofs.YtnfejojakikeeaaGreatDoor
