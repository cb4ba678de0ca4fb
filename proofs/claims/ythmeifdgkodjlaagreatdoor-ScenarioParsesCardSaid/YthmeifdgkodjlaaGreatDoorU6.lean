/- timesyncref56: seed, number, kind and line write numbers and lines. Condition: the lengths. -/
import Derived.Test.YthmeifdgkodjlaaGreatDoorG3
import Derived.Test.YthmeifdgkodjlaaGreatDoorU0
import Derived.Laws.AppendOwnNone
import Derived.Laws.BytesArg
namespace Go.Proofs.YthmeifdgkodjlaaGreatDoor
open Go.RowKit

/-- a byte in memory -/
def byC (b : UInt8) : List Value := [.int .u8 (b.toNat : Int)]
theorem byC_len (s : UInt8) : (byC s).length = 1 := rfl
theorem byC_one (s : UInt8) : ∀ u ∈ byC s, u.oneCell' = true := by simp [byC, Value.oneCell']
theorem conv_row {w : World} {g cap : Nat} {l : List UInt8} (h : RowAt byC 5 1 w g cap l) (n : Nat) (hn : n = l.length) : (convert 63 9 (.slice (some ⟨g, 0, none⟩) n cap)).run Tryz.prog w = .ok (.string (bstr l)) w := by
  subst hn
  have hs : strOfNums (l.map fun b => (b.toNat : Int)) = bstr l := by
    apply bstr_eq
    rw [strOfNums_data, List.map_map]
    conv => rhs; rw [← List.map_id l]
    apply List.map_congr_left
    intro b _
    simp
  rw [run_convert_bytes_arg (P := Tryz.prog) w 63 5 Tryz.underlying63 Tryz.underlying5 g 0 l.length cap (l.map fun b => (b.toNat : Int)) (by simp) (fun i hi => ?_) 9 Tryz.underlying9, hs]
  have := h.cell byC_len (i := i) (j := 0) (List.getElem?_eq_getElem hi) (by decide)
  rw [Nat.mul_one, Nat.add_zero] at this
  rw [Nat.zero_add, this]
  simp [byC, List.getD_eq_getElem?_getD, hi]
/-- bytes that the call owns: nil, or a row that is not empty -/
def Bts (B : Nat) (w : World) (v : Value) (l : List UInt8) : Prop := (v = .slice none 0 0 ∧ l = []) ∨ ∃ g cap, v = .slice (some ⟨g, 0, none⟩) l.length cap ∧ B ≤ g ∧ l ≠ [] ∧ RowAt byC 5 1 w g cap l
theorem Bts.kept {B : Nat} {w w' : World} {v : Value} {l : List UInt8} (h : Bts B w v l) (ho : Only [] w w') : Bts B w' v l := by
  rcases h with h | ⟨g, cap, h1, h2, h3, h4⟩
  · exact .inl h
  · exact .inr ⟨g, cap, h1, h2, h3, h4.kept ho (by simp)⟩
/-- bytes are appended to one byte -/
theorem wpList_prepend {w0 w : World} {ops : Array Oper} {rest : List Oper} {o : Oper} {a : Act} {Q : Exit → Act → World → Prop} (hgd : o.guard = none) (sO xO : Operand)
    (ho : o.op = .call { callee := .builtin .append, args := #[sO, xO], argTypes := #[63, 63] })
    (g : Nat) (x : UInt8) (hg : w0.heap.size ≤ g) (hs : a.eval sO = .slice (some ⟨g, 0, none⟩) 1 1) (hr : RowAt byC 5 1 w g 1 [x])
    (v : Value) (l : List UInt8) (hx : a.eval xO = v) (hown : Bts w0.heap.size w v l) (hl : l.length ≤ 100) (hb : Only [] w0 w)
    (hK : ∀ g' cap' w', w0.heap.size ≤ g' → RowAt byC 5 1 w' g' cap' (x :: l) → Only [] w0 w' → wpList Tryz.prog ops Q rest (a.put o.dst (.slice (some ⟨g', 0, none⟩) (l.length + 1) cap')) w') : wpList Tryz.prog ops Q (o :: rest) a w := by
  have hi : (Tryz.prog.info? 5).map (fun i => (i.zero, i.size, i.bytes)) = some (some (.int .u8 0), 1, 1) := by kernel_rfl
  cases hi' : Tryz.prog.info? 5 with
  | none => rw [hi'] at hi; simp at hi
  | some i =>
    rw [hi'] at hi
    simp only [Option.map_some, Option.some.injEq, Prod.mk.injEq] at hi
    obtain ⟨z1, z2, z3⟩ := hi
    have hown0 := hr.owns byC_len (Nat.zero_le g)
    rcases hown with ⟨rfl, rfl⟩ | ⟨g1, cap, rfl, h2, hne, h3⟩
    · exact wpList_append_own_none hgd sO xO 63 ho 0 5 i 1 Tryz.underlying63 hi' _ 1 _ hs hown0 hx (hK g 1 w hg hr hb)
    · refine wpList_append_row hgd sO xO 63 ho 5 i (.int .u8 0) 1 1 Tryz.underlying63 hi' z1 z2 z3 rfl (by decide) _ 1 _ hs hown0 ⟨g1, 0, none⟩ l.length cap (l.flatMap byC) hx (flat_length byC 1 byC_len l) (fun j u hj => ?_) (fun u hu => ?_) (by unfold maxLen; omega) (by omega) (by cases l with
        | nil => exact absurd rfl hne
        | cons _ _ => simp) ?_
      · have hjl : j < l.length := by
          have := (List.getElem?_eq_some_iff.1 hj).1
          rwa [flat_length byC 1 byC_len, Nat.mul_one] at this
        rw [addr_add]
        have := h3.cell byC_len (i := j) (j := 0) (List.getElem?_eq_getElem hjl) (by decide)
        rw [Nat.mul_one, Nat.add_zero] at this
        rw [Nat.zero_add, this]
        rw [show l.flatMap byC = l.map (fun b => Value.int .u8 (b.toNat : Int)) from (List.map_eq_flatMap).symm] at hj
        simpa [byC, List.getElem?_map, hjl] using hj
      · rw [List.mem_flatMap] at hu
        obtain ⟨b, _, hb⟩ := hu
        exact byC_one b u hb
      · intro g' cap' w' hown' ho' hg'
        have hfl : [x].flatMap byC ++ l.flatMap byC = (x :: l).flatMap byC := by simp
        rw [hfl] at hown'
        have hge : ∀ k, (Value.slice (some ⟨g, 0, none⟩) 1 1).ownBlock = some k → w0.heap.size ≤ k := by
          intro k hk
          simp only [Value.ownBlock, Option.some.injEq] at hk; omega
        have hlen : 1 + l.length = l.length + 1 := Nat.add_comm _ _
        rw [hlen] at hown' ⊢
        refine hK _ _ _ ?_ (RowAt.of_owns hown' (by simp)) (hb.trans ho' (fun y hy => .inr (hge y (by simpa using hy))))
        rcases hg' with h | rfl
        · exact hge _ h
        · exact hb.size
theorem one_row {w w5 : World} {x : UInt8} {z : Int} (hz : z = (x.toNat : Int)) (hb : w5.heap[w.heap.size]? = some (.cells #[.int .u8 z] 5 (0, 0))) : RowAt byC 5 1 w5 w.heap.size 1 [x] := by
  subst hz
  exact ⟨_, hb, by simp, Nat.le_refl _, by unfold maxLen; omega, by simp [byC]⟩
/-- the last digit -/
def dgt (m : Nat) : UInt8 := UInt8.ofNat (48 + m % 10)
theorem dgt_nat (m : Nat) : (dgt m).toNat = 48 + m % 10 := digit_ofNat (m % 10) (by omega)
theorem dgt_int (m : Nat) : 48 + (m : Int) % 10 = ((dgt m).toNat : Int) := by rw [dgt_nat]; omega
theorem dgt_small {m : Nat} (h : m < 10) : 48 + (m : Int) = ((dgt m).toNat : Int) := by rw [dgt_nat]; omega
theorem dec_more {m : Nat} (h : 9 < m) : Lib.decDigits m = Lib.decDigits (m / 10) ++ [dgt m] := by
  rw [Lib.decDigits, dif_neg (by omega)]; rfl
theorem dec_last {m : Nat} (h : m < 10) : Lib.decDigits m = [dgt m] := by
  rw [Lib.decDigits, dif_pos h]; unfold dgt; rw [Nat.mod_eq_of_lt h]
def SdR (N : Nat) (w : World) (v0 v3 : Value) (wr : World) : Prop :=
  ∃ (m : Nat) (l : List UInt8), v0 = .int .u64 m ∧ Lib.decDigits N = Lib.decDigits m ++ l ∧ m ≤ N ∧ Bts w.heap.size wr v3 l ∧ Only [] w wr
set_option maxRecDepth 100000 in
set_option maxHeartbeats 1000000 in
theorem rSeed (N : Nat) (hN : N ≤ 18446744073709551615) (w : World) :
    Calls Tryz.prog 60 #[.int .u64 N] w fun e w' => e = .returned (.string (bstr (Lib.decDigits N))) ∧ Only [] w w' := by
  have hlen := dec_len_le 20 N (by decide) (by omega)
  go_enter Tryz.func60, Tryz.ntmps60
  go_wp2
  go_loopw [0, 3] (fun v0 v3 wr => SdR N w v0 v3 wr) (fun v0 _ _ => (intOf v0).toNat)
  case atStart => exact ⟨N, [], rfl, by simp, Nat.le_refl _, .inl ⟨rfl, rfl⟩, Only.refl _ _⟩
  case round =>
    obtain ⟨m, l, rfl, hd, hm, hbt, ho⟩ := hrel
    have HD := Lib.hid hd; have OO := Lib.hid ho; have BT := Lib.hid hbt
    have hll : l.length ≤ 100 := by have := congrArg List.length hd; simp only [List.length_append] at this; omega
    clear hd ho hbt hlen
    by_cases h9 : 9 < m
    · have q1 : decide ((m : Int) > 9) = true := by simp; omega
      have q2 : decide (9 < (m : Int)) = true := by simp; omega
      have q3 : decide (9 < m) = true := by simp; omega
      have HN : Hid (Lib.decDigits N = Lib.decDigits (m / 10) ++ (dgt m :: l)) := Lib.hid (by rw [HD.out, dec_more h9]; simp)
      have HZ := Lib.hid (dgt_int m)
      go_wp2_with (at_builtin; refine stop_here ?_)
      refine alloc_abs (G := fun w0 => Stop (wpList _ _ _ _ _ w0)) ?_
      intro w5 hb5 ho5 hs5
      have O5 := Lib.hid (OO.out.nil_trans ho5); have R5 := Lib.hid (one_row HZ.out hb5); have BT5 := Lib.hid (BT.out.kept ho5)
      clear hb5 ho5 hs5
      refine stop_go ?_
      refine wpList_prepend rfl _ _ rfl wr.heap.size (dgt m) OO.out.size rfl R5.out _ l rfl BT5.out hll O5.out ?_
      intro g' cap' w6 hg' hr' ho6
      have R6 := Lib.hid hr'; have O6 := Lib.hid ho6; have HG := Lib.hid hg'
      clear hr' ho6 hg'
      go_wp2
      go_roundw
      case rel => exact ⟨m / 10, dgt m :: l, by first | rfl | (congr 1; omega), HN.out, by omega, .inr ⟨g', cap', rfl, HG.out, by simp, R6.out⟩, O6.out⟩
      case measure => simp [intOf]; omega
    · have q1 : decide ((m : Int) > 9) = false := by simp; omega
      have q2 : decide (9 < (m : Int)) = false := by simp; omega
      have q3 : decide (9 < m) = false := by simp; omega
      have HN : Hid (Lib.decDigits N = dgt m :: l) := Lib.hid (by rw [HD.out, dec_last (by omega)]; rfl)
      have HZ := Lib.hid (dgt_small (show m < 10 by omega))
      go_wp2_with (at_builtin; refine stop_here ?_)
      refine alloc_abs (G := fun w0 => Stop (wpList _ _ _ _ _ w0)) ?_
      intro w5 hb5 ho5 hs5
      have O5 := Lib.hid (OO.out.nil_trans ho5); have R5 := Lib.hid (one_row HZ.out hb5); have BT5 := Lib.hid (BT.out.kept ho5)
      clear hb5 ho5 hs5
      refine stop_go ?_
      refine wpList_prepend rfl _ _ rfl wr.heap.size (dgt m) OO.out.size rfl R5.out _ l rfl BT5.out hll O5.out ?_
      intro g' cap' w6 hg' hr' ho6
      have hcv := conv_row hr' (l.length + 1) (by simp)
      rw [← HN.out] at hcv
      have O6 := Lib.hid ho6
      clear hr' ho6 hg'
      go_wp2
      go_ret
      exact ⟨rfl, O6.out⟩
set_option maxRecDepth 100000 in
set_option maxHeartbeats 1000000 in
theorem rNumber (n : Int) (hn : i64 n) (w : World) :
    Calls Tryz.prog 63 #[.int .i64 n] w fun e w' => e = .returned (.string (bstr (it n))) ∧ Only [] w w' := by
  obtain ⟨hn0, hn1⟩ := hn
  by_cases h : n < 0
  · obtain ⟨U, hU⟩ : ∃ U : Nat, n = -(U : Int) := ⟨n.natAbs, by omega⟩
    subst hU
    have HR := Lib.hid (rSeed U (by omega))
    have hlen := dec_len_le 20 U (by decide) (by omega)
    have he : bstr (it (-(U : Int))) = ⟨#[45]⟩ ++ bstr (Lib.decDigits U) := by
      unfold it
      rw [Lib.itoa_neg U (by omega)]
      apply ByteArray.ext; simp [bstr]
    have HE := Lib.hid he
    have d1 : decide (-(U : Int) < 0) = true := by simp; omega
    have hneg : -(-(U : Int) + 1) + 1 = (U : Int) := by omega
    have s1 : (bstr (Lib.decDigits U)).size ≤ 21 := by rw [bstr_size]; omega
    generalize bstr (Lib.decDigits U) = X at HR s1 HE
    have e2 : ¬ 9223372036854775807 < 1 + X.size := by omega
    clear he
    go_enter Tryz.func63, Tryz.ntmps63
    go_wp2_with fail
    refine (HR.out w).mono ?_
    rintro e w1 ⟨rfl, ho1⟩
    go_wp2
    go_ret
    exact ⟨by rw [HE.out]; rfl, ho1⟩
  · obtain ⟨U, hU⟩ : ∃ U : Nat, n = (U : Int) := ⟨n.toNat, by omega⟩
    subst hU
    have HR := Lib.hid (rSeed U (by omega))
    have HE : Hid (bstr (it (U : Int)) = bstr (Lib.decDigits U)) := Lib.hid (by unfold it; rw [Lib.itoa_nonneg])
    have d1 : decide ((U : Int) < 0) = false := by simp
    generalize bstr (Lib.decDigits U) = X at HR HE
    go_enter Tryz.func63, Tryz.ntmps63
    go_wp2_with fail
    refine (HR.out w).mono ?_
    rintro e w1 ⟨rfl, ho1⟩
    go_wp2
    go_ret
    exact ⟨by rw [HE.out]; rfl, ho1⟩
set_option maxRecDepth 100000 in
set_option maxHeartbeats 1000000 in
theorem rKind (k : Nat) (hk0 : 1 ≤ k) (hk : k ≤ 9) (w : World) :
    Calls Tryz.prog 64 #[.int .i64 k] w fun e w' => e = .returned (.string (bstr (kinds9.getD (k - 1) []))) ∧ Only [] w w' := by
  generalize hX : bstr (kinds9.getD (k - 1) []) = X
  go_enter Tryz.func64, Tryz.ntmps64
  go_upto_region 2 with (fail)
  refine alloc_abs (G := fun w0 => Code.wp _ _ _ _ w0) ?_
  intro w1 hb1 ho1 hs1
  have O1 := Lib.hid ho1
  have hc : w1.cell? ⟨w.heap.size, k, none⟩ = some (.string X) := by
    rw [cell_got hb1, ← hX]
    match k, hk0, hk with
    | 1, _, _ | 2, _, _ | 3, _, _ | 4, _, _ | 5, _, _ | 6, _, _ | 7, _, _ | 8, _, _ | 9, _, _ => rfl
  have l0 := got_lt hb1
  clear hb1 ho1 hs1
  have d1 : decide ((k : Int) < 1) = false := by simp; omega
  have d2 : decide ((k : Int) > 9) = false := by simp; omega
  have d3 : decide (9 < (k : Int)) = false := by simp; omega
  have d4 : decide (9 < k) = false := by simp; omega
  clear hX
  go_wp2
  go_ret
  exact ⟨rfl, O1.out⟩
theorem app_data (X Y : ByteArray) : (X ++ Y).data.toList = X.data.toList ++ Y.data.toList := by simp [ByteArray.data_append]
def LnR (W : ByteArray) (ns : List Int) (w : World) (v0 v5 : Value) (wr : World) : Prop :=
  ∃ (k : Nat) (X : ByteArray), k ≤ ns.length ∧ v5 = .int .i64 k ∧ v0 = .string X ∧ X.data.toList = W.data.toList ++ numT (ns.take k) ∧ Only [] w wr
set_option maxRecDepth 100000 in
set_option maxHeartbeats 1000000 in
theorem rLine {w : World} (W : ByteArray) {p : Option Addr} {n cap : Nat} {ns : List Int} (hv : VRow itC 1 w p n cap ns) (hns : ∀ n ∈ ns, i64 n) (hW : W.size ≤ 1000000) (hn : n ≤ 1000) :
    Calls Tryz.prog 59 #[.string W, .slice p n cap] w fun e w' => e = .returned (.string (bstr (W.data.toList ++ numT ns ++ [10]))) ∧ Only [] w w' := by
  have hl := hv.len
  subst hl
  have HV := Lib.hid hv; have HNS := Lib.hid hns; clear hv hns
  have hwl : W.data.toList.length = W.size := by rw [Array.length_toList]; rfl
  go_enter Tryz.func59, Tryz.ntmps59
  go_wp2
  go_loopw [0, 5] (fun v0 v5 wr => LnR W ns w v0 v5 wr) (fun _ v5 _ => ns.length - (intOf v5).toNat)
  case atStart => exact ⟨0, W, Nat.zero_le _, rfl, rfl, by simp [numT], Only.refl _ _⟩
  case round =>
    obtain ⟨k, X, hk, rfl, rfl, hX, ho⟩ := hrel
    have HX := Lib.hid hX; have OO := Lib.hid ho
    have hxs : X.size ≤ 1100000 := by
      have h1 := congrArg List.length hX
      have h2 := numT_len (ns := ns.take k) (fun n hn => HNS.out n (List.mem_of_mem_take hn))
      rw [List.length_append, Array.length_toList, hwl] at h1
      have h3 : X.data.size = X.size := rfl
      have h4 := List.length_take_le k ns
      omega
    clear hX ho
    by_cases hlt : k < ns.length
    · obtain ⟨bk, off, hp, c0, lb⟩ := HV.out.it OO.out hlt
      subst hp
      have hgk := getD_some 0 hlt
      have hi := HNS.out _ (List.mem_of_getElem? hgk)
      have HT : Hid (numT (ns.take (k + 1)) = numT (ns.take k) ++ (32 :: it (ns.getD k 0))) := Lib.hid (by rw [List.take_add_one, hgk]; exact numT_snoc _ _)
      generalize ns.getD k 0 = y at c0 hi HT
      have HR := Lib.hid (rNumber y hi)
      have s1 : (bstr (it y)).size ≤ 29 := by rw [bstr_size]; exact it_len hi
      have HB : Hid ((bstr (it y)).data.toList = it y) := Lib.hid (bstr_data _)
      generalize bstr (it y) = Y at HR s1 HB
      clear hgk hi
      have e1 : ¬ 9223372036854775807 < X.size + 1 := by omega
      have e2 : ¬ 9223372036854775807 < X.size + 1 + Y.size := by omega
      go_wp2_with fail
      refine (HR.out wr).mono ?_
      rintro e w1 ⟨rfl, ho1⟩
      have O1 := Lib.hid (OO.out.nil_trans ho1)
      clear ho1 c0 lb
      go_wp2
      go_roundw
      case rel => exact ⟨k + 1, _, by omega, by go_num, rfl, by rw [app_data, app_data, HX.out, HT.out, HB.out]; simp, O1.out⟩
      case measure => first | (simp [intOf]; done) | (simp [intOf]; omega)
    · obtain rfl : k = ns.length := by omega
      have HQ : Hid (X ++ ⟨#[10]⟩ = bstr (W.data.toList ++ numT ns ++ [10])) := Lib.hid (by
        apply bstr_eq
        have := HX.out
        rw [List.take_of_length_le (Nat.le_refl _)] at this
        rw [app_data, this])
      have e1 : ¬ 9223372036854775807 < X.size + 1 := by omega
      go_wp2
      go_ret
      exact ⟨by rw [← HQ.out]; rfl, OO.out⟩
end Go.Proofs.YthmeifdgkodjlaaGreatDoor
