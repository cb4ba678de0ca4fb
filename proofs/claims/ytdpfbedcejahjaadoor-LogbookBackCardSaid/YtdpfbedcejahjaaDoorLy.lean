/- Text of package logbook. Conditions: the library's variables are laid; the length. -/
import Derived.Test.YtdpfbedcejahjaaDoorLx
namespace Go.Proofs.YtdpfbedcejahjaaDoor
open Go.RowKit

/-- what Text returns -/
def txtR (l : List En) : List UInt8 × Int := if logE l = 0 then (textL l, 0) else ([], 2)
theorem line_words (e : En) : ∃ x r, wordsE e = x :: r ∧ r.length ≤ 4 := by
  unfold wordsE
  split
  · exact ⟨_, _, rfl, by simp⟩
  · split
    · exact ⟨_, _, rfl, by simp⟩
    · exact ⟨_, _, rfl, by simp⟩
theorem line_len {e : En} (h : eChk e = 0) : (lineT e).length ≤ 100 := by
  unfold eChk at h
  split at h
  · cases h
  · split at h
    · cases h
    · rename_i hr
      have hr := Classical.not_not.1 hr
      unfold rngOk at hr
      have h1 := Lib.itoa_length_le e.n (by omega) (by omega)
      have h2 := Lib.itoa_length_le e.p (by omega) (by omega)
      have h3 := Lib.itoa_length_le e.m (by omega) (by omega)
      have h4 := Lib.itoa_length_le e.c (by omega) (by omega)
      have h5 := Lib.itoa_length_le e.v (by omega) (by omega)
      unfold lineT wordsE
      split
      · split <;> simp [joinC, wSend, wRecv] <;> omega
      · split <;> simp [joinC, wStep, wMark] <;> omega
theorem text_len : ∀ {l : List En}, (∀ e ∈ l, eChk e = 0) → (textL l).length ≤ 101 * l.length
  | [], _ => by simp [textL]
  | e :: l, h => by
    have h1 := line_len (h e (by simp))
    have h2 := text_len (l := l) (fun x hx => h x (by simp [hx]))
    rw [textL_cons]
    simp only [List.length_append, List.length_cons]
    omega
def TxtR (w1 : World) (l : List En) (v : Value) (wr : World) : Prop :=
  ∃ k : Nat, k ≤ l.length ∧ v = .int .i64 k ∧ Bld w1 wr (textL (l.take k))

set_option maxRecDepth 100000 in
set_option maxHeartbeats 2000000 in
theorem Ptext {w : World} {p : Option Addr} {n cap : Nat} {l : List En} (hv : VRow enC 6 w p n cap l) (hn : n ≤ 100000) (he : Env w) :
    Calls Tryd.prog 19 #[.slice p n cap] w fun e w' => e = .returned (.tuple #[.string (bstr (txtR l).1), .int .i64 (txtR l).2]) ∧ Only [] w w' := by
  have hl := hv.len
  subst hl
  have HV := Lib.hid hv; have HE := Lib.hid he; clear hv he
  go_enter Tryd.func19, Tryd.ntmps19
  go_wp2_with fail
  refine (Pcheck HV.out hn).mono ?_
  rintro r w1 ⟨rfl, ho1⟩
  have O1 := Lib.hid ho1; clear ho1
  by_cases h0 : logE l = 0
  · have HR : Hid (txtR l = (textL l, 0)) := Lib.hid (by unfold txtR; rw [if_pos h0])
    have HC := Lib.hid (logE_zero.1 h0).2.1
    rw [h0]
    clear h0
    go_wp2
    go_loopw [12] (fun vi wr => TxtR w1 l vi wr) (fun vi _ => l.length - (intOf vi).toNat)
    case atStart => exact ⟨0, Nat.zero_le _, rfl, bld_new (alloc_new _ _) ((Only.refl [] w1).alloc _)⟩
    case round =>
      obtain ⟨k, hk, rfl, hbld⟩ := hrel
      have BB := Lib.hid hbld
      clear hbld
      by_cases hlt : k < l.length
      · have OO := Lib.hid (O1.out.nil_trans BB.out.2)
        obtain ⟨bb, off, hp, hb, hcl⟩ := HV.out.cell k l[k] (List.getElem?_eq_getElem hlt)
        subst hp
        have hle := OO.out.size
        have hb' : bb < wr.heap.size := by omega
        have hec := HC.out l[k] (List.getElem_mem hlt)
        have htk : textL (l.take (k + 1)) = textL (l.take k) ++ (lineT l[k] ++ [10]) := by rw [List.take_succ_eq_append_getElem hlt, textL_snoc]
        have htl := text_len (l := l.take k) (fun x hx => HC.out x (List.mem_of_mem_take hx))
        have hlk : (l.take k).length = k := by rw [List.length_take]; omega
        rw [hlk] at htl
        generalize l[k] = e at hcl hec htk
        have c0 : wr.cell? ⟨bb, off + k * 6, none⟩ = some (.int .i64 e.k) := by rw [OO.out.cell hb (by simp)]; exact hcl 0 _ rfl
        have c1 : wr.cell? ⟨bb, off + k * 6 + 1, none⟩ = some (.int .i64 e.n) := by rw [OO.out.cell hb (by simp)]; exact hcl 1 _ rfl
        have c2 : wr.cell? ⟨bb, off + k * 6 + 2, none⟩ = some (.int .i64 e.p) := by rw [OO.out.cell hb (by simp)]; exact hcl 2 _ rfl
        have c3 : wr.cell? ⟨bb, off + k * 6 + 3, none⟩ = some (.int .i64 e.m) := by rw [OO.out.cell hb (by simp)]; exact hcl 3 _ rfl
        have c4 : wr.cell? ⟨bb, off + k * 6 + 4, none⟩ = some (.int .i64 e.c) := by rw [OO.out.cell hb (by simp)]; exact hcl 4 _ rfl
        have c5 : wr.cell? ⟨bb, off + k * 6 + 5, none⟩ = some (.int .i64 e.v) := by rw [OO.out.cell hb (by simp)]; exact hcl 5 _ rfl
        have hwd := fun w' ht => Pwords e w' hec ht
        have hll := line_len hec
        obtain ⟨x, r, hxr, hr4⟩ := line_words e
        have hlt2 : lineT e = joinC 32 (x :: r) := by unfold lineT; rw [hxr]
        unfold WordsV at hwd
        rw [hxr] at hwd
        simp only [List.length_cons] at hwd
        have HWD := Lib.hid hwd; have HTK := Lib.hid htk; have HLT := Lib.hid hlt2
        clear hwd hcl htk hxr hec hlk hlt2
        go_wp2_with fail
        refine alloc_abs (G := fun w0 => Calls _ _ _ w0 _) ?_
        intro w2 hb2 ho2 hs2
        have B2 := Lib.hid (BB.out.kept ho2); have O2 := Lib.hid (OO.out.nil_trans ho2)
        clear hb2 ho2 hs2 BB OO c0 c1 c2 c3 c4 c5
        refine (HWD.out w2 (HE.out.kept O2.out).tab).mono ?_
        rintro e' w3 ⟨⟨g, rfl, hrow⟩, ho3⟩
        have B3 := Lib.hid (B2.out.kept ho3); have O3 := Lib.hid (O2.out.nil_trans ho3)
        have hj := join_any 32 hrow (by omega) (by rw [← HLT.out]; omega)
        rw [← HLT.out] at hj
        have HJ := Lib.hid hj
        clear hrow ho3 B2 O2 hj HWD
        go_wp2_with fail
        refine HJ.out.mono ?_
        rintro e' w4 ⟨rfl, ho4⟩
        have B4 := Lib.hid (B3.out.kept ho4); have O4 := Lib.hid (O3.out.nil_trans ho4)
        clear ho4 B3 O3 HJ
        have hw5 := bWriteString B4.out (bstr (lineT e)) (by rw [bstr_size]; omega)
        rw [bstr_data] at hw5
        have HW5 := Lib.hid hw5
        clear hw5
        obtain ⟨T, hT⟩ : ∃ T, T = bstr (lineT e) := ⟨_, rfl⟩
        rw [← hT] at HW5 ⊢
        clear hT
        go_wp2_with fail
        refine HW5.out.mono ?_
        rintro e' w5 ⟨rfl, hb5⟩
        have hw6 := bWriteByte hb5 10 (by simp only [List.length_append]; omega)
        rw [show ((10 : UInt8).toNat : Int) = 10 from rfl, List.append_assoc, ← HTK.out] at hw6
        have HW6 := Lib.hid hw6
        clear hw6 hb5 HW5 B4 O4
        go_wp2_with fail
        refine HW6.out.mono ?_
        rintro e' w6 ⟨rfl, hb6⟩
        have B6 := Lib.hid hb6
        clear hb6 HW6
        go_wp2
        go_roundw
        case rel => exact ⟨k + 1, by omega, by go_num, B6.out⟩
        case measure => simp [intOf]; omega
      · obtain rfl : k = l.length := by omega
        have hb := BB.out
        rw [List.take_of_length_le (Nat.le_refl _)] at hb
        have HS := Lib.hid (bString hb)
        clear hb BB
        go_wp2_with fail
        refine HS.out.mono ?_
        rintro e w2 ⟨rfl, ho2⟩
        go_wp2
        go_ret2
        exact ⟨by rw [HR.out]; rfl, O1.out.nil_trans ho2⟩
  · have b1 : (logE l == 0) = false := by simp [h0]
    have b2 : (logE l != 0) = true := by simp [h0]
    have HR : Hid (txtR l = ([], 2)) := Lib.hid (by unfold txtR; rw [if_neg h0])
    clear h0
    go_wp2
    go_ret2
    exact ⟨by rw [HR.out]; rfl, O1.out⟩
end Go.Proofs.YtdpfbedcejahjaaDoor
