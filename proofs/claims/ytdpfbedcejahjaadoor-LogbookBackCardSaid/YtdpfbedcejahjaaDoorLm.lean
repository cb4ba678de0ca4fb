/- Parse of package logbook. Conditions: the library's variables are laid; the length. -/
import Derived.Test.YtdpfbedcejahjaaDoorLl
import Derived.Test.YtdpfbedcejahjaaDoorLq
namespace Go.Proofs.YtdpfbedcejahjaaDoor
open Go.RowKit

def szOf : Value → Nat
  | .string s => s.size
  | _ => 0
theorem szOf_str (l : List UInt8) : szOf (.string (bstr l)) = l.length := bstr_size l
/-- what Parse returns -/
def ParsR (r : List En × Nat × Int) (e : Ending) (w : World) : Prop :=
  ∃ p cap, e = .returned (.tuple #[.slice p r.1.length cap, .int .i64 r.2.1, .int .i64 r.2.2]) ∧ VRow enC 6 w p r.1.length cap r.1
def ParRel (w : World) (s0 : List UInt8) (v0 v5 v6 : Value) (wr : World) : Prop :=
  ∃ (t : List UInt8) (acc : List En), v0 = .string (bstr t) ∧ v6 = .int .i64 ((acc.length : Int) + 1) ∧ parL s0 = addE acc (parP (pcs 10 t) (acc.length + 1)) ∧ Own enC 37 6 w.heap.size wr v5 acc ∧ t.length + acc.length ≤ s0.length ∧ Only [] w wr
theorem cut_yes {a r : List UInt8} (h : (10 : UInt8) ∉ a) (w : World) (hs : (a ++ 10 :: r).length ≤ 1000000) (he : Env w) :
    Calls Tryd.prog 27 #[.string (bstr (a ++ 10 :: r)), .string ⟨#[10]⟩] w fun e w' => e = .returned (.tuple #[.string (bstr a), .string (bstr r), .bool true]) ∧ Only [] w w' := by
  have := cut_any 10 (bstr (a ++ 10 :: r)) w (by rw [bstr_size]; exact hs) he
  rw [bstr_data, cut_at r h] at this
  exact this
theorem cut_not {a : List UInt8} (h : (10 : UInt8) ∉ a) (w : World) (hs : a.length ≤ 1000000) (he : Env w) :
    Calls Tryd.prog 27 #[.string (bstr a), .string ⟨#[10]⟩] w fun e w' => e = .returned (.tuple #[.string (bstr a), .string (bstr []), .bool false]) ∧ Only [] w w' := by
  have := cut_any 10 (bstr a) w (by rw [bstr_size]; exact hs) he
  rw [bstr_data, cut_no h] at this
  exact this

set_option maxRecDepth 100000 in
set_option maxHeartbeats 2000000 in
theorem Pparse (s0 : List UInt8) (hs : s0.length ≤ 1000000) (w : World) (he : Env w) :
    Calls Tryd.prog 13 #[.string (bstr s0)] w fun e w' => ParsR (parR s0) e w' ∧ Only [] w w' := by
  have HE := Lib.hid he; clear he
  by_cases h65 : 65536 < s0.length
  · have HR : Hid (parR s0 = ([], 0, 6)) := Lib.hid (by unfold parR; rw [if_pos h65])
    have hz := bstr_size s0
    generalize bstr s0 = S at hz ⊢
    have d1 : decide (65536 < (S.size : Int)) = true := by simp; omega
    have d2 : decide (65536 < S.size) = true := by simp; omega
    clear hz
    go_enter Tryd.func13, Tryd.ntmps13
    go_wp2
    go_ret3
    exact ⟨by rw [HR.out]; exact ⟨none, 0, rfl, vrow_nil _⟩, Only.refl _ _⟩
  · have HR : Hid (parR s0 = match parL s0 with
      | .error n => ([], n, 19)
      | .ok l => if logE l = 0 then (l, 0, 0) else ([], 0, logE l)) := Lib.hid (by unfold parR; rw [if_neg h65]; rfl)
    obtain ⟨S, hS⟩ : ∃ S, S = bstr s0 := ⟨_, rfl⟩
    have hz : S.size = s0.length := by rw [hS, bstr_size]
    rw [← hS]
    have d1 : decide (65536 < (S.size : Int)) = false := by simp; omega
    have d2 : decide (65536 < S.size) = false := by simp; omega
    have HS := Lib.hid hS
    clear hz hS
    go_enter Tryd.func13, Tryd.ntmps13
    go_wp2
    go_loopw [0, 5, 6] (fun v0 v5 v6 wr => ParRel w s0 v0 v5 v6 wr) (fun v0 _ _ _ => szOf v0)
    case atStart => exact ⟨s0, [], by rw [HS.out], rfl, by rw [addE_nil]; rfl, own_nil _ _, by simp, Only.refl _ _⟩
    case round =>
      obtain ⟨t, acc, rfl, rfl, hpar, hown, hlen, ho⟩ := hrel
      have HP := Lib.hid hpar; have RW := Lib.hid hown; have OO := Lib.hid ho
      clear hpar hown ho
      by_cases ht : t = []
      · subst ht
        have hok : parL s0 = .ok acc := by rw [HP.out, parP_end]; simp [addE]
        have HO := Lib.hid hok
        obtain ⟨p', cap', rfl, hvr⟩ := RW.out.vrow enC_len
        have H1 := Lib.hid hvr
        have hal : acc.length ≤ 100000 := by omega
        clear hvr RW HP hok
        rw [show bstr [] = ⟨#[]⟩ from rfl]
        go_wp2_with fail
        refine (Pcheck H1.out hal).mono ?_
        rintro r w2 ⟨rfl, ho2⟩
        have O2 := Lib.hid (OO.out.nil_trans ho2)
        have V2 := Lib.hid (H1.out.kept ho2)
        clear ho2
        by_cases h0 : logE acc = 0
        · have HN : Hid (parR s0 = (acc, 0, 0)) := Lib.hid (by rw [HR.out, HO.out]; simp [h0])
          rw [h0]
          clear h0
          go_wp2
          go_ret3
          exact ⟨by rw [HN.out]; exact ⟨p', cap', rfl, V2.out⟩, O2.out⟩
        · have HN : Hid (parR s0 = ([], 0, logE acc)) := Lib.hid (by rw [HR.out, HO.out]; simp [h0])
          have b1 : (logE acc == 0) = false := by simp [h0]
          have b2 : (logE acc != 0) = true := by simp [h0]
          clear h0
          go_wp2
          go_ret3
          exact ⟨by rw [HN.out]; exact ⟨none, 0, rfl, vrow_nil _⟩, O2.out⟩
      · have hH2 : (bstr t).toList.isEmpty = false := by
          rw [Lib.toList_data]
          cases t with
          | nil => exact absurd rfl ht
          | cons a b => rfl
        have hH3 : ¬ (bstr t).toList = [] := by rw [Lib.toList_data]; exact ht
        by_cases hnl : (10 : UInt8) ∈ t
        · obtain ⟨a, r, rfl, ha⟩ := cut_first t hnl
          have hcut := fun w he => cut_yes (r := r) ha w (by omega) he
          have hline := Pline (bstr a) (by rw [bstr_size]; simp only [List.length_append, List.length_cons] at hlen; omega)
          rw [bstr_data] at hline
          have hal : a.length + 1 + r.length + acc.length ≤ s0.length := by simp only [List.length_append, List.length_cons] at hlen; omega
          have hpl := HP.out
          rw [parP_line ha] at hpl
          have hmz : szOf (.string (bstr r)) < szOf (.string (bstr (a ++ 10 :: r))) := by rw [szOf_str, szOf_str]; simp; omega
          generalize bstr (a ++ 10 :: r) = T at hcut hH2 hH3 hmz ⊢
          obtain ⟨x, hx⟩ : ∃ x, x = lineE a := ⟨_, rfl⟩
          rw [← hx] at hline hpl
          have HC := Lib.hid hcut; have HL := Lib.hid hline; have HPL := Lib.hid hpl; have HM := Lib.hid hmz
          clear hcut hline hpl HP hx ht hnl ha hmz
          generalize bstr a = TA at HC HL
          obtain ⟨TR, hTR⟩ : ∃ TR, TR = bstr r := ⟨_, rfl⟩
          rw [← hTR] at HC HM
          have HTR := Lib.hid hTR
          clear hTR
          go_wp2_with fail
          refine (HC.out wr (HE.out.kept OO.out)).mono ?_
          rintro e w2 ⟨rfl, ho2⟩
          have O2 := Lib.hid (OO.out.nil_trans ho2); have R2 := Lib.hid (RW.out.kept ho2)
          clear ho2 RW OO
          go_wp2_with fail
          refine (HL.out w2 (HE.out.kept O2.out)).mono ?_
          rintro e w3 ⟨rfl, ho3⟩
          have O3 := Lib.hid (O2.out.nil_trans ho3); have R3 := Lib.hid (R2.out.kept ho3)
          clear ho3 R2 O2 HC HL hH2 hH3
          cases x with
          | none =>
            have HN : Hid (parR s0 = ([], acc.length + 1, 19)) := Lib.hid (by rw [HR.out, HPL.out]; rfl)
            unfold lineV enV en0
            simp only [Option.getD_none, Option.isSome_none]
            go_wp2
            go_ret3
            exact ⟨by rw [HN.out]; exact ⟨none, 0, by simp, vrow_nil _⟩, O3.out.alloc _⟩
          | some x =>
            have HN : Hid (parL s0 = addE (acc ++ [x]) (parP (pcs 10 r) ((acc ++ [x]).length + 1))) := Lib.hid (by rw [HPL.out]; show addE acc (addE [x] _) = _; rw [addE_addE]; simp)
            clear HPL
            unfold lineV enV
            simp only [Option.getD_some, Option.isSome_some]
            go_wp2_with (at_builtin; refine stop_here ?_)
            refine alloc_abs (G := fun w0 => Stop (wpList _ _ _ _ _ w0)) ?_
            intro w5 hb5 ho5 hs5
            have ho5' : Only [] w3 w5 := ((Only.refl [] w3).alloc _).nil_trans ho5
            have O5 := Lib.hid (O3.out.nil_trans ho5')
            have R5 := Lib.hid (R3.out.kept ho5')
            rw [show ∀ o, (w3.alloc o).heap.size = w3.heap.size + 1 from fun o => by simp] at hb5
            have B5 := Lib.hid hb5
            clear hb5 ho5 hs5 ho5'
            refine stop_go ?_
            refine wpList_append_one rfl _ _ 22 rfl 37 (.agg #[.int .i64 0, .int .i64 0, .int .i64 0, .int .i64 0, .int .i64 0, .int .i64 0]) 6 48 Tryd.underlying22 (by kernel_rfl) rfl (by decide) enC enC_len enC_one acc _ rfl R5.out _ x rfl (fun j u hj => ?_) (by simp [maxLen]; omega) (by omega) O5.out ?_
            · rw [cell_got B5.out]; simpa [enC] using hj
            intro v' w6 hown6 ho6 _
            have R6 := Lib.hid hown6; have O6 := Lib.hid ho6
            clear hown6 ho6
            go_wp2
            go_roundw
            case rel => exact ⟨r, acc ++ [x], by rw [HTR.out], by simp, HN.out, R6.out, by simp; omega, O6.out⟩
            case measure => exact HM.out
        · have hcut := fun w he => cut_not hnl w (by omega) he
          have hline := Pline (bstr t) (by rw [bstr_size]; omega)
          have hpl := HP.out
          rw [parP_last hnl ht] at hpl
          have HN : Hid (parR s0 = ([], acc.length + 1, 19)) := Lib.hid (by rw [HR.out, hpl]; rfl)
          generalize bstr t = T at hcut hline hH2 hH3 ⊢
          obtain ⟨x, hx⟩ : ∃ x, x = lineE T.data.toList := ⟨_, rfl⟩
          rw [← hx] at hline
          have HC := Lib.hid hcut; have HL := Lib.hid hline
          clear hcut hline hpl HP hx ht hnl
          go_wp2_with fail
          refine (HC.out wr (HE.out.kept OO.out)).mono ?_
          rintro e w2 ⟨rfl, ho2⟩
          have O2 := Lib.hid (OO.out.nil_trans ho2)
          clear ho2 RW OO
          go_wp2_with fail
          refine (HL.out w2 (HE.out.kept O2.out)).mono ?_
          rintro e w3 ⟨rfl, ho3⟩
          have O3 := Lib.hid (O2.out.nil_trans ho3)
          clear ho3 O2 HC HL hH2 hH3
          obtain ⟨xe, hxe⟩ : ∃ xe, xe = x.getD en0 := ⟨_, rfl⟩
          obtain ⟨xb, hxb⟩ : ∃ xb, xb = x.isSome := ⟨_, rfl⟩
          unfold lineV enV
          rw [← hxe, ← hxb]
          clear hxe hxb
          cases xb
          all_goals
            go_wp2
            go_ret3
            exact ⟨by rw [HN.out]; exact ⟨none, 0, by simp, vrow_nil _⟩, O3.out.alloc _⟩
end Go.Proofs.YtdpfbedcejahjaaDoor
