/- Text of the reference of layer 6. Condition: the length. -/
import Derived.Test.YtnfejojakikeeaaGreatDoorQ9
import Derived.Test.YtnfejojakikeeaaGreatDoorQ6
namespace Go.Proofs.YtnfejojakikeeaaGreatDoor
open Go.RowKit

def TxQ (w2 : World) (b x : Int) (es : List Le) (vs vi : Value) (wr : World) : Prop :=
  ∃ k : Nat, k ≤ es.length ∧ vi = .int .i64 k ∧ vs = .string (bstr (hdT b x ++ bodT (es.take k))) ∧ Only [] w2 wr
/-- a number in decimal, as a text whose size is known -/
theorem rnumX (n : Int) (w : World) (h0 : -9000000000 ≤ n) (h1 : n ≤ 9000000000) :
    ∃ T : ByteArray, Hid (∀ w', Only [] w w' → Calls Tryz.prog 39 #[.int .i64 n] w' fun e w'' => e = .returned (.string T) ∧ Only [] w' w'') ∧ Hid (T = bstr (Lib.itoa n)) ∧ T.size ≤ 30 :=
  ⟨bstr (Lib.itoa n), Lib.hid (fun w' _ => rnum n (by omega) (by omega) w'), Lib.hid rfl, by rw [bstr_size]; have := Lib.itoa_length_le n (by omega) (by omega); omega⟩
set_option maxRecDepth 100000 in
set_option maxHeartbeats 4000000 in
theorem rText {w : World} {p : Option Addr} {n cap : Nat} {es : List Le} (b x : Int) (hv : VRow leC 2 w p n cap es) (hn : n ≤ 100000) :
    Calls Tryz.prog 17 #[.agg #[.int .i64 b, .int .i64 x, .slice p n cap]] w fun e w' => e = .returned (.string (bstr (txtK b x es))) ∧ Only [] w w' := by
  have hl := hv.len
  subst hl
  have HV := Lib.hid hv; clear hv
  go_enter Tryz.func17, Tryz.ntmps17
  go_wp2_with fail
  refine alloc_abs (G := fun w0 => Calls _ _ _ w0 _) ?_
  intro w1 hb1 ho1 hs1
  have B1 := Lib.hid hb1; have O1 := Lib.hid ho1
  clear hb1 ho1 hs1
  refine (rCheck b x (HV.out.kept O1.out) hn).mono ?_
  rintro e w2 ⟨rfl, ho2⟩
  have B2 := Lib.hid (ho2.got B1.out (by simp)); have O2 := Lib.hid (O1.out.nil_trans ho2)
  clear ho2 B1 O1
  have g0 := cell_got B2.out 0; have g1 := cell_got B2.out 1; have g2 := cell_got B2.out 2
  have l0 := got_lt B2.out
  by_cases hc : chkT b x es = 0
  · obtain ⟨h64, cb, cx, cr, _⟩ := chkT_ok hc
    have HCR := Lib.hid cr
    have hbb := inM_t.1 cb; have hxb := inM_t.1 cx
    have hhl := hdT_len cb cx
    have hbl : ∀ k, (bodT (es.take k)).length ≤ 3200 := fun k => by
      have h1 := bodT_len (es := es.take k) (fun e he => cr e (List.mem_of_mem_take he))
      have h2 : (es.take k).length ≤ 64 := by simp; omega
      omega
    have HBL := Lib.hid hbl
    have HR : Hid (txtK b x es = txT b x es) := Lib.hid (by unfold txtK; rw [if_pos hc])
    rw [hc]
    clear hc cb cx cr hbl
    obtain ⟨TX, HTX, EX, sx⟩ := rnumX x w2 (by omega) (by omega)
    obtain ⟨TB, HTB, EB, sb⟩ := rnumX b w2 (by omega) (by omega)
    have HHD : Hid (({ data := #[35, 64, 32] } : ByteArray) ++ TX ++ { data := #[10, 35, 61, 32] } ++ TB ++ { data := #[10] } = bstr (hdT b x)) := Lib.hid (by
      rw [EX.out, EB.out, show ({ data := #[35, 64, 32] } : ByteArray) = bstr [35, 64, 32] from rfl, show ({ data := #[10, 35, 61, 32] } : ByteArray) = bstr [10, 35, 61, 32] from rfl, show ({ data := #[10] } : ByteArray) = bstr [10] from rfl]
      simp only [bstr_append]
      congr 1
      simp [hdT])
    have e1 : ¬ 9223372036854775807 < 3 + TX.size := by omega
    have e2 : ¬ 9223372036854775807 < 3 + TX.size + 4 := by omega
    have e3 : ¬ 9223372036854775807 < 3 + TX.size + 4 + TB.size := by omega
    have e4 : ¬ 9223372036854775807 < 3 + TX.size + 4 + TB.size + 1 := by omega
    clear hbb hxb
    go_wp2_with fail
    refine wp_region_grown [0, 1, 2, 3, 4, 5, 6, 7, 8, 9, 10] [] (by kernel_rfl) (by kernel_rfl) ?_
    simp only [pick, List.map_cons, List.map_nil, List.getD_cons_succ, List.getD_cons_zero]
    iterate 2 (refine wpQuiet_step (fun K hK => ?_); go_simp; refine hK _ ?_; clear hK K)
    refine wpQuiet_enter rfl 39 #[.int .i64 x] (fun _ => by kernel_rfl) (.string TX) (grown_only2 fun w' ho' => HTX.out w' ho') ?_
    iterate 4 (refine wpQuiet_step (fun K hK => ?_); go_simp; refine hK _ ?_; clear hK K)
    refine wpQuiet_enter rfl 39 #[.int .i64 b] (fun _ => by kernel_rfl) (.string TB) (grown_only2 fun w' ho' => HTB.out w' ho') ?_
    iterate 3 (refine wpQuiet_step (fun K hK => ?_); go_simp; refine hK _ ?_; clear hK K)
    refine wpQuiet_nil ?_
    intro w3 hw3
    have ho3 := only_of_plus hw3
    have O3 := Lib.hid (O2.out.nil_trans ho3); have B3 := Lib.hid (ho3.got B2.out (by simp))
    clear hw3 ho3 g0 g1 g2 l0 e1 e2 e3 e4
    have hhd := HHD.out
    go_wp2
    rw [hhd]
    clear hhd
    go_loopw [3, 4] (fun vs vi wr => TxQ w3 b x es vs vi wr) (fun _ vi _ => es.length - (intOf vi).toNat)
    case atStart => exact ⟨0, Nat.zero_le _, rfl, by simp [bodT], Only.refl _ _⟩
    case round =>
      obtain ⟨k, hk, rfl, rfl, ho⟩ := hrel
      have OO := Lib.hid ho; have OA := Lib.hid (O3.out.nil_trans ho); have B4 := Lib.hid (ho.got B3.out (by simp))
      clear ho
      have g2 := cell_got B4.out 2
      have l0 := got_lt B4.out
      by_cases hlt : k < es.length
      · have q1 : decide ((k : Int) < (es.length : Int)) = true := by simp [hlt]
        obtain ⟨bk, off, hp, c0, c1, lb⟩ := HV.out.pt OA.out hlt
        subst hp
        have hgk : es[k]? = some (es.getD k ⟨0, 0⟩) := by simp [List.getD_eq_getElem?_getD, hlt]
        obtain ⟨io, ia⟩ := HCR.out _ (List.mem_of_getElem? hgk)
        have iab := inM_t.1 ia; have iob := inM_t.1 io
        have htk : bodT (es.take (k + 1)) = bodT (es.take k) ++ lnE (es.getD k ⟨0, 0⟩) := by rw [List.take_add_one, hgk]; simp [bodT]
        generalize es.getD k ⟨0, 0⟩ = e at c0 c1 htk iab iob
        obtain ⟨TA, HTA, EA, sa⟩ := rnumX e.a wr (by omega) (by omega)
        obtain ⟨TO, HTO, EO, so⟩ := rnumX e.o wr (by omega) (by omega)
        have hsl : (bstr (hdT b x ++ bodT (es.take k))).size ≤ 3300 := by rw [bstr_size, List.length_append]; have := HBL.out k; omega
        have HCC : Hid (bstr (hdT b x ++ bodT (es.take k)) ++ TA ++ { data := #[32] } ++ TO ++ { data := #[10] } = bstr (hdT b x ++ bodT (es.take (k + 1)))) := Lib.hid (by
          rw [EA.out, EO.out, show ({ data := #[32] } : ByteArray) = bstr [32] from rfl, show ({ data := #[10] } : ByteArray) = bstr [10] from rfl]
          simp only [bstr_append]
          congr 1
          rw [htk]; simp [lnE])
        obtain ⟨Y, hY⟩ : ∃ Y, Y = bstr (hdT b x ++ bodT (es.take k)) := ⟨_, rfl⟩
        rw [← hY] at hsl HCC ⊢
        have e1 : ¬ 9223372036854775807 < Y.size + TA.size := by omega
        have e2 : ¬ 9223372036854775807 < Y.size + TA.size + 1 := by omega
        have e3 : ¬ 9223372036854775807 < Y.size + TA.size + 1 + TO.size := by omega
        have e4 : ¬ 9223372036854775807 < Y.size + TA.size + 1 + TO.size + 1 := by omega
        have hkl : (k : Int) < (es.length : Int) := by omega
        clear hgk io ia iab iob htk hY
        go_wp2_with fail
        refine wp_region_grown [0, 1, 2, 3, 4, 5, 6, 7, 8, 9, 10, 11, 12, 13, 14, 15, 16, 17, 18, 19] [] (by kernel_rfl) (by kernel_rfl) ?_
        simp only [pick, List.map_cons, List.map_nil, List.getD_cons_succ, List.getD_cons_zero]
        iterate 7 (refine wpQuiet_step (fun K hK => ?_); go_simp; refine hK _ ?_; clear hK K)
        refine wpQuiet_enter rfl 39 #[.int .i64 e.a] (fun _ => by kernel_rfl) (.string TA) (grown_only2 fun w' ho' => HTA.out w' ho') ?_
        iterate 8 (refine wpQuiet_step (fun K hK => ?_); go_simp; refine hK _ ?_; clear hK K)
        refine wpQuiet_enter rfl 39 #[.int .i64 e.o] (fun _ => by kernel_rfl) (.string TO) (grown_only2 fun w' ho' => HTO.out w' ho') ?_
        iterate 3 (refine wpQuiet_step (fun K hK => ?_); go_simp; refine hK _ ?_; clear hK K)
        refine wpQuiet_nil ?_
        intro w5 hw5
        have ho5 := only_of_plus hw5
        have O5 := Lib.hid (OO.out.nil_trans ho5)
        clear hw5 ho5
        go_wp2
        go_roundw
        case rel => exact ⟨k + 1, by omega, by go_num, by rw [HCC.out], O5.out⟩
        case measure => first | (simp [intOf]; done) | (simp [intOf]; omega)
      · have q1 : decide ((k : Int) < (es.length : Int)) = false := by simp; omega
        have HX : Hid (hdT b x ++ bodT (es.take k) = txT b x es) := Lib.hid (by rw [List.take_of_length_le (by omega)]; rfl)
        go_wp2
        go_ret
        exact ⟨by rw [HR.out, ← HX.out]; rfl, OA.out⟩
  · have HX : Hid (bstr (txtK b x es) = ⟨#[]⟩) := Lib.hid (by unfold txtK; rw [if_neg hc]; rfl)
    have b1 : (chkT b x es == 0) = false := by simp [hc]
    have b2 : (chkT b x es != 0) = true := by simp [hc]
    clear hc
    go_wp2
    go_ret
    exact ⟨by rw [HX.out]; rfl, O2.out⟩
end Go.Proofs.YtnfejojakikeeaaGreatDoor
