/- Text of package leap. Conditions: the library's variables and the table of the months are laid; the length. -/
import Derived.Test.YtnfejojakikeeaaGreatDoorK6
import Derived.Test.YtnfejojakikeeaaGreatDoorBe
namespace Go.Proofs.YtnfejojakikeeaaGreatDoor
open Go.RowKit

theorem grown_only2 {P : Program} {f : FuncId} {args : Array Value} {w : World} {v : Value} (h : ∀ w', Only [] w w' → Calls P f args w' fun e w'' => e = .returned v ∧ Only [] w' w'') :
    ∀ w', (∃ x, w' = plus w x) → Calls P f args w' fun e w'' => e = .returned v ∧ ∃ x, w'' = plus w x :=
  grown_calls fun w' hw' => (h w' (only_of_plus hw')).mono fun _ _ ⟨he, ho⟩ => ⟨he, ho.nil_below⟩
theorem itoaX (n : Int) (w : World) (h0 : -9223372036854775808 ≤ n) (h1 : n ≤ 9223372036854775807) (ht : Tab w) :
    ∃ X : ByteArray, Hid (∀ w', Only [] w w' → Calls Tryz.prog 37 #[.int .i64 n] w' fun e w'' => e = .returned (.string X) ∧ Only [] w' w'') ∧ Hid (X.data.toList = Lib.itoa n) ∧ X.size ≤ 30 :=
  ⟨bstr (Lib.itoa n), Lib.hid (fun w' ho => itoa_plus n w' h0 h1 (ht.kept ho)), Lib.hid rfl, by rw [bstr_size]; have := Lib.itoa_length_le n h0 h1; omega⟩
theorem bw3 {w0 w : World} {l : List UInt8} (h : Bld w0 w l) (P X S : ByteArray) (hP : P.size ≤ 30) (hX : X.size ≤ 30) (hS : S.size ≤ 30) (hl : l.length ≤ 1000000) :
    Calls Tryz.prog 36 #[.pointer (some ⟨w0.heap.size, 0, none⟩), .string (P ++ X ++ S)] w fun e w' => e = .returned (.tuple #[.int .i64 (P ++ X ++ S).size, .nilIface]) ∧ Bld w0 w' (l ++ (P.data.toList ++ X.data.toList ++ S.data.toList)) := by
  have hz : (P ++ X ++ S).size = P.size + X.size + S.size := by simp only [ByteArray.size_append]
  have := bWriteString h (P ++ X ++ S) (by omega)
  rw [show (P ++ X ++ S).data.toList = P.data.toList ++ X.data.toList ++ S.data.toList by simp [ByteArray.data_append]] at this
  exact this
theorem bw4 {w0 w : World} {l : List UInt8} (h : Bld w0 w l) (P X S R : ByteArray) (hP : P.size ≤ 30) (hX : X.size ≤ 30) (hS : S.size ≤ 30) (hR : R.size ≤ 30) (hl : l.length ≤ 1000000) :
    Calls Tryz.prog 36 #[.pointer (some ⟨w0.heap.size, 0, none⟩), .string (P ++ X ++ S ++ R)] w fun e w' => e = .returned (.tuple #[.int .i64 (P ++ X ++ S ++ R).size, .nilIface]) ∧ Bld w0 w' (l ++ (P.data.toList ++ X.data.toList ++ S.data.toList ++ R.data.toList)) := by
  have hz : (P ++ X ++ S ++ R).size = P.size + X.size + S.size + R.size := by simp only [ByteArray.size_append]
  have := bWriteString h (P ++ X ++ S ++ R) (by omega)
  rw [show (P ++ X ++ S ++ R).data.toList = P.data.toList ++ X.data.toList ++ S.data.toList ++ R.data.toList by simp [ByteArray.data_append]] at this
  exact this
/-- the line of an entry -/
def lnE (e : Le) : List UInt8 := Lib.itoa e.a ++ 32 :: (Lib.itoa e.o ++ [10])
/-- the first two lines -/
def hdT (b x : Int) : List UInt8 := [35, 64, 32] ++ Lib.itoa x ++ [10] ++ ([35, 61, 32] ++ Lib.itoa b ++ [10])
def bodT (es : List Le) : List UInt8 := es.flatMap lnE
def txT (b x : Int) (es : List Le) : List UInt8 := hdT b x ++ bodT es
def txtK (b x : Int) (es : List Le) : List UInt8 := if chkT b x es = 0 then txT b x es else []
theorem lnE_len {e : Le} (h1 : inM e.o 1000 = true) (h2 : inM e.a 8000000000 = true) : (lnE e).length ≤ 50 := by
  have q1 := inM_t.1 h1; have q2 := inM_t.1 h2
  have l1 := Lib.itoa_length_le e.a (by omega) (by omega)
  have l2 := Lib.itoa_length_le e.o (by omega) (by omega)
  simp [lnE]; omega
theorem bodT_len : ∀ {es : List Le}, (∀ e ∈ es, inM e.o 1000 = true ∧ inM e.a 8000000000 = true) → (bodT es).length ≤ 50 * es.length
  | [], _ => by simp [bodT]
  | e :: r, h => by
    have h1 := lnE_len (h e (by simp)).1 (h e (by simp)).2
    have h2 := bodT_len (es := r) (fun x hx => h x (by simp [hx]))
    simp only [bodT, List.flatMap_cons, List.length_append, List.length_cons] at h2 ⊢
    omega
theorem hdT_len {b x : Int} (h1 : inM b 1000 = true) (h2 : inM x 8000000000 = true) : (hdT b x).length ≤ 100 := by
  have q1 := inM_t.1 h1; have q2 := inM_t.1 h2
  have l1 := Lib.itoa_length_le b (by omega) (by omega)
  have l2 := Lib.itoa_length_le x (by omega) (by omega)
  simp [hdT]; omega
def TxI (w2 : World) (b x : Int) (es : List Le) (vi : Value) (wr : World) : Prop :=
  ∃ k : Nat, k ≤ es.length ∧ vi = .int .i64 k ∧ Bld w2 wr (hdT b x ++ bodT (es.take k))

set_option maxRecDepth 100000 in
set_option maxHeartbeats 2000000 in
theorem kText {w : World} {p : Option Addr} {n cap : Nat} {es : List Le} (b x : Int) (hv : VRow leC 2 w p n cap es) (hn : n ≤ 100000) (hd : Mdy w) (ht : Tab w) :
    Calls Tryz.prog 16 #[.agg #[.int .i64 b, .int .i64 x, .slice p n cap]] w fun e w' => e = .returned (.string (bstr (txtK b x es))) ∧ Only [] w w' := by
  have hl := hv.len
  subst hl
  have HV := Lib.hid hv; have HD := Lib.hid hd; have HT := Lib.hid ht; clear hv hd ht
  go_enter Tryz.func16, Tryz.ntmps16
  go_wp2_with fail
  refine alloc_abs (G := fun w0 => Calls _ _ _ w0 _) ?_
  intro w1 hb1 ho1 hs1
  have B1 := Lib.hid hb1; have O1 := Lib.hid ho1
  clear hb1 ho1 hs1
  refine (kcheck b x (HV.out.kept O1.out) hn (HD.out.kept O1.out)).mono ?_
  rintro e w2 ⟨rfl, ho2⟩
  have B2 := Lib.hid (ho2.got B1.out (by simp)); have O2 := Lib.hid (O1.out.nil_trans ho2)
  clear ho2 B1 O1
  by_cases hc : chkT b x es = 0
  · obtain ⟨hn64, cb, cx, cr, _⟩ := chkT_ok hc
    have hbd := inM_t.1 cb; have hxd := inM_t.1 cx
    have hhl := hdT_len cb cx
    have HCR := Lib.hid cr
    have HR : Hid (txtK b x es = txT b x es) := Lib.hid (by unfold txtK; rw [if_pos hc])
    rw [hc]
    clear hc cb cx cr
    go_upto_region 4 with (fail)
    refine alloc_abs (G := fun w0 => Code.wp _ _ _ _ w0) ?_
    intro w3 hb3 ho3 hs3
    have B3 := Lib.hid (ho3.got B2.out (by simp))
    have g0 := cell_got B3.out 0; have g1 := cell_got B3.out 1; have g2 := cell_got B3.out 2
    have l0 := got_lt B3.out
    have D3 := Lib.hid (bld_new hb3 ho3)
    clear hb3 hs3
    obtain ⟨X, HI, HX, hxl⟩ := itoaX x w3 (by omega) (by omega) (HT.out.kept (O2.out.nil_trans ho3))
    clear ho3
    go_wp2_with fail
    refine (HI.out w3 (Only.refl _ _)).mono ?_
    rintro e w4 ⟨rfl, ho4⟩
    have B4 := Lib.hid (ho4.got B3.out (by simp)); have D4 := Lib.hid (D3.out.kept ho4)
    clear ho4 B3 D3 HI g0 g1 g2 l0
    have q1 : ¬ 9223372036854775807 < 3 + X.size := by omega
    have q2 : ¬ 9223372036854775807 < 3 + X.size + 1 := by omega
    have hw5 := bw3 D4.out { data := #[35, 64, 32] } X { data := #[10] } (by decide) hxl (by decide) (by simp)
    rw [HX.out] at hw5
    have HW5 := Lib.hid hw5
    clear hw5 D4
    go_wp2_with fail
    refine HW5.out.mono ?_
    rintro e w5 ⟨rfl, hb5⟩
    have D5 := Lib.hid hb5
    have B5 := Lib.hid (hb5.2.got B2.out (by simp)); have O5 := Lib.hid (O2.out.nil_trans hb5.2)
    clear hb5 q1 q2 HW5 HX hxl B4
    generalize ({ data := #[35, 64, 32] } ++ X ++ { data := #[10] } : ByteArray) = z1
    generalize ({ data := #[35, 64, 32] } ++ X : ByteArray) = z2
    have g0 := cell_got B5.out 0; have g1 := cell_got B5.out 1; have g2 := cell_got B5.out 2
    have l0 := got_lt B5.out
    obtain ⟨Y, HI, HY, hyl⟩ := itoaX b w5 (by omega) (by omega) (HT.out.kept O5.out)
    go_wp2_with fail
    refine (HI.out w5 (Only.refl _ _)).mono ?_
    rintro e w6 ⟨rfl, ho6⟩
    have q1 : ¬ 9223372036854775807 < 3 + Y.size := by omega
    have q2 : ¬ 9223372036854775807 < 3 + Y.size + 1 := by omega
    have hw7 := bw3 (D5.out.kept ho6) { data := #[35, 61, 32] } Y { data := #[10] } (by decide) hyl (by decide) (by have := Lib.itoa_length_le x (by omega) (by omega); simp; omega)
    rw [HY.out] at hw7
    have HW7 := Lib.hid hw7
    clear hw7 D5 ho6 HI g0 g1 g2 l0 B5 O5
    go_wp2_with fail
    refine HW7.out.mono ?_
    rintro e w7 ⟨rfl, hb7⟩
    have D7 : Hid (Bld w2 w7 (hdT b x ++ bodT (es.take 0))) := Lib.hid (by simpa [hdT, bodT] using hb7)
    have B7 := Lib.hid (hb7.2.got B2.out (by simp))
    clear hb7 q1 q2 HW7 HY hyl
    generalize ({ data := #[35, 61, 32] } ++ Y ++ { data := #[10] } : ByteArray) = z3
    generalize ({ data := #[35, 61, 32] } ++ Y : ByteArray) = z4
    have g0 := cell_got B7.out 0; have g1 := cell_got B7.out 1; have g2 := cell_got B7.out 2
    have l0 := got_lt B7.out
    go_wp2
    go_loopw [24] (fun vi wr => TxI w2 b x es vi wr) (fun vi _ => es.length - (intOf vi).toNat)
    case atStart => exact ⟨0, Nat.zero_le _, rfl, D7.out⟩
    case round =>
      obtain ⟨k, hk, rfl, hbld⟩ := hrel
      have OO := Lib.hid (O2.out.nil_trans hbld.2); have DD := Lib.hid hbld
      clear hbld g0 g1 g2 l0 D7 B7
      by_cases hlt : k < es.length
      · obtain ⟨bk, off, hp⟩ := HV.out.ptr hlt
        subst hp
        obtain ⟨c0, c1, lb⟩ := HV.out.ent OO.out rfl hlt
        have hgk : es[k]? = some (es.getD k ⟨0, 0⟩) := by simp [List.getD_eq_getElem?_getD, hlt]
        have hmem : es.getD k ⟨0, 0⟩ ∈ es := List.mem_of_getElem? hgk
        have bo := inM_t.1 (HCR.out _ hmem).1
        have ba := inM_t.1 (HCR.out _ hmem).2
        have htk : bodT (es.take (k + 1)) = bodT (es.take k) ++ lnE (es.getD k ⟨0, 0⟩) := by rw [List.take_add_one, hgk]; simp [bodT]
        have htl := bodT_len (es := es.take k) (fun x hx => HCR.out x (List.mem_of_mem_take hx))
        have hlk : (es.take k).length = k := by rw [List.length_take]; omega
        rw [hlk] at htl
        generalize es.getD k ⟨0, 0⟩ = e at c0 c1 htk ba bo
        have HTK := Lib.hid htk
        clear hgk htk hmem hlk
        go_upto_region 9 with (fail)
        refine alloc_abs (G := fun w0 => Code.wp _ _ _ _ w0) ?_
        intro w8 hb8 ho8 hs8
        have e0 := cell_got hb8 0; have e1 := cell_got hb8 1
        have le := got_lt hb8
        have O8 := Lib.hid (OO.out.nil_trans ho8); have D8 := Lib.hid (DD.out.kept ho8)
        clear hb8 ho8 hs8 c0 c1 OO DD lb
        obtain ⟨U, HIU, HU, hul⟩ := itoaX e.a w8 (by omega) (by omega) (HT.out.kept O8.out)
        obtain ⟨V, HIV, HVV, hvl⟩ := itoaX e.o w8 (by omega) (by omega) (HT.out.kept O8.out)
        have q1 : ¬ 9223372036854775807 < U.size + 1 := by omega
        have q2 : ¬ 9223372036854775807 < U.size + 1 + V.size := by omega
        have q3 : ¬ 9223372036854775807 < U.size + 1 + V.size + 1 := by omega
        refine wp_region_grown [0, 1, 2, 3, 4, 5, 6, 7, 8] [9] (by kernel_rfl) (by kernel_rfl) ?_
        simp only [pick, List.map_cons, List.map_nil, List.getD_cons_succ, List.getD_cons_zero]
        iterate 2 (refine wpQuiet_step (fun K hK => ?_); go_simp; refine hK _ ?_; clear hK K)
        refine wpQuiet_enter rfl 37 #[.int .i64 e.a] (fun _ => by kernel_rfl) (.string U) (grown_only2 fun w' ho => HIU.out w' ho) ?_
        iterate 3 (refine wpQuiet_step (fun K hK => ?_); go_simp; refine hK _ ?_; clear hK K)
        refine wpQuiet_enter rfl 37 #[.int .i64 e.o] (fun _ => by kernel_rfl) (.string V) (grown_only2 fun w' ho => HIV.out w' ho) ?_
        iterate 2 (refine wpQuiet_step (fun K hK => ?_); go_simp; refine hK _ ?_; clear hK K)
        refine wpQuiet_nil ?_
        intro w9 hw9
        have hw10 := bw4 (D8.out.kept (only_of_plus hw9)) U { data := #[32] } V { data := #[10] } hul (by decide) hvl (by decide) (by rw [List.length_append]; omega)
        rw [HU.out, HVV.out] at hw10
        rw [show hdT b x ++ bodT (es.take k) ++ (Lib.itoa e.a ++ ({ data := #[32] } : ByteArray).data.toList ++ Lib.itoa e.o ++ ({ data := #[10] } : ByteArray).data.toList) = hdT b x ++ bodT (es.take (k + 1)) by rw [HTK.out]; simp [lnE]] at hw10
        have HW10 := Lib.hid hw10
        clear hw10 hw9 D8 O8 HIU HIV HU HVV e0 e1 le q1 q2 q3 HTK
        go_wp2_with fail
        refine HW10.out.mono ?_
        rintro e' w10 ⟨rfl, hb10⟩
        have D10 := Lib.hid hb10
        clear hb10 HW10
        go_wp2
        go_roundw
        case rel => exact ⟨k + 1, by omega, by go_num, D10.out⟩
        case measure => simp [intOf]; omega
      · obtain rfl : k = es.length := by omega
        have hb := DD.out
        rw [List.take_of_length_le (Nat.le_refl _)] at hb
        have HS := Lib.hid (bString hb)
        clear hb DD
        go_wp2_with fail
        refine HS.out.mono ?_
        rintro e w8 ⟨rfl, ho8⟩
        go_wp2
        go_ret
        exact ⟨by rw [HR.out]; rfl, O2.out.nil_trans ho8⟩
  · have HR : Hid (txtK b x es = []) := Lib.hid (by unfold txtK; rw [if_neg hc])
    have b1 : (chkT b x es == 0) = false := by simp [hc]
    have b2 : (chkT b x es != 0) = true := by simp [hc]
    clear hc
    go_wp2
    go_ret
    exact ⟨by rw [HR.out]; rfl, O2.out⟩
end Go.Proofs.YtnfejojakikeeaaGreatDoor
