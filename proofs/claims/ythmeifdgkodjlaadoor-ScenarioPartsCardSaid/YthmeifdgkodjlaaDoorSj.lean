/- The writer's lines of a link. Conditions: the library's table is laid; the link is one of a valid scene. -/
import Derived.Test.YthmeifdgkodjlaaDoorSi
namespace Go.Proofs.YthmeifdgkodjlaaDoor
open Go.RowKit

theorem fuX (n : Nat) (w : World) (h : n ≤ 18446744073709551615) (ht : Tab w) :
    ∃ X : ByteArray, Hid (∀ w', Only [] w w' → Calls Tryd.prog 21 #[.int .u64 n, .int .i64 10] w' fun e w'' => e = .returned (.string X) ∧ Only [] w' w'') ∧ Hid (X.data.toList = Lib.decDigits n) ∧ X.size ≤ 20 :=
  ⟨bstr (Lib.decDigits n), Lib.hid (fun w' ho => fu_plus n (by omega) w' (ht.kept ho)), Lib.hid rfl, by rw [bstr_size]; exact dec_len_le 20 n (by decide) (by omega)⟩
def hdL (l : Lk) : List UInt8 := wLink ++ numT [l.A, l.B, l.d0, l.d1, l.v0, l.v1, l.lo] ++ (32 :: Lib.decDigits l.sd.toNat ++ [10])
theorem hdL_eq (l : Lk) : lnT (lkH l) = hdL l := by
  unfold lnT lkH hdL
  simp [joinN, numT]
theorem chT {l : Lk} {c : Ch} : lnT (chW l c) = wChange ++ numT [l.A, l.B, c.a, c.d, c.y] ++ [10] := lnT_n wChange [l.A, l.B, c.a, c.d, c.y]
theorem ch_snoc (l : Lk) {ch : List Ch} {k : Nat} (h : k < ch.length) : ((ch.take (k + 1)).map (chW l)).flatMap lnT = ((ch.take k).map (chW l)).flatMap lnT ++ (wChange ++ numT [l.A, l.B, (ch.getD k ch0).a, (ch.getD k ch0).d, (ch.getD k ch0).y] ++ [10]) := by
  rw [List.take_add_one, getD_some ch0 h, ← chT]; simp
theorem i64_five {a b c d e : Int} (h : i64 a) (h1 : i64 b) (h2 : i64 c) (h3 : i64 d) (h4 : i64 e) : ∀ x ∈ [a, b, c, d, e], i64 x := by intro x hx; simp only [List.mem_cons, List.not_mem_nil, or_false] at hx; rcases hx with rfl | rfl | rfl | rfl | rfl <;> assumption
theorem i64_seven {a b c d e f g : Int} (h : i64 a) (h1 : i64 b) (h2 : i64 c) (h3 : i64 d) (h4 : i64 e) (h5 : i64 f) (h6 : i64 g) : ∀ x ∈ [a, b, c, d, e, f, g], i64 x := by intro x hx; simp only [List.mem_cons, List.not_mem_nil, or_false] at hx; rcases hx with rfl | rfl | rfl | rfl | rfl | rfl | rfl <;> assumption
theorem ch_len {l : Lk} (hA : i64 l.A) (hB : i64 l.B) : ∀ {ch : List Ch}, (∀ c ∈ ch, i64 c.a ∧ i64 c.d ∧ i64 c.y) → ((ch.map (chW l)).flatMap lnT).length ≤ 200 * ch.length
  | [], _ => by simp
  | s :: r, h => by
    have h1 := ch_len hA hB (ch := r) (fun x hx => h x (by simp [hx]))
    have h2 := numT_len (i64_five hA hB (h s (by simp)).1 (h s (by simp)).2.1 (h s (by simp)).2.2)
    simp only [List.map_cons, List.flatMap_cons, List.length_append, chT, List.length_cons, List.length_nil] at h1 h2 ⊢
    have : wChange.length = 6 := rfl
    omega
theorem lkT_eq (l : Lk) : (lkW l).flatMap lnT = hdL l ++ (l.ch.map (chW l)).flatMap lnT := by
  unfold lkW
  rw [List.flatMap_cons, hdL_eq]
def ChI (w0 w : World) (l : List UInt8) (x : Lk) (ch : List Ch) (vi : Value) (wr : World) : Prop :=
  ∃ k : Nat, k ≤ ch.length ∧ vi = .int .i64 k ∧ Bld w0 wr (l ++ ((ch.take k).map (chW x)).flatMap lnT) ∧ FrB w0.heap.size w wr
set_option maxRecDepth 100000 in
set_option maxHeartbeats 4000000 in
theorem pLinkW {w0 w : World} {l : List UInt8} (h : Bld w0 w l) (ht : Tab w0) (x : LkW) (hx : x.Ok w0) (hn : LkI x.l) (hcl : x.l.ch.length ≤ 16) (hlen : l.length ≤ 1000000) :
    Calls Tryd.prog 23 #[.pointer (some ⟨w0.heap.size, 0, none⟩), slV x] w fun e w' => e = .returned (.tuple #[]) ∧ Bld w0 w' (l ++ (lkW x.l).flatMap lnT) ∧ FrB w0.heap.size w w' := by
  rw [lkT_eq]
  obtain ⟨lx, p, c⟩ := x
  have hcA : lx.A = lx.A := rfl
  have hCH : Hid ((lx.ch.map (chW lx)).flatMap lnT = (lx.ch.map (chW lx)).flatMap lnT) := Lib.hid rfl
  obtain ⟨hA, hB, hd0, hd1, hv0, hv1, hlo, hsd, hch⟩ := hn
  obtain ⟨u, hu⟩ : ∃ u : Nat, lx.sd = u := ⟨lx.sd.toNat, by have := hsd.1; simp only at this; omega⟩
  have hu64 : u ≤ 18446744073709551615 := by have := hsd.2; simp only at this; omega
  have hhd : hdL lx = wLink ++ numT [lx.A, lx.B, lx.d0, lx.d1, lx.v0, lx.v1, lx.lo] ++ (32 :: Lib.decDigits u ++ [10]) := by unfold hdL; rw [hu]; rfl
  unfold slV
  dsimp only at hcl hA hB hd0 hd1 hv0 hv1 hlo hch ⊢
  rw [hu, hhd]
  have HV := Lib.hid hx.row; have HT := Lib.hid ht; have D0 := Lib.hid h
  dsimp only at HV
  have IA := Lib.hid hA; have IB := Lib.hid hB; have I0 := Lib.hid hd0; have I1 := Lib.hid hd1; have I2 := Lib.hid hv0; have I3 := Lib.hid hv1; have I4 := Lib.hid hlo; have HCH := Lib.hid hch
  clear hx ht h hA hB hd0 hd1 hv0 hv1 hlo hch hsd hu hhd hcA hCH
  obtain ⟨A, B, d0, d1, v0, v1, lo, sd, ch⟩ := lx
  dsimp only at IA IB I0 I1 I2 I3 I4 HCH hcl HV ⊢
  generalize hR : l ++ (wLink ++ numT [A, B, d0, d1, v0, v1, lo] ++ (32 :: Lib.decDigits u ++ [10]) ++ (ch.map (chW ⟨A, B, d0, d1, v0, v1, lo, sd, ch⟩)).flatMap lnT) = R
  have HR := Lib.hid hR
  clear hR
  obtain ⟨lx, hlx⟩ : ∃ lx : Lk, lx = ⟨A, B, d0, d1, v0, v1, lo, sd, ch⟩ := ⟨_, rfl⟩
  rw [← hlx] at HR
  have HA : Hid (lx.A = A) := Lib.hid (by rw [hlx]); have HB : Hid (lx.B = B) := Lib.hid (by rw [hlx])
  clear hlx
  go_enter Tryd.func23, Tryd.ntmps23
  go_upto_region 1 with (fail)
  refine alloc_abs (G := fun w0 => Code.wp _ _ _ _ w0) ?_
  intro w1 hb1 ho1 hs1
  have B1 := Lib.hid hb1; have D1 := Lib.hid (D0.out.kept ho1); have O1 := Lib.hid ho1
  have HBX := Lib.hid (Nat.ne_of_gt D0.out.lt)
  clear hb1 ho1 hs1 D0
  generalize w.heap.size = bx at B1 HBX
  have g0 := cell_got B1.out 0; have g1 := cell_got B1.out 1; have g2 := cell_got B1.out 2; have g3 := cell_got B1.out 3; have g4 := cell_got B1.out 4; have g5 := cell_got B1.out 5; have g6 := cell_got B1.out 6; have g7 := cell_got B1.out 7; have g8 := cell_got B1.out 8; have lb := got_lt B1.out
  go_upto_region 2 with (fail)
  refine alloc_abs (G := fun w0 => Code.wp _ _ _ _ w0) ?_
  intro w2 hb2 ho2 hs2
  have K2 := Lib.hid hb2; have B2 := Lib.hid (ho2.got B1.out (by simp)); have D2 := Lib.hid (D1.out.kept ho2); have O2 := Lib.hid (O1.out.nil_trans ho2)
  have HKX := Lib.hid (Nat.ne_of_gt D1.out.lt)
  clear hb2 ho2 hs2 g0 g1 g2 g3 g4 g5 g6 g7 g8 lb D1 O1
  generalize w1.heap.size = kx at K2 HKX
  clear B1
  have F2 := Lib.hid (frB_refl w0.heap.size w2)
  have g0 := cell_got B2.out 0; have g1 := cell_got B2.out 1; have lb := got_lt B2.out
  have k0 := cell_got K2.out 0; have k1 := cell_got K2.out 1; have k2 := cell_got K2.out 2; have k3 := cell_got K2.out 3; have k4 := cell_got K2.out 4; have lk := got_lt K2.out
  go_wp2_with fail
  refine alloc_abs (G := fun w0 => Calls _ _ _ w0 _) ?_
  intro wx hbx hox hsx
  clear hsx g0 g1 lb k0 k1 k2 k3 k4 lk
  refine (pWordsN D2.out HT.out { data := #[108, 105, 110, 107] } 4 (by decide) [A, B, d0, d1, v0, v1, lo] 7 rfl hbx hox (i64_seven IA.out IB.out I0.out I1.out I2.out I3.out I4.out) (by decide) (by omega)).mono ?_
  rintro e w3 ⟨rfl, l3, hl3, hz3, hb3, hf3⟩
  have D3 := Lib.hid hb3; have F3 := Lib.hid (F2.out.trans hf3); have B3 := Lib.hid (hf3.got B2.out HBX.out (by decide)); have K3 := Lib.hid (hf3.got K2.out HKX.out (by decide))
  clear hb3 hf3 hbx hox D2 F2
  obtain ⟨X, HI, HX, hxl⟩ := fuX u w3 hu64 (HT.out.kept D3.out.2)
  have k5 := cell_got K3.out 5; have lk := got_lt K3.out
  have q1 : ¬ 9223372036854775807 < 1 + X.size := by omega
  have q2 : ¬ 9223372036854775807 < 1 + X.size + 1 := by omega
  have HW := Lib.hid (fun (w' : World) (ho : Only [] w3 w') => bWriteString (D3.out.kept ho) ({ data := #[32] } ++ X ++ { data := #[10] }) (by
    rw [ByteArray.size_append, ByteArray.size_append]
    have : ({ data := #[32] } : ByteArray).size = 1 := rfl
    have : ({ data := #[10] } : ByteArray).size = 1 := rfl
    omega))
  have hd : ({ data := #[32] } ++ X ++ { data := #[10] } : ByteArray).data.toList = 32 :: Lib.decDigits u ++ [10] := by rw [ByteArray.data_append, Array.toList_append, ByteArray.data_append, Array.toList_append, HX.out]; rfl
  rw [hd] at HW
  clear hd HX
  go_upto_region 3 with (fail)
  refine wp_region_grown [0, 1, 2, 3, 4, 5, 6, 7] [8] (by kernel_rfl) (by kernel_rfl) ?_
  simp only [pick, List.map_cons, List.map_nil, List.getD_cons_succ, List.getD_cons_zero]
  iterate 5 (refine wpQuiet_step (fun K hK => ?_); go_simp; refine hK _ ?_; clear hK K)
  refine wpQuiet_enter_w (by kernel_rfl) 21 #[.int .u64 u, .int .i64 10] (fun _ => by kernel_rfl) (.string X) (grown_only2 fun w' ho' => HI.out w' ho') ?_
  iterate 2 (refine wpQuiet_step (fun K hK => ?_); go_simp; refine hK _ ?_; clear hK K)
  refine wpQuiet_nil ?_
  intro w4 hw4
  have O4 := Lib.hid (only_of_plus hw4)
  clear hw4 k5 lk HI
  go_wp2_with fail
  refine (HW.out w4 O4.out).mono ?_
  rintro e w5 ⟨rfl, hb5, hf5⟩
  have D5 := Lib.hid hb5; have F5 := Lib.hid ((F3.out.trans (frB_only O4.out)).trans hf5)
  have B5 := Lib.hid (hf5.got (O4.out.got B3.out (by simp)) HBX.out (by decide)); have K5 := Lib.hid (hf5.got (O4.out.got K3.out (by simp)) HKX.out (by decide))
  clear hb5 hf5 HW q1 q2 D3 F3 B3 K3 O4
  have hz5 : (l3 ++ (32 :: Lib.decDigits u ++ [10])).length ≤ l.length + 300 := by
    have := dec_len_le 20 u (by decide) (by omega)
    simp only [List.length_append, List.length_cons, List.length_nil]; omega
  obtain ⟨l5, hl5⟩ : ∃ l5, l5 = l3 ++ (32 :: Lib.decDigits u ++ [10]) := ⟨_, rfl⟩
  rw [← hl5] at D5 hz5
  have HL5 := Lib.hid hl5
  clear hl5
  have k8 := cell_got K5.out 6; have lk := got_lt K5.out
  go_wp2
  clear k8 lk
  generalize ({ data := #[32] } ++ X ++ { data := #[10] } : ByteArray) = z3
  generalize ({ data := #[32] } ++ X : ByteArray) = z2
  go_loopw [42] (fun vi wr => ChI w0 w2 l5 lx ch vi wr) (fun vi _ => ch.length - (intOf vi).toNat)
  case atStart => exact ⟨0, Nat.zero_le _, rfl, by simpa using D5.out, F5.out⟩
  case round =>
    obtain ⟨k, hk, rfl, hbl, hfr⟩ := hrel
    have DD := Lib.hid hbl; have FF := Lib.hid hfr; have BB := Lib.hid (hfr.got B2.out HBX.out (by decide))
    clear hbl hfr
    by_cases hlt : k < ch.length
    · obtain ⟨bk, off, hp, c0, c1, c2, lc⟩ := HV.out.ch DD.out.2 hlt
      subst hp
      have HTK := Lib.hid (ch_snoc lx hlt)
      rw [HA.out, HB.out] at HTK
      have hsi := HCH.out _ (getD_mem ch0 hlt)
      have htl := ch_len (l := lx) (by rw [HA.out]; exact IA.out) (by rw [HB.out]; exact IB.out) (ch := ch.take k) (fun x hx => HCH.out x (List.mem_of_mem_take hx))
      rw [List.length_take, Nat.min_eq_left hk] at htl
      generalize ch.getD k ch0 = s at c0 c1 c2 HTK hsi
      have J0 := Lib.hid hsi.1; have J1 := Lib.hid hsi.2.1; have J2 := Lib.hid hsi.2.2
      clear hsi
      go_upto_region 7 with (fail)
      refine alloc_abs (G := fun w0 => Code.wp _ _ _ _ w0) ?_
      intro wa hba hoa hsa
      have EA := Lib.hid hba; have DA := Lib.hid (DD.out.kept hoa); have FA := Lib.hid (FF.out.trans (frB_only hoa)); have BA := Lib.hid (hoa.got BB.out (by simp))
      clear hba hoa hsa c0 c1 c2 lc
      have c0 := cell_got EA.out 0; have c1 := cell_got EA.out 1; have c2 := cell_got EA.out 2; have le := got_lt EA.out
      have g0 := cell_got BA.out 0; have g1 := cell_got BA.out 1; have lb := got_lt BA.out
      go_wp2_with fail
      refine alloc_abs (G := fun w0 => Calls _ _ _ w0 _) ?_
      intro wx hbx hox hsx
      clear hsx c0 c1 c2 le g0 g1 lb
      refine (pLineN DA.out HT.out { data := #[99, 104, 97, 110, 103, 101] } 6 (by decide) [A, B, s.a, s.d, s.y] 5 rfl hbx hox (i64_five IA.out IB.out J0.out J1.out J2.out) (by decide) (by rw [List.length_append]; omega)).mono ?_
      rintro e wb ⟨rfl, lb, hlb, _, hbb, hfb⟩
      have DB : Hid (Bld w0 wb (l5 ++ ((ch.take (k + 1)).map (chW lx)).flatMap lnT)) := Lib.hid (by rw [HTK.out, ← List.append_assoc]; rw [hlb.out] at hbb; exact hbb)
      have FB := Lib.hid (FA.out.trans hfb)
      clear hbb hfb hbx hox hlb DA FA
      go_wp2
      go_roundw
      case rel => exact ⟨k + 1, by omega, by go_num, DB.out, FB.out⟩
      case measure => first | (simp [intOf]; done) | (simp [intOf]; omega)
    · obtain rfl : k = ch.length := by omega
      have D9 := DD
      rw [List.take_of_length_le (Nat.le_refl _)] at D9
      go_wp2
      go_end0
      exact ⟨rfl, by rw [← HR.out]; have h9 := D9.out; rw [HL5.out, hl3.out] at h9; simp only [List.append_assoc] at h9 ⊢; exact h9, (frB_only O2.out).trans FF.out⟩
end Go.Proofs.YthmeifdgkodjlaaDoor
