/- timesyncref56: nodeText and linkText write the lines of a node and of a link. Condition: the lengths. -/
import Derived.Test.YthmeifdgkodjlaaGreatDoorU6
import Derived.Test.YthmeifdgkodjlaaGreatDoorU5
namespace Go.Proofs.YthmeifdgkodjlaaGreatDoor
open Go.RowKit

theorem lit_row {w1 w2 : World} {ns : List Int} (hb : w2.heap[w1.heap.size]? = some (.cells (ns.map (Value.int .i64)).toArray 3 (0, 0))) (hl : ns.length ≤ 1000) : VRow itC 1 w2 (some ⟨w1.heap.size, 0, none⟩) ns.length ns.length ns :=
  (ints_row hb hl).vrow itC_len rfl
def NtR (pre : List UInt8) (T : Nat → List UInt8) (n : Nat) (w : World) (v vi : Value) (wr : World) : Prop :=
  ∃ (k : Nat) (X : ByteArray), k ≤ n ∧ vi = .int .i64 k ∧ v = .string X ∧ X.data.toList = pre ++ T k ∧ Only [] w wr
theorem nt_step {X L : ByteArray} {pre a b c : List UInt8} (h1 : X.data.toList = pre ++ a) (h2 : L.data.toList = b) (h3 : c = a ++ b) : (X ++ L).data.toList = pre ++ c := by
  rw [app_data, h1, h2, h3, List.append_assoc]
theorem size_of {X : ByteArray} {l : List UInt8} (h : X.data.toList = l) : X.size = l.length := by rw [← h, Array.length_toList]; rfl
theorem num_size {n : Int} (h : i64 n) : (bstr (it n)).size ≤ 29 := by rw [bstr_size]; exact it_len h
theorem line_size {W : List UInt8} {ns : List Int} (h : ∀ n ∈ ns, i64 n) (hW : W.length ≤ 10) (hn : ns.length ≤ 10) : (bstr (W ++ numT ns ++ [10])).size ≤ 400 := by
  have := numT_len h
  rw [bstr_size]; simp only [List.length_append, List.length_cons, List.length_nil]; omega
set_option maxRecDepth 100000 in
set_option maxHeartbeats 4000000 in
theorem rNodeT {w : World} (x : NdW) (hx : x.Ok w) (i : Int) (h0 : i64 i) (hn : NdI x.n) (hsl : x.n.sg.length ≤ 16) (hvl : x.n.sv.length ≤ 12) :
    Calls Tryz.prog 61 #[ndV x.n x.ps x.cs x.pv x.cv, .int .i64 i] w fun e w' => e = .returned (.string (bstr ((ndW x.n i).flatMap lnT))) ∧ Only [] w w' := by
  rw [ndT_eq]
  obtain ⟨⟨ph, sg, tol, rf, er, st, sv⟩, ps, cs, pv, cv⟩ := x
  obtain ⟨htol, hst, her, hph, hsg, hsv, hrf⟩ := hn
  have hh := hdN_len h0 (n := ⟨ph, sg, tol, rf, er, st, sv⟩) ⟨htol, hst, her, hph, hsg, hsv, hrf⟩
  unfold ndV oscT
  dsimp only at hsl hvl htol hst her hph hsg hsv ⊢
  have HH : Hid (hdN ⟨ph, sg, tol, rf, er, st, sv⟩ i = wNode ++ numT [i] ++ (32 :: wTol ++ numT [tol]) ++ (32 :: wStart ++ numT [st]) ++ (if rf then 32 :: wRef ++ numT [er] else []) ++ [10]) := Lib.hid rfl
  generalize hdN ⟨ph, sg, tol, rf, er, st, sv⟩ i = hd at HH hh ⊢
  have hol : (wOsc ++ numT [i, ph] ++ [10]).length ≤ 100 := by
    have := numT_len (i64_two h0 hph)
    simp only [List.length_append, List.length_cons, List.length_nil] at this ⊢
    simp [wOsc]; omega
  generalize hos : wOsc ++ numT [i, ph] ++ [10] = os at hol ⊢
  generalize hR : hd ++ os ++ (sg.map (sgW i)).flatMap lnT ++ (sv.map (svW i)).flatMap lnT = R
  have HOS := Lib.hid hos; have HR := Lib.hid hR
  have HV := Lib.hid hx.seg; have HW := Lib.hid hx.srv; have HSG := Lib.hid hsg; have HSV := Lib.hid hsv; have I0 := Lib.hid h0; have IPH := Lib.hid hph
  dsimp only at HV HW
  have RI := Lib.hid (rNumber i h0); have RT := Lib.hid (rNumber tol htol); have RS := Lib.hid (rNumber st hst); have RE := Lib.hid (rNumber er her)
  have sA := num_size h0; have sB := num_size htol; have sC := num_size hst; have sE := num_size her
  have DA := Lib.hid (bstr_data (it i)); have DB := Lib.hid (bstr_data (it tol)); have DC := Lib.hid (bstr_data (it st)); have DE := Lib.hid (bstr_data (it er))
  generalize bstr (it i) = A at RI sA DA
  generalize bstr (it tol) = B at RT sB DB
  generalize bstr (it st) = C at RS sC DC
  generalize bstr (it er) = E at RE sE DE
  clear hx hsg hsv h0 hph htol hst her hrf hos hR
  go_enter Tryz.func61, Tryz.ntmps61
  go_upto_region 1 with (fail)
  refine alloc_abs (G := fun w0 => Code.wp _ _ _ _ w0) ?_
  intro w1 hb1 ho1 hs1
  have B1 := Lib.hid hb1; have O1 := Lib.hid ho1
  clear hb1 ho1 hs1
  have g2 := cell_got B1.out 2; have g5 := cell_got B1.out 5; have l0 := got_lt B1.out
  have ze1 : ¬ 9223372036854775807 < 5 + A.size := by omega
  have ze2 : ¬ 9223372036854775807 < 5 + A.size + 5 := by omega
  have ze3 : ¬ 9223372036854775807 < 5 + A.size + 5 + B.size := by omega
  have ze4 : ¬ 9223372036854775807 < 5 + A.size + 5 + B.size + 7 := by omega
  have ze5 : ¬ 9223372036854775807 < 5 + A.size + 5 + B.size + 7 + C.size := by omega
  refine wp_region_grown [0, 1, 2, 3, 4, 5, 6, 7, 8, 9, 10, 11, 12, 13] [] (by kernel_rfl) (by kernel_rfl) ?_
  simp only [pick, List.map_cons, List.map_nil, List.getD_cons_succ, List.getD_cons_zero]
  iterate 1 (refine wpQuiet_step (fun K hK => ?_); go_simp; refine hK _ ?_; clear hK K)
  refine wpQuiet_enter_w (by kernel_rfl) 63 #[.int .i64 i] (fun _ => by kernel_rfl) (.string A) (grown_only2 fun w' _ => RI.out w') ?_
  iterate 4 (refine wpQuiet_step (fun K hK => ?_); go_simp; refine hK _ ?_; clear hK K)
  refine wpQuiet_enter_w (by kernel_rfl) 63 #[.int .i64 tol] (fun _ => by kernel_rfl) (.string B) (grown_only2 fun w' _ => RT.out w') ?_
  iterate 4 (refine wpQuiet_step (fun K hK => ?_); go_simp; refine hK _ ?_; clear hK K)
  refine wpQuiet_enter_w (by kernel_rfl) 63 #[.int .i64 st] (fun _ => by kernel_rfl) (.string C) (grown_only2 fun w' _ => RS.out w') ?_
  iterate 2 (refine wpQuiet_step (fun K hK => ?_); go_simp; refine hK _ ?_; clear hK K)
  refine wpQuiet_nil ?_
  intro w2 hw2
  have O2 := Lib.hid (O1.out.nil_trans (only_of_plus hw2)); have B2 := Lib.hid ((only_of_plus hw2).got B1.out (by simp))
  clear hw2 g2 g5 l0 O1 B1
  clear ze1 ze2 ze3 ze4 ze5
  have g0 := cell_got B2.out 0; have g3 := cell_got B2.out 3; have g4 := cell_got B2.out 4; have l0 := got_lt B2.out
  cases rf with
  | true =>
    simp only [if_true] at HH
    have ze1 : ¬ 9223372036854775807 < 5 + A.size := by omega
    have ze2 : ¬ 9223372036854775807 < 5 + A.size + 5 := by omega
    have ze3 : ¬ 9223372036854775807 < 5 + A.size + 5 + B.size := by omega
    have ze4 : ¬ 9223372036854775807 < 5 + A.size + 5 + B.size + 7 := by omega
    have ze5 : ¬ 9223372036854775807 < 5 + A.size + 5 + B.size + 7 + C.size := by omega
    have ze6 : ¬ 9223372036854775807 < 5 + A.size + 5 + B.size + 7 + C.size + 5 := by omega
    have ze7 : ¬ 9223372036854775807 < 5 + A.size + 5 + B.size + 7 + C.size + 5 + E.size := by omega
    go_wp2_with fail
    refine (RE.out w2).mono ?_
    rintro e w3 ⟨rfl, ho3⟩
    have O3 := Lib.hid (O2.out.nil_trans ho3); have B3 := Lib.hid (ho3.got B2.out (by simp))
    clear ho3 g0 g3 g4 l0
    have g0 := cell_got B3.out 0; have g3 := True.intro; have g4 := True.intro; have l0 := got_lt B3.out
    go_wp2_with fail
    refine alloc_abs (G := fun w0 => Calls _ _ _ w0 _) ?_
    intro wx hbx hox hsx
    have hrl := rLine ⟨#[111, 115, 99]⟩ (lit_row (ns := [i, ph]) hbx (by simp)) (i64_two I0.out IPH.out) (by decide) (by simp)
    have hls := line_size (W := (⟨#[111, 115, 99]⟩ : ByteArray).data.toList) (i64_two I0.out IPH.out) (by decide) (by simp)
    have HLD := Lib.hid (bstr_data ((⟨#[111, 115, 99]⟩ : ByteArray).data.toList ++ numT [i, ph] ++ [10]))
    generalize bstr ((⟨#[111, 115, 99]⟩ : ByteArray).data.toList ++ numT [i, ph] ++ [10]) = L at hrl hls HLD
    refine hrl.mono ?_
    rintro e w5 ⟨rfl, ho5⟩
    have O5 := Lib.hid ((O3.out.nil_trans hox).nil_trans ho5); have B5 := Lib.hid ((hox.nil_trans ho5).got B3.out (by simp))
    clear ho5 hox hbx hsx hrl g0 g3 g4 l0
    have ze1 : ¬ 9223372036854775807 < 5 + A.size := by omega
    have ze2 : ¬ 9223372036854775807 < 5 + A.size + 5 := by omega
    have ze3 : ¬ 9223372036854775807 < 5 + A.size + 5 + B.size := by omega
    have ze4 : ¬ 9223372036854775807 < 5 + A.size + 5 + B.size + 7 := by omega
    have ze5 : ¬ 9223372036854775807 < 5 + A.size + 5 + B.size + 7 + C.size := by omega
    have ze6 : ¬ 9223372036854775807 < 5 + A.size + 5 + B.size + 7 + C.size + 5 := by omega
    have ze7 : ¬ 9223372036854775807 < 5 + A.size + 5 + B.size + 7 + C.size + 5 + E.size := by omega
    have ze8 : ¬ 9223372036854775807 < 5 + A.size + 5 + B.size + 7 + C.size + 5 + E.size + 1 := by omega
    have ze9 : ¬ 9223372036854775807 < 5 + A.size + 5 + B.size + 7 + C.size + 5 + E.size + 1 + L.size := by omega
    go_wp2
    clear ze1 ze2 ze3 ze4 ze5 ze6 ze7 ze8 ze9
    go_loopw [5, 6] (fun v5 v6 wr => NtR (hd ++ os) (fun k => ((sg.take k).map (sgW i)).flatMap lnT) sg.length w5 v5 v6 wr) (fun _ v6 _ => sg.length - (intOf v6).toNat)
    case atStart => exact ⟨0, _, Nat.zero_le _, rfl, rfl, by simp only [app_data, DA.out, DB.out, DC.out, DE.out, HLD.out]; rw [HH.out, ← HOS.out]; simp [numT, wNode, wTol, wStart, wRef, wOsc], Only.refl _ _⟩
    case round =>
      obtain ⟨k, X, hk, rfl, rfl, hX, ho⟩ := hrel
      have HX := Lib.hid hX; have OO := Lib.hid ho; have OA := Lib.hid (O5.out.nil_trans ho); have BB := Lib.hid (ho.got B5.out (by simp))
      have hxs : X.size ≤ 3000 := by
        have h1 := size_of hX
        have h2 := sg_len I0.out (sg := sg.take k) (fun s hs => HSG.out s (List.mem_of_mem_take hs))
        have h4 := List.length_take_le k sg
        rw [h1]; simp only [List.length_append]; omega
      clear hX ho
      have g1 := cell_got BB.out 1; have l0 := got_lt BB.out
      by_cases hlt : k < sg.length
      · obtain ⟨bk, off, hp, c0, c1, lb⟩ := HV.out.sg OA.out hlt
        subst hp
        have hsI := HSG.out _ (List.mem_of_getElem? (getD_some sg0 hlt))
        have HT := Lib.hid (sg_snoc i hlt)
        generalize sg.getD k sg0 = s at c0 c1 hsI HT
        have I1 := Lib.hid hsI.1; have I2 := Lib.hid hsI.2
        clear hsI
        go_upto_region 8 with (fail)
        refine wp_region_calm2 [0, 1, 2, 3, 4, 5, 6, 7, 8, 9, 10, 11, 12, 13, 14, 15] [18, 19] (OnlyC ([] : List Nat) wr) (by kernel_rfl) (by kernel_rfl) ?_
        simp only [pick, List.map_cons, List.map_nil, List.getD_cons_succ, List.getD_cons_zero]
        iterate 16 (refine wpCalm_step (fun K hK => ?_); go_simp; refine hK _ ?_; clear hK K)
        refine wpCalm_nil ?_
        clear c0 c1 lb g1 l0
        refine wabs (G := fun w0 => Rest _ _ _ _ _ _ _ w0 _) (R := fun w0 => Only [] wr w0) (Only.refl _ _).drew ?_
        intro ws hos
        have OW := Lib.hid hos
        clear hos
        have hrl := fun (v1 v2 : World) (hb : v2.heap[v1.heap.size]? = some (.cells #[.int .i64 i, .int .i64 s.a, .int .i64 s.p] 3 (0, 0))) => rLine ⟨#[115, 101, 103]⟩ (lit_row (ns := [i, s.a, s.p]) hb (by simp)) (i64_three I0.out I1.out I2.out) (by decide) (by simp)
        have hls := line_size (W := (⟨#[115, 101, 103]⟩ : ByteArray).data.toList) (i64_three I0.out I1.out I2.out) (by decide) (by simp)
        have HLD := Lib.hid (bstr_data ((⟨#[115, 101, 103]⟩ : ByteArray).data.toList ++ numT [i, s.a, s.p] ++ [10]))
        generalize bstr ((⟨#[115, 101, 103]⟩ : ByteArray).data.toList ++ numT [i, s.a, s.p] ++ [10]) = L at hrl hls HLD
        have HRL := Lib.hid hrl
        clear hrl
        have ze1 : ¬ 9223372036854775807 < X.size + L.size := by omega
        refine Rest.by (X := Nat) (fun n a => (((a.put (some 62) (.slice (some ⟨n, 0, none⟩) 3 3)).put (some 63) (.string L)).put (some 64) (.string (X ++ L))).put (some 5) (.string (X ++ L))) (fun _ w' => Only [] wr w') ?_ ?_
        · rintro n w9 hb9
          have O9 := Lib.hid (OO.out.nil_trans hb9)
          simp only [Act.put, List.setIfInBounds_toArray, List.set_cons_succ, List.set_cons_zero]
          clear hb9
          go_wp2
          go_roundw
          case rel => exact ⟨k + 1, _, by omega, by go_num, rfl, nt_step HX.out HLD.out HT.out, O9.out⟩
          case measure => first | (simp [intOf]; done) | (simp [intOf]; omega)
        · refine wpAnyC_next [16] (by kernel_rfl) (by simp) (.inr (onlyC OW.out)) ?_
          simp only [List.mem_cons, List.not_mem_nil, or_false, forall_eq]
          refine wpOp_one rfl ?_
          go_wp2
          simp only [nrm]
          refine alloc_abs (G := wpAnyC _ _ _ _ _ _ _ _ _) ?_
          intro wx hbx hox hsx
          have BX := Lib.hid hbx; have OX := Lib.hid (OW.out.nil_trans hox)
          clear hbx hox hsx
          refine wpAnyC_next [17] (by kernel_rfl) (by simp) (.inr (onlyC OX.out)) ?_
          simp only [List.mem_cons, List.not_mem_nil, or_false, forall_eq]
          refine wpOp_one rfl ?_
          go_wp2_with fail
          refine (HRL.out ws wx BX.out).mono ?_
          rintro e w7 ⟨rfl, ho7⟩
          have O7 := Lib.hid (OX.out.nil_trans ho7)
          clear ho7
          go_wp2
          simp only [nrm]
          refine wpAnyC_next [18] (by kernel_rfl) (by simp) (.inr (onlyC O7.out)) ?_
          simp only [List.mem_cons, List.not_mem_nil, or_false, forall_eq]
          refine wpOp_one rfl ?_
          go_wp2
          simp only [nrm]
          refine wpAnyC_next [19] (by kernel_rfl) (by simp) (.inl (late_of (by kernel_rfl))) ?_
          simp only [List.mem_cons, List.not_mem_nil, or_false, forall_eq]
          refine wpOp_one rfl ?_
          go_wp2
          simp only [nrm]
          refine wpAnyC_done (by kernel_rfl) (.inl (late_of (by kernel_rfl))) ?_
          first | exact ⟨⟨ws.heap.size, rfl⟩, O7.out⟩ | exact ⟨ws.heap.size, rfl, O7.out⟩
      · obtain rfl : k = sg.length := by omega
        obtain ⟨wo, hwo⟩ : ∃ wo : World, wo = wr := ⟨_, rfl⟩
        subst hwo
        have hX1 : X.data.toList = hd ++ os ++ ((sg.take sg.length).map (sgW i)).flatMap lnT := HX.out
        rw [List.take_of_length_le (Nat.le_refl _)] at hX1
        have HX1 := Lib.hid hX1
        clear hX1 HX hxs
        go_wp2
        go_loopw [5, 7] (fun v5 v7 wr => NtR (hd ++ os ++ (sg.map (sgW i)).flatMap lnT) (fun k => ((sv.take k).map (svW i)).flatMap lnT) sv.length wo v5 v7 wr) (fun _ v7 _ => sv.length - (intOf v7).toNat)
        case atStart => exact ⟨0, _, Nat.zero_le _, rfl, rfl, by rw [HX1.out]; simp, Only.refl _ _⟩
        case round =>
          clear g1 l0
          obtain ⟨k, X, hk, rfl, rfl, hX, ho⟩ := hrel
          have HX := Lib.hid hX; have OO := Lib.hid ho; have OB := Lib.hid (OA.out.nil_trans ho); have BC := Lib.hid (ho.got BB.out (by simp))
          have hxs : X.size ≤ 6000 := by
            have h1 := size_of hX
            have h2 := sg_len I0.out (sg := sg) HSG.out
            have h3 := sv_len I0.out (sv := sv.take k) (fun s hs => HSV.out s (List.mem_of_mem_take hs))
            have h4 := List.length_take_le k sv
            rw [h1]; simp only [List.length_append]; omega
          clear hX ho
          have g6 := cell_got BC.out 6; have l0 := got_lt BC.out
          by_cases hlt : k < sv.length
          · obtain ⟨bk, off, hp, c0, lb⟩ := HW.out.it OB.out hlt
            subst hp
            have I1 := Lib.hid (HSV.out _ (List.mem_of_getElem? (getD_some 0 hlt)))
            have HT := Lib.hid (sv_snoc i hlt)
            generalize sv.getD k 0 = s at c0 I1 HT
            go_wp2_with fail
            refine alloc_abs (G := fun w0 => Calls _ _ _ w0 _) ?_
            intro wx hbx hox hsx
            have hrl := rLine ⟨#[117, 115, 101]⟩ (lit_row (ns := [i, s]) hbx (by simp)) (i64_two I0.out I1.out) (by decide) (by simp)
            have hls := line_size (W := (⟨#[117, 115, 101]⟩ : ByteArray).data.toList) (i64_two I0.out I1.out) (by decide) (by simp)
            have HLD := Lib.hid (bstr_data ((⟨#[117, 115, 101]⟩ : ByteArray).data.toList ++ numT [i, s] ++ [10]))
            generalize bstr ((⟨#[117, 115, 101]⟩ : ByteArray).data.toList ++ numT [i, s] ++ [10]) = L at hrl hls HLD
            refine hrl.mono ?_
            rintro e w7 ⟨rfl, ho7⟩
            have O7 := Lib.hid ((OO.out.nil_trans hox).nil_trans ho7)
            clear ho7 hox hbx hsx hrl c0 lb g6 l0
            have ze1 : ¬ 9223372036854775807 < X.size + L.size := by omega
            go_wp2
            go_roundw
            case rel => exact ⟨k + 1, _, by omega, by go_num, rfl, nt_step HX.out HLD.out HT.out, O7.out⟩
            case measure => first | (simp [intOf]; done) | (simp [intOf]; omega)
          · obtain rfl : k = sv.length := by omega
            have HQ : Hid (X = bstr R) := Lib.hid (by
              apply bstr_eq
              have h1 : X.data.toList = hd ++ os ++ (sg.map (sgW i)).flatMap lnT ++ ((sv.take sv.length).map (svW i)).flatMap lnT := HX.out
              rw [List.take_of_length_le (Nat.le_refl _)] at h1
              rw [h1, HR.out])
            go_wp2
            go_ret
            exact ⟨by rw [← HQ.out]; rfl, OB.out⟩
  | false =>
    simp only [Bool.false_eq_true, if_false] at HH
    go_wp2_with fail
    refine alloc_abs (G := fun w0 => Calls _ _ _ w0 _) ?_
    intro wx hbx hox hsx
    have hrl := rLine ⟨#[111, 115, 99]⟩ (lit_row (ns := [i, ph]) hbx (by simp)) (i64_two I0.out IPH.out) (by decide) (by simp)
    have hls := line_size (W := (⟨#[111, 115, 99]⟩ : ByteArray).data.toList) (i64_two I0.out IPH.out) (by decide) (by simp)
    have HLD := Lib.hid (bstr_data ((⟨#[111, 115, 99]⟩ : ByteArray).data.toList ++ numT [i, ph] ++ [10]))
    generalize bstr ((⟨#[111, 115, 99]⟩ : ByteArray).data.toList ++ numT [i, ph] ++ [10]) = L at hrl hls HLD
    refine hrl.mono ?_
    rintro e w5 ⟨rfl, ho5⟩
    have O5 := Lib.hid ((O2.out.nil_trans hox).nil_trans ho5); have B5 := Lib.hid ((hox.nil_trans ho5).got B2.out (by simp))
    clear ho5 hox hbx hsx hrl g0 g3 g4 l0
    have ze1 : ¬ 9223372036854775807 < 5 + A.size := by omega
    have ze2 : ¬ 9223372036854775807 < 5 + A.size + 5 := by omega
    have ze3 : ¬ 9223372036854775807 < 5 + A.size + 5 + B.size := by omega
    have ze4 : ¬ 9223372036854775807 < 5 + A.size + 5 + B.size + 7 := by omega
    have ze5 : ¬ 9223372036854775807 < 5 + A.size + 5 + B.size + 7 + C.size := by omega
    have ze6 : ¬ 9223372036854775807 < 5 + A.size + 5 + B.size + 7 + C.size + 1 := by omega
    have ze7 : ¬ 9223372036854775807 < 5 + A.size + 5 + B.size + 7 + C.size + 1 + L.size := by omega
    go_wp2
    clear ze1 ze2 ze3 ze4 ze5 ze6 ze7
    go_loopw [5, 6] (fun v5 v6 wr => NtR (hd ++ os) (fun k => ((sg.take k).map (sgW i)).flatMap lnT) sg.length w5 v5 v6 wr) (fun _ v6 _ => sg.length - (intOf v6).toNat)
    case atStart => exact ⟨0, _, Nat.zero_le _, rfl, rfl, by simp only [app_data, DA.out, DB.out, DC.out, HLD.out]; rw [HH.out, ← HOS.out]; simp [numT, wNode, wTol, wStart, wOsc], Only.refl _ _⟩
    case round =>
      obtain ⟨k, X, hk, rfl, rfl, hX, ho⟩ := hrel
      have HX := Lib.hid hX; have OO := Lib.hid ho; have OA := Lib.hid (O5.out.nil_trans ho); have BB := Lib.hid (ho.got B5.out (by simp))
      have hxs : X.size ≤ 3000 := by
        have h1 := size_of hX
        have h2 := sg_len I0.out (sg := sg.take k) (fun s hs => HSG.out s (List.mem_of_mem_take hs))
        have h4 := List.length_take_le k sg
        rw [h1]; simp only [List.length_append]; omega
      clear hX ho
      have g1 := cell_got BB.out 1; have l0 := got_lt BB.out
      by_cases hlt : k < sg.length
      · obtain ⟨bk, off, hp, c0, c1, lb⟩ := HV.out.sg OA.out hlt
        subst hp
        have hsI := HSG.out _ (List.mem_of_getElem? (getD_some sg0 hlt))
        have HT := Lib.hid (sg_snoc i hlt)
        generalize sg.getD k sg0 = s at c0 c1 hsI HT
        have I1 := Lib.hid hsI.1; have I2 := Lib.hid hsI.2
        clear hsI
        go_upto_region 8 with (fail)
        refine wp_region_calm2 [0, 1, 2, 3, 4, 5, 6, 7, 8, 9, 10, 11, 12, 13, 14, 15] [18, 19] (OnlyC ([] : List Nat) wr) (by kernel_rfl) (by kernel_rfl) ?_
        simp only [pick, List.map_cons, List.map_nil, List.getD_cons_succ, List.getD_cons_zero]
        iterate 16 (refine wpCalm_step (fun K hK => ?_); go_simp; refine hK _ ?_; clear hK K)
        refine wpCalm_nil ?_
        clear c0 c1 lb g1 l0
        refine wabs (G := fun w0 => Rest _ _ _ _ _ _ _ w0 _) (R := fun w0 => Only [] wr w0) (Only.refl _ _).drew ?_
        intro ws hos
        have OW := Lib.hid hos
        clear hos
        have hrl := fun (v1 v2 : World) (hb : v2.heap[v1.heap.size]? = some (.cells #[.int .i64 i, .int .i64 s.a, .int .i64 s.p] 3 (0, 0))) => rLine ⟨#[115, 101, 103]⟩ (lit_row (ns := [i, s.a, s.p]) hb (by simp)) (i64_three I0.out I1.out I2.out) (by decide) (by simp)
        have hls := line_size (W := (⟨#[115, 101, 103]⟩ : ByteArray).data.toList) (i64_three I0.out I1.out I2.out) (by decide) (by simp)
        have HLD := Lib.hid (bstr_data ((⟨#[115, 101, 103]⟩ : ByteArray).data.toList ++ numT [i, s.a, s.p] ++ [10]))
        generalize bstr ((⟨#[115, 101, 103]⟩ : ByteArray).data.toList ++ numT [i, s.a, s.p] ++ [10]) = L at hrl hls HLD
        have HRL := Lib.hid hrl
        clear hrl
        have ze1 : ¬ 9223372036854775807 < X.size + L.size := by omega
        refine Rest.by (X := Nat) (fun n a => (((a.put (some 62) (.slice (some ⟨n, 0, none⟩) 3 3)).put (some 63) (.string L)).put (some 64) (.string (X ++ L))).put (some 5) (.string (X ++ L))) (fun _ w' => Only [] wr w') ?_ ?_
        · rintro n w9 hb9
          have O9 := Lib.hid (OO.out.nil_trans hb9)
          simp only [Act.put, List.setIfInBounds_toArray, List.set_cons_succ, List.set_cons_zero]
          clear hb9
          go_wp2
          go_roundw
          case rel => exact ⟨k + 1, _, by omega, by go_num, rfl, nt_step HX.out HLD.out HT.out, O9.out⟩
          case measure => first | (simp [intOf]; done) | (simp [intOf]; omega)
        · refine wpAnyC_next [16] (by kernel_rfl) (by simp) (.inr (onlyC OW.out)) ?_
          simp only [List.mem_cons, List.not_mem_nil, or_false, forall_eq]
          refine wpOp_one rfl ?_
          go_wp2
          simp only [nrm]
          refine alloc_abs (G := wpAnyC _ _ _ _ _ _ _ _ _) ?_
          intro wx hbx hox hsx
          have BX := Lib.hid hbx; have OX := Lib.hid (OW.out.nil_trans hox)
          clear hbx hox hsx
          refine wpAnyC_next [17] (by kernel_rfl) (by simp) (.inr (onlyC OX.out)) ?_
          simp only [List.mem_cons, List.not_mem_nil, or_false, forall_eq]
          refine wpOp_one rfl ?_
          go_wp2_with fail
          refine (HRL.out ws wx BX.out).mono ?_
          rintro e w7 ⟨rfl, ho7⟩
          have O7 := Lib.hid (OX.out.nil_trans ho7)
          clear ho7
          go_wp2
          simp only [nrm]
          refine wpAnyC_next [18] (by kernel_rfl) (by simp) (.inr (onlyC O7.out)) ?_
          simp only [List.mem_cons, List.not_mem_nil, or_false, forall_eq]
          refine wpOp_one rfl ?_
          go_wp2
          simp only [nrm]
          refine wpAnyC_next [19] (by kernel_rfl) (by simp) (.inl (late_of (by kernel_rfl))) ?_
          simp only [List.mem_cons, List.not_mem_nil, or_false, forall_eq]
          refine wpOp_one rfl ?_
          go_wp2
          simp only [nrm]
          refine wpAnyC_done (by kernel_rfl) (.inl (late_of (by kernel_rfl))) ?_
          first | exact ⟨⟨ws.heap.size, rfl⟩, O7.out⟩ | exact ⟨ws.heap.size, rfl, O7.out⟩
      · obtain rfl : k = sg.length := by omega
        obtain ⟨wo, hwo⟩ : ∃ wo : World, wo = wr := ⟨_, rfl⟩
        subst hwo
        have hX1 : X.data.toList = hd ++ os ++ ((sg.take sg.length).map (sgW i)).flatMap lnT := HX.out
        rw [List.take_of_length_le (Nat.le_refl _)] at hX1
        have HX1 := Lib.hid hX1
        clear hX1 HX hxs
        go_wp2
        go_loopw [5, 7] (fun v5 v7 wr => NtR (hd ++ os ++ (sg.map (sgW i)).flatMap lnT) (fun k => ((sv.take k).map (svW i)).flatMap lnT) sv.length wo v5 v7 wr) (fun _ v7 _ => sv.length - (intOf v7).toNat)
        case atStart => exact ⟨0, _, Nat.zero_le _, rfl, rfl, by rw [HX1.out]; simp, Only.refl _ _⟩
        case round =>
          clear g1 l0
          obtain ⟨k, X, hk, rfl, rfl, hX, ho⟩ := hrel
          have HX := Lib.hid hX; have OO := Lib.hid ho; have OB := Lib.hid (OA.out.nil_trans ho); have BC := Lib.hid (ho.got BB.out (by simp))
          have hxs : X.size ≤ 6000 := by
            have h1 := size_of hX
            have h2 := sg_len I0.out (sg := sg) HSG.out
            have h3 := sv_len I0.out (sv := sv.take k) (fun s hs => HSV.out s (List.mem_of_mem_take hs))
            have h4 := List.length_take_le k sv
            rw [h1]; simp only [List.length_append]; omega
          clear hX ho
          have g6 := cell_got BC.out 6; have l0 := got_lt BC.out
          by_cases hlt : k < sv.length
          · obtain ⟨bk, off, hp, c0, lb⟩ := HW.out.it OB.out hlt
            subst hp
            have I1 := Lib.hid (HSV.out _ (List.mem_of_getElem? (getD_some 0 hlt)))
            have HT := Lib.hid (sv_snoc i hlt)
            generalize sv.getD k 0 = s at c0 I1 HT
            go_wp2_with fail
            refine alloc_abs (G := fun w0 => Calls _ _ _ w0 _) ?_
            intro wx hbx hox hsx
            have hrl := rLine ⟨#[117, 115, 101]⟩ (lit_row (ns := [i, s]) hbx (by simp)) (i64_two I0.out I1.out) (by decide) (by simp)
            have hls := line_size (W := (⟨#[117, 115, 101]⟩ : ByteArray).data.toList) (i64_two I0.out I1.out) (by decide) (by simp)
            have HLD := Lib.hid (bstr_data ((⟨#[117, 115, 101]⟩ : ByteArray).data.toList ++ numT [i, s] ++ [10]))
            generalize bstr ((⟨#[117, 115, 101]⟩ : ByteArray).data.toList ++ numT [i, s] ++ [10]) = L at hrl hls HLD
            refine hrl.mono ?_
            rintro e w7 ⟨rfl, ho7⟩
            have O7 := Lib.hid ((OO.out.nil_trans hox).nil_trans ho7)
            clear ho7 hox hbx hsx hrl c0 lb g6 l0
            have ze1 : ¬ 9223372036854775807 < X.size + L.size := by omega
            go_wp2
            go_roundw
            case rel => exact ⟨k + 1, _, by omega, by go_num, rfl, nt_step HX.out HLD.out HT.out, O7.out⟩
            case measure => first | (simp [intOf]; done) | (simp [intOf]; omega)
          · obtain rfl : k = sv.length := by omega
            have HQ : Hid (X = bstr R) := Lib.hid (by
              apply bstr_eq
              have h1 : X.data.toList = hd ++ os ++ (sg.map (sgW i)).flatMap lnT ++ ((sv.take sv.length).map (svW i)).flatMap lnT := HX.out
              rw [List.take_of_length_le (Nat.le_refl _)] at h1
              rw [h1, HR.out])
            go_wp2
            go_ret
            exact ⟨by rw [← HQ.out]; rfl, OB.out⟩
set_option maxRecDepth 100000 in
set_option maxHeartbeats 4000000 in
theorem rLinkT {w : World} (x : LkW) (hx : x.Ok w) (hn : LkI x.l) (hcl : x.l.ch.length ≤ 16) :
    Calls Tryz.prog 62 #[slV x] w fun e w' => e = .returned (.string (bstr ((lkW x.l).flatMap lnT))) ∧ Only [] w w' := by
  rw [lkT_eq]
  obtain ⟨l, pc, cc⟩ := x
  have hchl := ch_len hn.A hn.B hn.ch
  have HC := Lib.hid (fun k (hk : k < l.ch.length) => ch_snoc l hk)
  have HCL := Lib.hid (fun k => ch_len hn.A hn.B (ch := l.ch.take k) (fun c hc => hn.ch c (List.mem_of_mem_take hc)))
  have HHL : Hid (hdL l = wLink ++ numT [l.A, l.B, l.d0, l.d1, l.v0, l.v1, l.lo] ++ (32 :: Lib.decDigits l.sd.toNat ++ [10])) := Lib.hid rfl
  obtain ⟨A, B, d0, d1, v0, v1, lo, sd, ch⟩ := l
  obtain ⟨hA, hB, hd0, hd1, hv0, hv1, hlo, hsd, hch⟩ := hn
  dsimp only at hA hB hd0 hd1 hv0 hv1 hlo hsd hch hchl HC HCL HHL hcl
  obtain ⟨u, hu⟩ : ∃ u : Nat, sd = u := ⟨sd.toNat, by omega⟩
  subst hu
  have hu64 : u ≤ 18446744073709551615 := by omega
  rw [Int.toNat_natCast] at HHL
  unfold slV
  have hlen : (hdL ⟨A, B, d0, d1, v0, v1, lo, u, ch⟩).length ≤ 300 := by
    have h1 := numT_len (i64_seven hA hB hd0 hd1 hv0 hv1 hlo)
    have h2 := dec_len_le 20 u (by decide) (by omega)
    rw [HHL.out]
    simp only [List.length_append, List.length_cons, List.length_nil] at h1 ⊢
    simp [wLink]; omega
  dsimp only
  generalize hdL ⟨A, B, d0, d1, v0, v1, lo, u, ch⟩ = hd at HHL hlen ⊢
  generalize hR : hd ++ (ch.map (chW ⟨A, B, d0, d1, v0, v1, lo, u, ch⟩)).flatMap lnT = R
  generalize hCT : (fun k => ((ch.take k).map (chW ⟨A, B, d0, d1, v0, v1, lo, u, ch⟩)).flatMap lnT) = CT
  have HR : Hid (hd ++ CT ch.length = R) := Lib.hid (by rw [← hCT, ← hR]; simp)
  have HC0 : Hid (CT 0 = []) := Lib.hid (by rw [← hCT]; simp)
  have HCS : Hid (∀ k, k < ch.length → CT (k + 1) = CT k ++ (wChange ++ numT [A, B, (ch.getD k ch0).a, (ch.getD k ch0).d, (ch.getD k ch0).y] ++ [10])) := Lib.hid (fun k hk => by rw [← hCT]; exact HC.out k hk)
  have HCB : Hid (∀ k, (CT k).length ≤ 200 * ch.length) := Lib.hid (fun k => by
    have h1 := HCL.out k
    have h2 := List.length_take_le' k ch
    rw [← hCT]; dsimp only; omega)
  clear hR hCT HC HCL hchl
  have HV := Lib.hid hx.row; have HCH := Lib.hid hch; have IA := Lib.hid hA; have IB := Lib.hid hB
  dsimp only at HV
  have R1 := Lib.hid (rNumber A hA); have R2 := Lib.hid (rNumber B hB); have R3 := Lib.hid (rNumber d0 hd0); have R4 := Lib.hid (rNumber d1 hd1)
  have R5 := Lib.hid (rNumber v0 hv0); have R6 := Lib.hid (rNumber v1 hv1); have R7 := Lib.hid (rNumber lo hlo); have R8 := Lib.hid (rSeed u hu64)
  have s1 := num_size hA; have s2 := num_size hB; have s3 := num_size hd0; have s4 := num_size hd1; have s5 := num_size hv0; have s6 := num_size hv1; have s7 := num_size hlo
  have s8 : (bstr (Lib.decDigits u)).size ≤ 20 := by rw [bstr_size]; exact dec_len_le 20 u (by decide) (by omega)
  have D1 := Lib.hid (bstr_data (it A)); have D2 := Lib.hid (bstr_data (it B)); have D3 := Lib.hid (bstr_data (it d0)); have D4 := Lib.hid (bstr_data (it d1))
  have D5 := Lib.hid (bstr_data (it v0)); have D6 := Lib.hid (bstr_data (it v1)); have D7 := Lib.hid (bstr_data (it lo)); have D8 := Lib.hid (bstr_data (Lib.decDigits u))
  generalize bstr (it A) = X1 at R1 s1 D1
  generalize bstr (it B) = X2 at R2 s2 D2
  generalize bstr (it d0) = X3 at R3 s3 D3
  generalize bstr (it d1) = X4 at R4 s4 D4
  generalize bstr (it v0) = X5 at R5 s5 D5
  generalize bstr (it v1) = X6 at R6 s6 D6
  generalize bstr (it lo) = X7 at R7 s7 D7
  generalize bstr (Lib.decDigits u) = X8 at R8 s8 D8
  clear hx hch hA hB hd0 hd1 hv0 hv1 hlo hsd
  go_enter Tryz.func62, Tryz.ntmps62
  go_upto_region 1 with (fail)
  refine alloc_abs (G := fun w0 => Code.wp _ _ _ _ w0) ?_
  intro w1 hb1 ho1 hs1
  have B1 := Lib.hid hb1; have O1 := Lib.hid ho1
  clear hb1 ho1 hs1
  have g2 := cell_got B1.out 2; have g3 := cell_got B1.out 3; have g4 := cell_got B1.out 4; have g5 := cell_got B1.out 5; have g6 := cell_got B1.out 6; have g7 := cell_got B1.out 7; have g8 := cell_got B1.out 8; have l0 := got_lt B1.out
  go_upto_region 2 with (fail)
  refine alloc_abs (G := fun w0 => Code.wp _ _ _ _ w0) ?_
  intro w2 hb2 ho2 hs2
  have C2 := Lib.hid hb2; have O2 := Lib.hid (O1.out.nil_trans ho2); have B2 := Lib.hid (ho2.got B1.out (by simp))
  clear hb2 ho2 hs2 g2 g3 g4 g5 g6 g7 g8 l0 O1 B1
  have g0 := cell_got B2.out 0; have g1 := cell_got B2.out 1; have l0 := got_lt B2.out
  have c0 := cell_got C2.out 0; have c1 := cell_got C2.out 1; have c2 := cell_got C2.out 2; have c3 := cell_got C2.out 3; have c4 := cell_got C2.out 4; have c5 := cell_got C2.out 5; have lc := got_lt C2.out
  have ze1 : ¬ 9223372036854775807 < 5 + X1.size := by omega
  have ze2 : ¬ 9223372036854775807 < 5 + X1.size + 1 := by omega
  have ze3 : ¬ 9223372036854775807 < 5 + X1.size + 1 + X2.size := by omega
  have ze4 : ¬ 9223372036854775807 < 5 + X1.size + 1 + X2.size + 1 := by omega
  have ze5 : ¬ 9223372036854775807 < 5 + X1.size + 1 + X2.size + 1 + X3.size := by omega
  have ze6 : ¬ 9223372036854775807 < 5 + X1.size + 1 + X2.size + 1 + X3.size + 1 := by omega
  have ze7 : ¬ 9223372036854775807 < 5 + X1.size + 1 + X2.size + 1 + X3.size + 1 + X4.size := by omega
  have ze8 : ¬ 9223372036854775807 < 5 + X1.size + 1 + X2.size + 1 + X3.size + 1 + X4.size + 1 := by omega
  have ze9 : ¬ 9223372036854775807 < 5 + X1.size + 1 + X2.size + 1 + X3.size + 1 + X4.size + 1 + X5.size := by omega
  have ze10 : ¬ 9223372036854775807 < 5 + X1.size + 1 + X2.size + 1 + X3.size + 1 + X4.size + 1 + X5.size + 1 := by omega
  have ze11 : ¬ 9223372036854775807 < 5 + X1.size + 1 + X2.size + 1 + X3.size + 1 + X4.size + 1 + X5.size + 1 + X6.size := by omega
  have ze12 : ¬ 9223372036854775807 < 5 + X1.size + 1 + X2.size + 1 + X3.size + 1 + X4.size + 1 + X5.size + 1 + X6.size + 1 := by omega
  have ze13 : ¬ 9223372036854775807 < 5 + X1.size + 1 + X2.size + 1 + X3.size + 1 + X4.size + 1 + X5.size + 1 + X6.size + 1 + X7.size := by omega
  have ze14 : ¬ 9223372036854775807 < 5 + X1.size + 1 + X2.size + 1 + X3.size + 1 + X4.size + 1 + X5.size + 1 + X6.size + 1 + X7.size + 1 := by omega
  have ze15 : ¬ 9223372036854775807 < 5 + X1.size + 1 + X2.size + 1 + X3.size + 1 + X4.size + 1 + X5.size + 1 + X6.size + 1 + X7.size + 1 + X8.size := by omega
  have ze16 : ¬ 9223372036854775807 < 5 + X1.size + 1 + X2.size + 1 + X3.size + 1 + X4.size + 1 + X5.size + 1 + X6.size + 1 + X7.size + 1 + X8.size + 1 := by omega
  refine wp_region_grown [0, 1, 2, 3, 4, 5, 6, 7, 8, 9, 10, 11, 12, 13, 14, 15, 16, 17, 18, 19, 20, 21, 22, 23, 24, 25, 26, 27, 28, 29, 30, 31, 32, 33, 34, 35, 36, 37, 38, 39, 40, 41, 42, 43, 44] [] (by kernel_rfl) (by kernel_rfl) ?_
  simp only [pick, List.map_cons, List.map_nil, List.getD_cons_succ, List.getD_cons_zero]
  iterate 2 (refine wpQuiet_step (fun K hK => ?_); go_simp; refine hK _ ?_; clear hK K)
  refine wpQuiet_enter_w (by kernel_rfl) 63 #[.int .i64 A] (fun _ => by kernel_rfl) (.string X1) (grown_only2 fun w' _ => R1.out w') ?_
  iterate 4 (refine wpQuiet_step (fun K hK => ?_); go_simp; refine hK _ ?_; clear hK K)
  refine wpQuiet_enter_w (by kernel_rfl) 63 #[.int .i64 B] (fun _ => by kernel_rfl) (.string X2) (grown_only2 fun w' _ => R2.out w') ?_
  iterate 5 (refine wpQuiet_step (fun K hK => ?_); go_simp; refine hK _ ?_; clear hK K)
  refine wpQuiet_enter_w (by kernel_rfl) 63 #[.int .i64 d0] (fun _ => by kernel_rfl) (.string X3) (grown_only2 fun w' _ => R3.out w') ?_
  iterate 5 (refine wpQuiet_step (fun K hK => ?_); go_simp; refine hK _ ?_; clear hK K)
  refine wpQuiet_enter_w (by kernel_rfl) 63 #[.int .i64 d1] (fun _ => by kernel_rfl) (.string X4) (grown_only2 fun w' _ => R4.out w') ?_
  iterate 5 (refine wpQuiet_step (fun K hK => ?_); go_simp; refine hK _ ?_; clear hK K)
  refine wpQuiet_enter_w (by kernel_rfl) 63 #[.int .i64 v0] (fun _ => by kernel_rfl) (.string X5) (grown_only2 fun w' _ => R5.out w') ?_
  iterate 5 (refine wpQuiet_step (fun K hK => ?_); go_simp; refine hK _ ?_; clear hK K)
  refine wpQuiet_enter_w (by kernel_rfl) 63 #[.int .i64 v1] (fun _ => by kernel_rfl) (.string X6) (grown_only2 fun w' _ => R6.out w') ?_
  iterate 4 (refine wpQuiet_step (fun K hK => ?_); go_simp; refine hK _ ?_; clear hK K)
  refine wpQuiet_enter_w (by kernel_rfl) 63 #[.int .i64 lo] (fun _ => by kernel_rfl) (.string X7) (grown_only2 fun w' _ => R7.out w') ?_
  iterate 4 (refine wpQuiet_step (fun K hK => ?_); go_simp; refine hK _ ?_; clear hK K)
  refine wpQuiet_enter_w (by kernel_rfl) 60 #[.int .u64 u] (fun _ => by kernel_rfl) (.string X8) (grown_only2 fun w' _ => R8.out w') ?_
  iterate 3 (refine wpQuiet_step (fun K hK => ?_); go_simp; refine hK _ ?_; clear hK K)
  refine wpQuiet_nil ?_
  intro w3 hw3
  have O3 := Lib.hid (O2.out.nil_trans (only_of_plus hw3)); have B3 := Lib.hid ((only_of_plus hw3).got B2.out (by simp)); have C3 := Lib.hid ((only_of_plus hw3).got C2.out (by simp))
  clear hw3 g0 g1 l0 c0 c1 c2 c3 c4 c5 lc O2 B2 C2
  clear ze1 ze2 ze3 ze4 ze5 ze6 ze7 ze8 ze9 ze10 ze11 ze12 ze13 ze14 ze15 ze16
  go_wp2
  go_loopw [4, 5] (fun v4 v5 wr => NtR hd CT ch.length w3 v4 v5 wr) (fun _ v5 _ => ch.length - (intOf v5).toNat)
  case atStart => exact ⟨0, _, Nat.zero_le _, rfl, rfl, by simp only [app_data, D1.out, D2.out, D3.out, D4.out, D5.out, D6.out, D7.out, D8.out]; rw [HHL.out, HC0.out]; simp [numT, wLink], Only.refl _ _⟩
  case round =>
    obtain ⟨k, X, hk, rfl, rfl, hX, ho⟩ := hrel
    have HX := Lib.hid hX; have OO := Lib.hid ho; have OA := Lib.hid (O3.out.nil_trans ho); have BB := Lib.hid (ho.got B3.out (by simp)); have CC := Lib.hid (ho.got C3.out (by simp))
    have hxs : X.size ≤ 4000 := by
      have h1 := size_of hX
      have h2 := HCB.out k
      rw [h1]; simp only [List.length_append]; omega
    clear hX ho
    have g0 := cell_got BB.out 0; have g1 := cell_got BB.out 1; have l0 := got_lt BB.out
    have c6 := cell_got CC.out 6; have lc := got_lt CC.out
    by_cases hlt : k < ch.length
    · obtain ⟨bk, off, hp, q0, q1, q2, lb⟩ := HV.out.ch OA.out hlt
      subst hp
      have hsI := HCH.out _ (List.mem_of_getElem? (getD_some ch0 hlt))
      have HT := Lib.hid (HCS.out k hlt)
      generalize ch.getD k ch0 = s at q0 q1 q2 hsI HT
      have I1 := Lib.hid hsI.1; have I2 := Lib.hid hsI.2.1; have I3 := Lib.hid hsI.2.2
      clear hsI
      go_upto_region 6 with (fail)
      refine wp_region_calm2 [0, 1, 2, 3, 4, 5, 6, 7, 8, 9, 10, 11, 12, 13, 14, 15, 16, 17, 18, 19, 20, 21, 22] [25, 26] (OnlyC ([] : List Nat) wr) (by kernel_rfl) (by kernel_rfl) ?_
      simp only [pick, List.map_cons, List.map_nil, List.getD_cons_succ, List.getD_cons_zero]
      iterate 23 (refine wpCalm_step (fun K hK => ?_); go_simp; refine hK _ ?_; clear hK K)
      refine wpCalm_nil ?_
      clear q0 q1 q2 lb g0 g1 l0 c6 lc
      refine wabs (G := fun w0 => Rest _ _ _ _ _ _ _ w0 _) (R := fun w0 => Only [] wr w0) (Only.refl _ _).drew ?_
      intro ws hos
      have OW := Lib.hid hos
      clear hos
      have hrl := fun (v1 v2 : World) (hb : v2.heap[v1.heap.size]? = some (.cells #[.int .i64 A, .int .i64 B, .int .i64 s.a, .int .i64 s.d, .int .i64 s.y] 3 (0, 0))) => rLine ⟨#[99, 104, 97, 110, 103, 101]⟩ (lit_row (ns := [A, B, s.a, s.d, s.y]) hb (by simp)) (i64_five IA.out IB.out I1.out I2.out I3.out) (by decide) (by simp)
      have hls := line_size (W := (⟨#[99, 104, 97, 110, 103, 101]⟩ : ByteArray).data.toList) (i64_five IA.out IB.out I1.out I2.out I3.out) (by decide) (by simp)
      have HLD := Lib.hid (bstr_data ((⟨#[99, 104, 97, 110, 103, 101]⟩ : ByteArray).data.toList ++ numT [A, B, s.a, s.d, s.y] ++ [10]))
      generalize bstr ((⟨#[99, 104, 97, 110, 103, 101]⟩ : ByteArray).data.toList ++ numT [A, B, s.a, s.d, s.y] ++ [10]) = L at hrl hls HLD
      have HRL := Lib.hid hrl
      clear hrl
      have ze1 : ¬ 9223372036854775807 < X.size + L.size := by omega
      refine Rest.by (X := Nat) (fun n a => (((a.put (some 82) (.slice (some ⟨n, 0, none⟩) 5 5)).put (some 83) (.string L)).put (some 84) (.string (X ++ L))).put (some 4) (.string (X ++ L))) (fun _ w' => Only [] wr w') ?_ ?_
      · rintro n w9 hb9
        have O9 := Lib.hid (OO.out.nil_trans hb9)
        simp only [Act.put, List.setIfInBounds_toArray, List.set_cons_succ, List.set_cons_zero]
        clear hb9
        go_wp2
        go_roundw
        case rel => exact ⟨k + 1, _, by omega, by go_num, rfl, nt_step HX.out HLD.out HT.out, O9.out⟩
        case measure => first | (simp [intOf]; done) | (simp [intOf]; omega)
      · refine wpAnyC_next [23] (by kernel_rfl) (by simp) (.inr (onlyC OW.out)) ?_
        simp only [List.mem_cons, List.not_mem_nil, or_false, forall_eq]
        refine wpOp_one rfl ?_
        go_wp2
        simp only [nrm]
        refine alloc_abs (G := wpAnyC _ _ _ _ _ _ _ _ _) ?_
        intro wx hbx hox hsx
        have BX := Lib.hid hbx; have OX := Lib.hid (OW.out.nil_trans hox)
        clear hbx hox hsx
        refine wpAnyC_next [24] (by kernel_rfl) (by simp) (.inr (onlyC OX.out)) ?_
        simp only [List.mem_cons, List.not_mem_nil, or_false, forall_eq]
        refine wpOp_one rfl ?_
        go_wp2_with fail
        refine (HRL.out ws wx BX.out).mono ?_
        rintro e w7 ⟨rfl, ho7⟩
        have O7 := Lib.hid (OX.out.nil_trans ho7)
        clear ho7
        go_wp2
        simp only [nrm]
        refine wpAnyC_next [25] (by kernel_rfl) (by simp) (.inr (onlyC O7.out)) ?_
        simp only [List.mem_cons, List.not_mem_nil, or_false, forall_eq]
        refine wpOp_one rfl ?_
        go_wp2
        simp only [nrm]
        refine wpAnyC_next [26] (by kernel_rfl) (by simp) (.inl (late_of (by kernel_rfl))) ?_
        simp only [List.mem_cons, List.not_mem_nil, or_false, forall_eq]
        refine wpOp_one rfl ?_
        go_wp2
        simp only [nrm]
        refine wpAnyC_done (by kernel_rfl) (.inl (late_of (by kernel_rfl))) ?_
        first | exact ⟨⟨ws.heap.size, rfl⟩, O7.out⟩ | exact ⟨ws.heap.size, rfl, O7.out⟩
    · obtain rfl : k = ch.length := by omega
      have HQ : Hid (X = bstr R) := Lib.hid (by
        apply bstr_eq
        rw [HX.out, HR.out])
      go_wp2
      go_ret
      exact ⟨by rw [← HQ.out]; rfl, OA.out⟩
end Go.Proofs.YthmeifdgkodjlaaGreatDoor
