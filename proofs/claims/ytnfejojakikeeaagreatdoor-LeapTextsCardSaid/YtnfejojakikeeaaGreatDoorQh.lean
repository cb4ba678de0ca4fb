/- Parse of the reference of layer 6. Condition: the length. -/
import Derived.Test.YtnfejojakikeeaaGreatDoorQg
import Derived.Test.YtnfejojakikeeaaGreatDoorKf
import Derived.Test.YtnfejojakikeeaaGreatDoorQ6
namespace Go.Proofs.YtnfejojakikeeaaGreatDoor
open Go.RowKit

/-- where Parse stands: the line that is being read begins at f -/
def RpI (w : World) (r0 pb : Nat) (L : List UInt8) (vf vi : Value) (wr : World) : Prop :=
  ∃ (k f : Nat) (st : PSt), k ≤ L.length + 1 ∧ f ≤ k ∧ vi = .int .i64 k ∧ vf = .int .i64 f ∧ st.es.length ≤ k ∧ Ps2 w wr pb st ∧ wr.heap[r0]? = some (.cells zT 24 (0, 0)) ∧
    ((k ≤ L.length ∧ (10 : UInt8) ∉ (L.take k).drop f ∧ rdL st0 (pcs 10 L) = rdL st (pcs 10 (L.drop f))) ∨ (k = L.length + 1 ∧ f = k ∧ rdL st0 (pcs 10 L) = some st))
theorem drop_split {L : List UInt8} {k f : Nat} (hf : f ≤ k) (hk : k < L.length) : L.drop f = (L.take k).drop f ++ (L[k]'hk) :: L.drop (k + 1) := by
  rw [← List.drop_eq_getElem_cons hk]
  have h := List.take_append_drop k L
  have h2 : L.drop f = (L.take k ++ L.drop k).drop f := by rw [h]
  rw [h2, List.drop_append_of_le_length (by simp; omega)]
set_option maxRecDepth 100000 in
set_option maxHeartbeats 4000000 in
theorem rParse (X : ByteArray) (L : List UInt8) (hL : X.data.toList = L) (hs : X.size ≤ 90000) (w : World) :
    Calls Tryz.prog 15 #[.string X] w fun e w' => PrsV (prsK L) e w' ∧ Only [] w w' := by
  have hsz : X.size = L.length := by rw [← hL, Array.length_toList]; rfl
  have HR : Hid (prsK L = endK (rdL st0 (pcs 10 L))) := Lib.hid rfl
  go_enter Tryz.func15, Tryz.ntmps15
  go_upto_region 2 with (fail)
  refine alloc_abs (G := fun w0 => Code.wp _ _ _ _ (w0.alloc _)) ?_
  intro w0 hb0 ho0 hs0
  have B0 := Lib.hid hb0; have O0 := Lib.hid ho0
  have hlt0 : w.heap.size < w0.heap.size := got_lt hb0
  rw [← hs0]
  clear hb0 ho0 hs0
  refine alloc_abs (G := fun w0 => Code.wp _ _ _ _ w0) ?_
  intro w1 hb1 ho1 hs1
  have B1 := Lib.hid (ho1.got B0.out (by simp)); have C1 := Lib.hid hb1; have O1 := Lib.hid (O0.out.nil_trans ho1)
  clear hb1 ho1 hs1 B0 O0
  have HLT := Lib.hid hlt0
  clear hlt0
  go_wp2
  go_loopw [5, 6] (fun vf vi wr => RpI w w.heap.size w0.heap.size L vf vi wr) (fun _ vi _ => L.length + 1 - (intOf vi).toNat)
  case atStart => exact ⟨0, 0, st0, by omega, Nat.le_refl _, rfl, rfl, Nat.le_refl _, ⟨_, C1.out, own_nil _ _, O1.out⟩, B1.out, .inl ⟨Nat.zero_le _, by simp, by simp⟩⟩
  case round =>
    obtain ⟨k, f, st, hk, hfk, rfl, rfl, hes, hps, hb, hcase⟩ := hrel
    have HPS := Lib.hid hps; have HB := Lib.hid hb
    clear hps hb
    rcases hcase with ⟨hle, hno, hrd⟩ | ⟨hkk, hff, hend⟩
    · have HNO := Lib.hid hno; have HRD := Lib.hid hrd
      clear hno hrd
      have q0 : decide ((k : Int) ≤ (X.size : Int)) = true := by simp; omega
      have hex : X.extract f k = bstr ((L.take k).drop f) := by rw [← hL]; exact (ext_take X f k).symm
      have hll : ((L.take k).drop f).length ≤ 100000 := by simp; omega
      have hline := fun w' (h : Ps2 w w' w0.heap.size st) => rline (bstr ((L.take k).drop f)) ((L.take k).drop f) rfl (by rw [bstr_size]; exact hll) w0.heap.size st h (Nat.le_of_lt HLT.out) (by omega)
      rw [← hex] at hline
      have HLI := Lib.hid hline
      clear hline hex hll
      by_cases hlt : k < L.length
      · have q1 : decide ((k : Int) < (X.size : Int)) = true := by simp; omega
        have hki : (k : Int) < (X.size : Int) := by omega
        have hxk : X[k]'(by omega) = L[k]'hlt := by subst hL; rfl
        have hds := drop_split hfk hlt
        have htk : L.take (k + 1) = L.take k ++ [L[k]'hlt] := List.take_succ_eq_append_getElem hlt
        have hub := u8_beq (X[k]'(by omega)) 10
        rw [show ((10 : UInt8).toNat : Int) = 10 from rfl] at hub
        rw [← hxk] at hds htk
        clear hxk
        by_cases hc : X[k]'(by omega) = 10
        · have b1 : (((X[k]'(by omega)).toNat : Int) == 10) = true := by rw [← hub]; simp [hc]
          have b2 : (((X[k]'(by omega)).toNat : Int) != 10) = false := by rw [bne, b1]; rfl
          have HPC : Hid (rdL st0 (pcs 10 L) = rdL st ((L.take k).drop f :: pcs 10 (L.drop (k + 1)))) := Lib.hid (by rw [HRD.out, hds, hc, pcs_cut _ HNO.out])
          clear hds htk hub hc HRD HNO
          have hf1 : (f : Int) ≤ (k : Int) := by omega
          have hk1 : (k : Int) ≤ (X.size : Int) := by omega
          go_wp2_with fail
          refine (HLI.out wr HPS.out).mono ?_
          rintro e w3 ⟨hv, hfr⟩
          have B3 := Lib.hid (hfr.got HB.out (by have := HLT.out; omega) (fun c hc => by cases hc))
          clear hfr
          cases hq : rdO st ((L.take k).drop f) with
          | none =>
            rw [hq] at hv
            obtain ⟨rfl, ho3⟩ := hv
            have HX : Hid (prsK L = ((0, 0, []), 19)) := Lib.hid (by rw [HR.out, HPC.out, rdL, hq]; rfl)
            have O3 := Lib.hid ho3
            clear ho3 hq
            have c0 := cell_got B3.out 0; have c1 := cell_got B3.out 1; have c2 := cell_got B3.out 2
            have f0 := frozen_got B3.out 0; have f1 := frozen_got B3.out 1; have f2 := frozen_got B3.out 2
            have lc := got_lt B3.out
            unfold zT at c0 c1 c2
            go_wp2
            refine bodyPost_ret (v := .tuple #[.agg #[.int .i64 0, .int .i64 0, .slice none 0 0], .int .i64 19]) (by simp [results, Tryz.results15, go_sem, c0, c1, c2]) rfl ⟨?_, ?_⟩
            · rw [HX.out]; exact ⟨none, 0, rfl, vrow_nil _⟩
            · exact ((O3.out.setCell (.inr (Nat.le_refl _)) _).setCell (.inr (Nat.le_refl _)) _).setCell (.inr (Nat.le_refl _)) _
          | some st' =>
            rw [hq] at hv
            obtain ⟨rfl, hp3⟩ := hv
            have HP3 := Lib.hid hp3
            have HN : Hid (rdL st0 (pcs 10 L) = rdL st' (pcs 10 (L.drop (k + 1)))) := Lib.hid (by rw [HPC.out, rdL, hq])
            have hes' : st'.es.length ≤ k + 1 := by have := rdO_len hq; omega
            clear hp3 hq
            go_wp2
            go_roundw
            case rel => exact ⟨k + 1, k + 1, st', by omega, Nat.le_refl _, by go_num, by go_num, hes', HP3.out, B3.out, .inl ⟨by omega, by simp, HN.out⟩⟩
            case measure => first | (simp [intOf]; done) | (simp [intOf]; omega)
        · have b1 : (((X[k]'(by omega)).toNat : Int) == 10) = false := by rw [← hub]; simp [hc]
          have b2 : (((X[k]'(by omega)).toNat : Int) != 10) = true := by rw [bne, b1]; rfl
          have HN : Hid ((10 : UInt8) ∉ (L.take (k + 1)).drop f) := Lib.hid (by
            rw [htk, List.drop_append_of_le_length (by simp; omega)]
            intro hm
            rcases List.mem_append.1 hm with h | h
            · exact HNO.out h
            · simp only [List.mem_singleton] at h; exact hc h.symm)
          clear hds htk hub hc
          go_wp2
          go_roundw
          case rel => exact ⟨k + 1, f, st, by omega, by omega, by go_num, rfl, by omega, HPS.out, HB.out, .inl ⟨by omega, HN.out, HRD.out⟩⟩
          case measure => first | (simp [intOf]; done) | (simp [intOf]; omega)
      · obtain rfl : k = L.length := by omega
        have q1 : decide ((L.length : Int) < (X.size : Int)) = false := by simp; omega
        have HPC : Hid (rdL st0 (pcs 10 L) = rdL st [(L.take L.length).drop f]) := Lib.hid (by
          rw [HRD.out]
          have h := HNO.out
          rw [List.take_length] at h ⊢
          rw [pcs_no h])
        clear HRD HNO
        have hf1 : (f : Int) ≤ (L.length : Int) := by omega
        have hk1 : (L.length : Int) ≤ (X.size : Int) := by omega
        go_wp2_with fail
        refine (HLI.out wr HPS.out).mono ?_
        rintro e w3 ⟨hv, hfr⟩
        have B3 := Lib.hid (hfr.got HB.out (by have := HLT.out; omega) (fun c hc => by cases hc))
        clear hfr
        cases hq : rdO st ((L.take L.length).drop f) with
        | none =>
          rw [hq] at hv
          obtain ⟨rfl, ho3⟩ := hv
          have HX : Hid (prsK L = ((0, 0, []), 19)) := Lib.hid (by rw [HR.out, HPC.out, rdL, hq]; rfl)
          have O3 := Lib.hid ho3
          clear ho3 hq
          have c0 := cell_got B3.out 0; have c1 := cell_got B3.out 1; have c2 := cell_got B3.out 2
          have f0 := frozen_got B3.out 0; have f1 := frozen_got B3.out 1; have f2 := frozen_got B3.out 2
          have lc := got_lt B3.out
          unfold zT at c0 c1 c2
          go_wp2
          refine bodyPost_ret (v := .tuple #[.agg #[.int .i64 0, .int .i64 0, .slice none 0 0], .int .i64 19]) (by simp [results, Tryz.results15, go_sem, c0, c1, c2]) rfl ⟨?_, ?_⟩
          · rw [HX.out]; exact ⟨none, 0, rfl, vrow_nil _⟩
          · exact ((O3.out.setCell (.inr (Nat.le_refl _)) _).setCell (.inr (Nat.le_refl _)) _).setCell (.inr (Nat.le_refl _)) _
        | some st' =>
          rw [hq] at hv
          obtain ⟨rfl, hp3⟩ := hv
          have HP3 := Lib.hid hp3
          have HN : Hid (rdL st0 (pcs 10 L) = some st') := Lib.hid (by rw [HPC.out, rdL, hq]; rfl)
          have hes' : st'.es.length ≤ L.length + 1 := by have := rdO_len hq; omega
          clear hp3 hq
          go_wp2
          go_roundw
          case rel => exact ⟨L.length + 1, L.length + 1, st', by omega, Nat.le_refl _, by go_num, by go_num, hes', HP3.out, B3.out, .inr ⟨rfl, rfl, HN.out⟩⟩
          case measure => first | (simp [intOf]; done) | (simp [intOf]; omega)
    · have q0 : decide ((k : Int) ≤ (X.size : Int)) = false := by simp; omega
      have HEN : Hid (prsK L = endK (some st)) := Lib.hid (by rw [HR.out, hend])
      clear hend
      obtain ⟨v, hbk, how, hon⟩ := HPS.out
      obtain ⟨p, cap, rfl, hvr⟩ := how.vrow leC_len
      have BK := Lib.hid hbk; have ON := Lib.hid hon; have VR := Lib.hid hvr; have OWN := Lib.hid how
      clear hbk how hon hvr HPS
      obtain ⟨sb, sx, ses, skb, ske⟩ := st
      simp only at BK VR hes HEN OWN
      have c0 := cell_got HB.out 0; have c1 := cell_got HB.out 1; have c2 := cell_got HB.out 2
      have f0 := frozen_got HB.out 0; have f1 := frozen_got HB.out 1; have f2 := frozen_got HB.out 2
      have lc := got_lt HB.out
      unfold zT at c0 c1 c2
      have k0 := cell_got BK.out 0; have k1 := cell_got BK.out 1; have k2 := cell_got BK.out 2; have k3 := cell_got BK.out 3; have k4 := cell_got BK.out 4
      have lk := got_lt BK.out
      cases ske with
      | false =>
        have HX : Hid (prsK L = ((0, 0, []), 11)) := Lib.hid (by rw [HEN.out]; simp [endK])
        go_wp2
        refine bodyPost_ret (v := .tuple #[.agg #[.int .i64 0, .int .i64 0, .slice none 0 0], .int .i64 11]) (by simp [results, Tryz.results15, go_sem, c0, c1, c2]) rfl ⟨?_, ?_⟩
        · rw [HX.out]; exact ⟨none, 0, rfl, vrow_nil _⟩
        · exact ((ON.out.setCell (.inr (Nat.le_refl _)) _).setCell (.inr (Nat.le_refl _)) _).setCell (.inr (Nat.le_refl _)) _
      | true =>
        cases skb with
        | false =>
          have HX : Hid (prsK L = ((0, 0, []), 11)) := Lib.hid (by rw [HEN.out]; simp [endK])
          go_wp2
          refine bodyPost_ret (v := .tuple #[.agg #[.int .i64 0, .int .i64 0, .slice none 0 0], .int .i64 11]) (by simp [results, Tryz.results15, go_sem, c0, c1, c2]) rfl ⟨?_, ?_⟩
          · rw [HX.out]; exact ⟨none, 0, rfl, vrow_nil _⟩
          · exact ((ON.out.setCell (.inr (Nat.le_refl _)) _).setCell (.inr (Nat.le_refl _)) _).setCell (.inr (Nat.le_refl _)) _
        | true =>
          have HCK := Lib.hid (rCheck sb sx VR.out (by omega))
          go_wp2_with fail
          refine HCK.out.mono ?_
          rintro e w4 ⟨rfl, ho4⟩
          have B4 := Lib.hid (ho4.got HB.out (by simp)); have K4 := Lib.hid (ho4.got BK.out (by simp)); have O4 := Lib.hid (ON.out.nil_trans ho4); have V4 := Lib.hid (OWN.out.kept ho4)
          clear ho4 c0 c1 c2 f0 f1 f2 lc k0 k1 k2 k3 k4 lk HCK BK HB ON VR
          have c0 := cell_got B4.out 0; have c1 := cell_got B4.out 1; have c2 := cell_got B4.out 2
          have f0 := frozen_got B4.out 0; have f1 := frozen_got B4.out 1; have f2 := frozen_got B4.out 2
          have lc := got_lt B4.out
          unfold zT at c0 c1 c2
          have k0 := cell_got K4.out 0; have k1 := cell_got K4.out 1; have k2 := cell_got K4.out 2
          have lk := got_lt K4.out
          by_cases hc : chkT sb sx ses = 0
          · have HX : Hid (prsK L = ((sb, sx, ses), 0)) := Lib.hid (by rw [HEN.out]; simp [endK, hc])
            rw [hc]
            clear hc HEN
            go_wp2
            refine bodyPost_ret (v := .tuple #[.agg #[.int .i64 sb, .int .i64 sx, .slice p ses.length cap], .int .i64 0]) (by simp [results, Tryz.results15, go_sem, c0, c1, c2]) rfl ⟨?_, ?_⟩
            · rw [HX.out]; refine ⟨p, cap, rfl, ?_⟩
              have h4 := own_set3 (r0 := w.heap.size) V4.out (fun c hc => by rw [B4.out] at hc; cases hc) (.int .i64 sb) (.int .i64 sx) (.slice p ses.length cap)
              obtain ⟨p', cap', hh, hv'⟩ := h4.vrow leC_len
              cases hh
              exact hv'
            · exact ((O4.out.setCell (.inr (Nat.le_refl _)) _).setCell (.inr (Nat.le_refl _)) _).setCell (.inr (Nat.le_refl _)) _
          · have HX : Hid (prsK L = ((0, 0, []), chkT sb sx ses)) := Lib.hid (by rw [HEN.out]; simp [endK, hc])
            have b1 : (chkT sb sx ses == 0) = false := by simp [hc]
            have b2 : (chkT sb sx ses != 0) = true := by simp [hc]
            clear hc HEN
            go_wp2
            refine bodyPost_ret (v := .tuple #[.agg #[.int .i64 0, .int .i64 0, .slice none 0 0], .int .i64 (chkT sb sx ses)]) (by simp [results, Tryz.results15, go_sem, c0, c1, c2]) rfl ⟨?_, ?_⟩
            · rw [HX.out]; exact ⟨none, 0, rfl, vrow_nil _⟩
            · exact ((O4.out.setCell (.inr (Nat.le_refl _)) _).setCell (.inr (Nat.le_refl _)) _).setCell (.inr (Nat.le_refl _)) _
end Go.Proofs.YtnfejojakikeeaaGreatDoor
