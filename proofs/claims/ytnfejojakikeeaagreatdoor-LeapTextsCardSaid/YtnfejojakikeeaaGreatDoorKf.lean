/- Parse of package leap. Conditions: the library's variables and the table of the months are laid; the length. -/
import Derived.Test.YtnfejojakikeeaaGreatDoorKe
namespace Go.Proofs.YtnfejojakikeeaaGreatDoor
open Go.RowKit

/-- what Parse returns -/
def PrsV (r : (Int × Int × List Le) × Int) (e : Ending) (w : World) : Prop :=
  ∃ p cap, e = .returned (.tuple #[.agg #[.int .i64 r.1.1, .int .i64 r.1.2.1, .slice p r.1.2.2.length cap], .int .i64 r.2]) ∧ VRow leC 2 w p r.1.2.2.length cap r.1.2.2
def zT : Array Value := #[.int .i64 0, .int .i64 0, .slice none 0 0]
def RdI (w : World) (r0 pb sb : Nat) (ls : List (List UInt8)) (vi : Value) (wr : World) : Prop :=
  ∃ (k : Nat) (st : PSt), k ≤ ls.length ∧ vi = .int .i64 k ∧ rdL st0 ls = rdL st (ls.drop k) ∧ st.es.length ≤ k ∧ Ps w wr pb st ∧ wr.heap[r0]? = some (.cells zT 24 (0, 0)) ∧ RowAt strC 9 1 wr sb ls.length ls
theorem mem_pcs_len {c : UInt8} : ∀ {l p : List UInt8}, p ∈ pcs c l → p.length ≤ l.length
  | [], p, h => by simp [pcs] at h; simp [h]
  | x :: r, p, h => by
    unfold pcs at h
    split at h
    · rcases List.mem_cons.1 h with rfl | h
      · simp
      · have := mem_pcs_len h; simp; omega
    · split at h
      · rename_i e; exact absurd e (pcs_ne c r)
      · rename_i q t e
        rcases List.mem_cons.1 h with rfl | h
        · have := mem_pcs_len (c := c) (l := r) (p := q) (by rw [e]; simp)
          simp; omega
        · have := mem_pcs_len (c := c) (l := r) (p := p) (by rw [e]; simp [h])
          simp; omega
theorem setO_len {k : Bool} {L : List UInt8} {st st' : PSt} {f : Int → PSt} (h : (setO k L).map f = some st') (hf : ∀ n, (f n).es = st.es) : st'.es.length ≤ st.es.length + 1 := by
  cases hs : setO k L with
  | none => rw [hs] at h; cases h
  | some n =>
    rw [hs] at h
    have h' : f n = st' := Option.some.inj h
    rw [← h', hf n]; omega
theorem entR_len {st st' : PSt} {r : Option (List Int)} (h : entR st r = some st') : st'.es.length ≤ st.es.length + 1 := by
  rcases r with _ | (_ | ⟨a, _ | ⟨b, _ | ⟨c, r⟩⟩⟩)
  · cases h
  · cases h; omega
  · cases h
  · cases h; simp
  · cases h
theorem rdO_len {st st' : PSt} {l : List UInt8} (h : rdO st l = some st') : st'.es.length ≤ st.es.length + 1 := by
  unfold rdO at h
  split at h
  · exact setO_len h (fun _ => rfl)
  · split at h
    · exact setO_len h (fun _ => rfl)
    · exact entR_len h
theorem Fr.got {pb k : Nat} {w w' : World} {o : Obj} (h : Fr pb w w') (hk : w.heap[k]? = some o) (hp : k ≠ pb) (ho : ∀ c, o ≠ .cells c 42 (0, 0)) : w'.heap[k]? = some o := by
  obtain ⟨S, hS, hm⟩ := h
  refine hS.got hk (fun hin => ?_)
  rcases hm k hin with h | ⟨c, hc⟩
  · exact hp h
  · rw [hk] at hc; exact ho c (Option.some.inj hc)
theorem Fr.row {pb g cap : Nat} {w w' : World} {l : List (List UInt8)} (h : Fr pb w w') (hr : RowAt strC 9 1 w g cap l) (hp : g ≠ pb) : RowAt strC 9 1 w' g cap l := by
  obtain ⟨cur, hg, r⟩ := hr
  exact ⟨cur, h.got hg hp (fun c hc => by cases hc), r⟩
theorem own_set3 {B r0 : Nat} {w : World} {v : Value} {l : List Le} (h : Own leC 42 2 B w v l) (hr : ∀ c, w.heap[r0]? ≠ some (.cells c 42 (0, 0))) (x y z : Value) :
    Own leC 42 2 B (((w.setCell ⟨r0, 0, none⟩ x).setCell ⟨r0, 1, none⟩ y).setCell ⟨r0, 2, none⟩ z) v l := by
  rcases h with h | ⟨g, cap, h1, h2, h3⟩
  · exact .inl h
  · refine .inr ⟨g, cap, h1, h2, h3.kept ((((Only.refl [r0] w).setCell (.inl (by simp)) _).setCell (.inl (by simp)) _).setCell (.inl (by simp)) _) ?_⟩
    intro hm
    obtain rfl : g = r0 := by simpa using hm
    obtain ⟨cur, hg, _⟩ := h3
    exact hr _ hg
set_option maxRecDepth 100000 in
set_option maxHeartbeats 2000000 in
theorem kParse (X : ByteArray) (L : List UInt8) (hL : X.data.toList = L) (hs : X.size ≤ 90000) (w : World) (he : Env w) (hd : Mdy w) :
    Calls Tryz.prog 14 #[.string X] w fun e w' => PrsV (prsK L) e w' ∧ Only [] w w' := by
  have HE := Lib.hid he; have HD := Lib.hid hd
  have hsz : X.size = L.length := by rw [← hL, Array.length_toList]; rfl
  clear he hd
  go_enter Tryz.func14, Tryz.ntmps14
  go_upto_region 2 with (fail)
  refine alloc_abs (G := fun w0 => Code.wp _ _ _ _ (w0.alloc _)) ?_
  intro w0 hb0 ho0 hs0
  have B0 := Lib.hid hb0; have O0 := Lib.hid ho0
  have hlt0 : w.heap.size < w0.heap.size := got_lt hb0
  rw [← hs0]
  clear hb0 ho0 hs0
  refine alloc_abs (G := fun w0 => Code.wp _ _ _ _ w0) ?_
  intro w1 hb1 ho1 hs1
  have B1 := Lib.hid (ho1.got B0.out (by simp)); have C1 := Lib.hid hb1; have O1 := Lib.hid (O0.out.nil_trans ho1)
  have hlt1 : w0.heap.size < w1.heap.size := got_lt hb1
  clear hb1 ho1 hs1 B0 O0
  have hsp := split_any 10 X w1 (by omega) (HE.out.kept O1.out)
  rw [hL] at hsp
  obtain ⟨ls, hls⟩ : ∃ ls, ls = pcs 10 L := ⟨_, rfl⟩
  rw [← hls] at hsp
  have hlen : ls.length ≤ 90001 := by have := pcs_length_le 10 L; rw [hls]; omega
  have hmem : ∀ p ∈ ls, p.length ≤ 90000 := fun p hp => by rw [hls] at hp; have := mem_pcs_len hp; omega
  have HR : Hid (prsK L = endK (rdL st0 ls)) := Lib.hid (by unfold prsK; rw [hls])
  have HSP := Lib.hid hsp; have HM := Lib.hid hmem
  clear hsp hls hmem
  go_wp2_with fail
  refine HSP.out.mono ?_
  rintro e w2 ⟨rfl, hr2, ho2⟩
  have B2 := Lib.hid (ho2.got B1.out (by simp)); have C2 := Lib.hid (ho2.got C1.out (by simp)); have O2 := Lib.hid (O1.out.nil_trans ho2); have R2 := Lib.hid hr2
  clear ho2 B1 O1 C1 hr2 HSP
  have HLT := Lib.hid hlt0; have HLT1 := Lib.hid hlt1
  clear hlt0 hlt1
  go_wp2
  go_loopw [11] (fun vi wr => RdI w w.heap.size w0.heap.size w1.heap.size ls vi wr) (fun vi _ => ls.length - (intOf vi).toNat)
  case atStart => exact ⟨0, st0, Nat.zero_le _, rfl, rfl, Nat.le_refl _, ⟨_, C2.out, own_nil _ _, O2.out⟩, B2.out, R2.out⟩
  case round =>
    obtain ⟨k, st, hk, rfl, hrd, hes, hps, hb, hrow⟩ := hrel
    have HRD := Lib.hid hrd; have HPS := Lib.hid hps; have HB := Lib.hid hb; have HRW := Lib.hid hrow
    clear hrd hps hb hrow
    by_cases hlt : k < ls.length
    · have hdr : ls.drop k = ls[k] :: ls.drop (k + 1) := List.drop_eq_getElem_cons hlt
      have hcell : wr.cell? ⟨w1.heap.size, k, none⟩ = some (.string (bstr ls[k])) := by
        have := HRW.out.cell (i := k) (j := 0) (x := ls[k]) strC_len (by simp) (by decide)
        simpa [strC] using this
      have hll : ls[k].length ≤ 90000 := HM.out _ (List.getElem_mem hlt)
      generalize ls[k] = l at hdr hcell hll
      have lr := HRW.out.lt
      have hread := kread (bstr l) l rfl (by rw [bstr_size]; omega) HE.out w0.heap.size st HPS.out (Nat.le_of_lt HLT.out) (by omega)
      generalize bstr l = S at hread hcell
      have HRE := Lib.hid hread
      clear hread
      have hkl : (k : Int) < (ls.length : Int) := by omega
      go_wp2_with fail
      refine HRE.out.mono ?_
      rintro e w3 ⟨hv, hfr⟩
      have B3 := Lib.hid (hfr.got HB.out (by have := HLT.out; omega) (fun c hc => by cases hc)); have R3 := Lib.hid (hfr.row HRW.out (by have := HLT1.out; omega))
      clear hfr HRE hcell lr
      cases hq : rdO st l with
      | none =>
        rw [hq] at hv
        obtain ⟨rfl, ho3⟩ := hv
        have HX : Hid (prsK L = ((0, 0, []), 19)) := Lib.hid (by rw [HR.out, HRD.out, hdr, rdL, hq]; rfl)
        have O3 := Lib.hid ho3
        clear ho3 hdr hq
        have c0 := cell_got B3.out 0; have c1 := cell_got B3.out 1; have c2 := cell_got B3.out 2
        have f0 := frozen_got B3.out 0; have f1 := frozen_got B3.out 1; have f2 := frozen_got B3.out 2
        have lc := got_lt B3.out
        unfold zT at c0 c1 c2
        go_wp2
        refine bodyPost_ret (v := .tuple #[.agg #[.int .i64 0, .int .i64 0, .slice none 0 0], .int .i64 19]) (by simp [results, Tryz.results14, go_sem, c0, c1, c2]) rfl ⟨?_, ?_⟩
        · rw [HX.out]; exact ⟨none, 0, rfl, vrow_nil _⟩
        · exact ((O3.out.setCell (.inr (Nat.le_refl _)) _).setCell (.inr (Nat.le_refl _)) _).setCell (.inr (Nat.le_refl _)) _
      | some st' =>
        rw [hq] at hv
        obtain ⟨rfl, hp3⟩ := hv
        have HP3 := Lib.hid hp3
        have HN : Hid (rdL st0 ls = rdL st' (ls.drop (k + 1))) := Lib.hid (by rw [HRD.out, hdr, rdL, hq])
        have hes' : st'.es.length ≤ k + 1 := by have := rdO_len hq; omega
        clear hp3 hdr hq
        go_wp2
        go_roundw
        case rel => exact ⟨k + 1, st', by omega, by go_num, HN.out, hes', HP3.out, B3.out, R3.out⟩
        case measure => simp [intOf]; omega
    · have hend : rdL st0 ls = some st := by rw [HRD.out, List.drop_of_length_le (by omega)]; rfl
      have HEN : Hid (prsK L = endK (some st)) := Lib.hid (by rw [HR.out, hend])
      obtain rfl : k = ls.length := by omega
      clear hend HRD
      obtain ⟨v, hbk, how, hon⟩ := HPS.out
      obtain ⟨p, cap, rfl, hvr⟩ := how.vrow leC_len
      have BK := Lib.hid hbk; have ON := Lib.hid hon; have VR := Lib.hid hvr; have OWN := Lib.hid how
      clear hbk how hon hvr HPS
      obtain ⟨sb, sx, ses, skb, ske⟩ := st
      simp only at BK VR hes HEN OWN
      have c0 := cell_got HB.out 0; have c1 := cell_got HB.out 1; have c2 := cell_got HB.out 2
      have f0 := frozen_got HB.out 0; have f1 := frozen_got HB.out 1; have f2 := frozen_got HB.out 2
      have lc := got_lt HB.out
      unfold zT at c0 c1 c2
      have k0 := cell_got BK.out 0; have k1 := cell_got BK.out 1; have k2 := cell_got BK.out 2; have k3 := cell_got BK.out 3; have k4 := cell_got BK.out 4
      have lk := got_lt BK.out
      cases skb with
      | false =>
        have HX : Hid (prsK L = ((0, 0, []), 11)) := Lib.hid (by rw [HEN.out]; simp [endK])
        go_wp2
        refine bodyPost_ret (v := .tuple #[.agg #[.int .i64 0, .int .i64 0, .slice none 0 0], .int .i64 11]) (by simp [results, Tryz.results14, go_sem, c0, c1, c2]) rfl ⟨?_, ?_⟩
        · rw [HX.out]; exact ⟨none, 0, rfl, vrow_nil _⟩
        · exact ((ON.out.setCell (.inr (Nat.le_refl _)) _).setCell (.inr (Nat.le_refl _)) _).setCell (.inr (Nat.le_refl _)) _
      | true =>
        cases ske with
        | false =>
          have HX : Hid (prsK L = ((0, 0, []), 11)) := Lib.hid (by rw [HEN.out]; simp [endK])
          go_wp2
          refine bodyPost_ret (v := .tuple #[.agg #[.int .i64 0, .int .i64 0, .slice none 0 0], .int .i64 11]) (by simp [results, Tryz.results14, go_sem, c0, c1, c2]) rfl ⟨?_, ?_⟩
          · rw [HX.out]; exact ⟨none, 0, rfl, vrow_nil _⟩
          · exact ((ON.out.setCell (.inr (Nat.le_refl _)) _).setCell (.inr (Nat.le_refl _)) _).setCell (.inr (Nat.le_refl _)) _
        | true =>
          have HCK := Lib.hid (kcheck sb sx VR.out (by omega) (HD.out.kept ON.out))
          go_wp2_with fail
          refine HCK.out.mono ?_
          rintro e w4 ⟨rfl, ho4⟩
          have B4 := Lib.hid (ho4.got HB.out (by simp)); have K4 := Lib.hid (ho4.got BK.out (by simp)); have O4 := Lib.hid (ON.out.nil_trans ho4); have V4 := Lib.hid (OWN.out.kept ho4)
          clear ho4 c0 c1 c2 f0 f1 f2 lc k0 k1 k2 k3 k4 lk HCK BK HB ON VR HRW
          have c0 := cell_got B4.out 0; have c1 := cell_got B4.out 1; have c2 := cell_got B4.out 2
          have f0 := frozen_got B4.out 0; have f1 := frozen_got B4.out 1; have f2 := frozen_got B4.out 2
          have lc := got_lt B4.out
          unfold zT at c0 c1 c2
          have k0 := cell_got K4.out 0; have k1 := cell_got K4.out 1; have k2 := cell_got K4.out 2
          have lk := got_lt K4.out
          by_cases hc : chkT sb sx ses = 0
          · have HX : Hid (prsK L = ((sb, sx, ses), 0)) := Lib.hid (by rw [HEN.out]; simp [endK, hc])
            rw [hc]
            clear hc HEN
            go_wp2
            refine bodyPost_ret (v := .tuple #[.agg #[.int .i64 sb, .int .i64 sx, .slice p ses.length cap], .int .i64 0]) (by simp [results, Tryz.results14, go_sem, c0, c1, c2]) rfl ⟨?_, ?_⟩
            · rw [HX.out]; refine ⟨p, cap, rfl, ?_⟩
              have h4 := own_set3 (r0 := w.heap.size) V4.out (fun c hc => by rw [B4.out] at hc; cases hc) (.int .i64 sb) (.int .i64 sx) (.slice p ses.length cap)
              obtain ⟨p', cap', hh, hv'⟩ := h4.vrow leC_len
              cases hh
              exact hv'
            · exact ((O4.out.setCell (.inr (Nat.le_refl _)) _).setCell (.inr (Nat.le_refl _)) _).setCell (.inr (Nat.le_refl _)) _
          · have HX : Hid (prsK L = ((0, 0, []), chkT sb sx ses)) := Lib.hid (by rw [HEN.out]; simp [endK, hc])
            have b1 : (chkT sb sx ses == 0) = false := by simp [hc]
            have b2 : (chkT sb sx ses != 0) = true := by simp [hc]
            clear hc HEN
            go_wp2
            refine bodyPost_ret (v := .tuple #[.agg #[.int .i64 0, .int .i64 0, .slice none 0 0], .int .i64 (chkT sb sx ses)]) (by simp [results, Tryz.results14, go_sem, c0, c1, c2]) rfl ⟨?_, ?_⟩
            · rw [HX.out]; exact ⟨none, 0, rfl, vrow_nil _⟩
            · exact ((O4.out.setCell (.inr (Nat.le_refl _)) _).setCell (.inr (Nat.le_refl _)) _).setCell (.inr (Nat.le_refl _)) _
end Go.Proofs.YtnfejojakikeeaaGreatDoor
