/- The walks of ntpmsg.put (of one number of four bytes), isCode and Kiss. Conditions: those named in each theorem. -/
import Derived.Test.YtikjdmbfjkbndaaGreatWa
import Derived.Laws.BytesArg
namespace Go.Proofs.YtikjdmbfjkbndaaGreat
open Go.RowKit

def upI (z : Int) : Bool := wth z 65 90
/-- the code of a kiss, out of the reference id -/
def kissS (x : Nat) : ByteArray × Bool := if (be x 4).all upI = true then (strOfNums (be x 4), true) else (⟨#[]⟩, false)
def kissP (p : Np) : ByteArray × Bool := if p.strat = 0 then kissS p.rid.toNat else (⟨#[]⟩, false)
theorem be_bd (x s : Nat) : ∀ z ∈ be x s, 0 ≤ z ∧ z ≤ 255 := by
  intro z hz
  unfold be at hz
  obtain ⟨i, _, rfl⟩ := List.mem_map.1 hz
  unfold beAt
  omega
set_option maxRecDepth 100000 in
set_option maxHeartbeats 1000000 in
theorem pPut {w : World} {b : Nat} (x : Nat) (hx : x < 4294967296) (hb : w.heap[b]? = some (.cells #[.int .u64 x, .int .u64 4] 22 (0, 0))) :
    Calls Tryz.prog 220 #[.slice (some ⟨b, 0, none⟩) 2 2] w fun e w' => ∃ g, e = .returned (.slice (some ⟨g, 0, none⟩) 4 4) ∧ RowAt bE 5 1 w' g 4 (be x 4) ∧ Only [] w w' := by
  have BB := Lib.hid hb
  have hlt := got_lt hb
  clear hb
  go_enter Tryz.func220, Tryz.ntmps220
  go_wp2
  go_loopw [3, 4] (fun vb vi wr => (vb = .slice none 0 0 ∧ vi = .int .i64 0 ∧ Only [] w wr) ∨ (∃ g, vb = .slice (some ⟨g, 0, none⟩) 4 4 ∧ vi = .int .i64 2 ∧ RowAt bE 5 1 wr g 4 (be x 4) ∧ Only [] w wr)) (fun _ vi _ => 2 - (intOf vi).toNat)
  case atStart => exact .inl ⟨rfl, rfl, Only.refl _ _⟩
  case round =>
    rcases hrel with ⟨rfl, rfl, ho⟩ | ⟨g, rfl, rfl, hr, ho⟩
    · have OO := Lib.hid ho
      have k0 := cell_got (ho.got BB.out (by simp)) 0; have k1 := cell_got (ho.got BB.out (by simp)) 1; have lb := got_lt (ho.got BB.out (by simp))
      have HA := Lib.hid (fun w' => wappend (w := w') (p := none) (n := 0) (cap := 0) (bs := []) (vrow_nil w') x 4 (by omega) (by omega) (by simpa using hx) (by omega))
      have hw1 : IntKind.i64.wrap 1 = 1 := by decide
      have hw4 : IntKind.i64.wrap 4 = 4 := by decide
      clear ho
      go_wp2_with fail
      refine wp_region_calm2 [0, 1, 2, 3, 4, 5, 6, 7, 8, 9, 10] [] (OnlyC ([] : List Nat) wr) (by kernel_rfl) (by kernel_rfl) ?_
      simp only [pick, List.map_cons, List.map_nil, List.getD_cons_succ, List.getD_cons_zero]
      iterate 11 (refine wpCalm_step (fun K hK => ?_); go_simp; refine hK _ ?_; clear hK K)
      refine wpCalm_nil ?_
      refine Rest.by (X := Nat) (fun g a => ((((a.put (some 24) (.tuple #[.slice (some ⟨g, 0, none⟩) 4 4, .int .i64 0])).put (some 12) (.tuple #[.slice (some ⟨g, 0, none⟩) 4 4, .int .i64 0])).put (some 25) (.slice (some ⟨g, 0, none⟩) 4 4)).put (some 26) (.int .i64 0)).put (some 3) (.slice (some ⟨g, 0, none⟩) 4 4)) (fun g w' => RowAt bE 5 1 w' g 4 (be x 4) ∧ Only [] wr w') ?_ ?_
      rotate_left
      · have O0 := Lib.hid (Only.refl [] wr).drew
        refine wpAnyC_next [11] (by kernel_rfl) (by simp) (.inr (onlyC O0.out)) ?_
        simp only [List.mem_cons, List.not_mem_nil, or_false, forall_eq]
        refine wpOp_one rfl ?_
        go_wp2_with fail
        refine (HA.out _).mono ?_
        rintro e w3 ⟨rfl, hr3, ho3⟩
        have R3 := Lib.hid hr3
        replace O0 := Lib.hid (O0.out.nil_trans ho3)
        clear hr3 ho3 HA k0 k1 lb
        go_wp2
        simp only [nrm]
        refine wpAnyC_next [12] (by kernel_rfl) (by simp) (.inr (onlyC O0.out)) ?_
        simp only [List.mem_cons, List.not_mem_nil, or_false, forall_eq]
        refine wpOp_one rfl ?_
        go_wp2
        simp only [nrm]
        refine wpAnyC_next [13, 14] (by kernel_rfl) (by simp) (.inr (onlyC O0.out)) ?_
        simp only [List.mem_cons, List.not_mem_nil, or_false, forall_eq_or_imp, forall_eq]
        refine ⟨?_, ?_⟩
        · refine wpOp_one rfl ?_
          go_wp2
          simp only [nrm]
          refine wpAnyC_next [14, 15] (by kernel_rfl) (by simp) (.inr (onlyC O0.out)) ?_
          simp only [List.mem_cons, List.not_mem_nil, or_false, forall_eq_or_imp, forall_eq]
          refine ⟨?_, ?_⟩
          · refine wpOp_one rfl ?_
            go_wp2
            simp only [nrm]
            refine wpAnyC_next [15] (by kernel_rfl) (by simp) (.inr (onlyC O0.out)) ?_
            simp only [List.mem_cons, List.not_mem_nil, or_false, forall_eq]
            refine wpOp_one rfl ?_
            go_wp2
            simp only [nrm]
            exact wpAnyC_done (by kernel_rfl) (.inr (onlyC O0.out)) ⟨wr.heap.size, by simp [Act.put], by simpa using R3.out, O0.out⟩
          · refine wpOp_one rfl ?_
            go_wp2
            simp only [nrm]
            refine wpAnyC_next [14] (by kernel_rfl) (by simp) (.inr (onlyC O0.out)) ?_
            simp only [List.mem_cons, List.not_mem_nil, or_false, forall_eq]
            refine wpOp_one rfl ?_
            go_wp2
            simp only [nrm]
            exact wpAnyC_done (by kernel_rfl) (.inr (onlyC O0.out)) ⟨wr.heap.size, by simp [Act.put], by simpa using R3.out, O0.out⟩
        · refine wpOp_one rfl ?_
          go_wp2
          simp only [nrm]
          refine wpAnyC_next [13] (by kernel_rfl) (by simp) (.inr (onlyC O0.out)) ?_
          simp only [List.mem_cons, List.not_mem_nil, or_false, forall_eq]
          refine wpOp_one rfl ?_
          go_wp2
          simp only [nrm]
          refine wpAnyC_next [15] (by kernel_rfl) (by simp) (.inr (onlyC O0.out)) ?_
          simp only [List.mem_cons, List.not_mem_nil, or_false, forall_eq]
          refine wpOp_one rfl ?_
          go_wp2
          simp only [nrm]
          exact wpAnyC_done (by kernel_rfl) (.inr (onlyC O0.out)) ⟨wr.heap.size, by simp [Act.put], by simpa using R3.out, O0.out⟩
      rintro g w3 ⟨hr3, ho3⟩
      simp only [Act.put, List.setIfInBounds_toArray, List.set_cons_succ, List.set_cons_zero]
      have R3 := Lib.hid hr3; have O3 := Lib.hid (OO.out.nil_trans ho3)
      clear hr3 ho3 HA k0 k1 lb
      go_wp2
      go_roundw
      case rel => exact .inr ⟨_, rfl, by go_num, by simpa using R3.out, O3.out⟩
      case measure => first | (simp [intOf]; done) | (simp [intOf]; omega)
    · have OO := Lib.hid ho; have RR := Lib.hid hr
      clear ho hr
      go_wp2
      go_ret
      exact ⟨g, rfl, RR.out, OO.out⟩
set_option maxRecDepth 100000 in
set_option maxHeartbeats 1000000 in
theorem pIsCode (xs : List Int) (hl : xs.length = 4) (hb : ∀ z ∈ xs, 0 ≤ z ∧ z ≤ 255) (w : World) :
    Calls Tryz.prog 221 #[.string (strOfNums xs)] w fun e w' => e = .returned (.bool (xs.all upI)) ∧ Only [] w w' := by
  have HG : Hid (∀ k (h : k < (strOfNums xs).size) (hk : k < xs.length), (((strOfNums xs)[k]).toNat : Int) = xs[k]) := Lib.hid (by
    intro k h hk
    have hd := strOfNums_data xs
    have h1 : (strOfNums xs).data.toList[k]? = some ((strOfNums xs)[k]) := by
      rw [List.getElem?_eq_getElem (by rw [Array.length_toList]; exact h)]; rfl
    rw [hd, List.getElem?_map, List.getElem?_eq_getElem hk] at h1
    simp only [Option.map_some, Option.some.injEq] at h1
    rw [← h1]
    have := hb _ (List.getElem_mem hk)
    have h2 : xs[k].toNat < 256 := by omega
    have h3 : (UInt8.ofNat xs[k].toNat).toNat = xs[k].toNat % 256 := rfl
    rw [h3]
    omega)
  have hsz : (strOfNums xs).size = 4 := by rw [strOfNums_size, hl]
  generalize strOfNums xs = S at HG hsz ⊢
  have HL := Lib.hid hl
  have HU : Hid (∀ k (hk : k < xs.length), (xs.take (k + 1)).all upI = ((xs.take k).all upI && upI xs[k])) := Lib.hid (by
    intro k hk
    rw [List.take_succ_eq_append_getElem hk, List.all_append]; simp)
  have HF : Hid (∀ k (hk : k < xs.length), upI xs[k] = false → xs.all upI = false) := Lib.hid (by
    intro k hk h
    rw [List.all_eq_false]
    exact ⟨xs[k], List.getElem_mem hk, by simp [h]⟩)
  have HT : Hid ((xs.take 4).all upI = xs.all upI) := Lib.hid (by rw [List.take_of_length_le (by omega)])
  have HB := Lib.hid hb
  clear hl hb
  go_enter Tryz.func221, Tryz.ntmps221
  go_wp2_with fail
  go_loopw [9] (fun vi wr => ∃ k : Nat, k ≤ 4 ∧ vi = .int .i64 k ∧ (xs.take k).all upI = true ∧ Only [] w wr) (fun vi _ => 4 - (intOf vi).toNat)
  case atStart => exact ⟨0, by omega, rfl, rfl, Only.refl _ _⟩
  case round =>
    obtain ⟨k, hk, rfl, hall, ho⟩ := hrel
    have OO := Lib.hid ho; have HA := Lib.hid hall
    clear ho hall
    by_cases hlt : k < 4
    · have hkx : k < xs.length := by rw [HL.out]; exact hlt
      have hkS : k < S.size := by rw [hsz]; exact hlt
      have hg := HG.out k hkS hkx
      have hzb := HB.out _ (List.getElem_mem hkx)
      have hu := HU.out k hkx
      rw [HA.out] at hu
      have hf := HF.out k hkx
      generalize xs[k] = z at hg hzb hu hf
      have HU2 := Lib.hid hu; have HF2 := Lib.hid hf
      clear hu hf
      by_cases h1 : z < 65
      · have a1 : decide (z < 65) = true := decide_eq_true h1
        have HR : Hid (xs.all upI = false) := Lib.hid (HF2.out (by unfold upI; rw [wth_no]; omega))
        go_wp2
        go_ret
        exact ⟨by rw [HR.out]; rfl, OO.out⟩
      · have a1 : decide (z < 65) = false := decide_eq_false h1
        by_cases h2 : 90 < z
        · have a2 : decide (90 < z) = true := decide_eq_true h2
          have HR : Hid (xs.all upI = false) := Lib.hid (HF2.out (by unfold upI; rw [wth_no]; omega))
          go_wp2
          go_ret
          exact ⟨by rw [HR.out]; rfl, OO.out⟩
        · have a2 : decide (90 < z) = false := decide_eq_false h2
          have HN : Hid ((xs.take (k + 1)).all upI = true) := Lib.hid (by rw [HU2.out, show upI z = true from by unfold upI; rw [wth_iff]; omega]; rfl)
          go_wp2
          go_roundw
          case rel => exact ⟨k + 1, by omega, by go_num, HN.out, OO.out⟩
          case measure => first | (simp [intOf]; done) | (simp [intOf]; omega)
    · obtain rfl : k = 4 := by omega
      have HR : Hid (xs.all upI = true) := Lib.hid (by rw [← HT.out]; exact HA.out)
      go_wp2
      go_ret
      exact ⟨by rw [HR.out]; rfl, OO.out⟩
set_option maxRecDepth 100000 in
set_option maxHeartbeats 1000000 in
theorem pKiss (p : Np) (hp : 0 ≤ p.rid ∧ p.rid ≤ 4294967295) (w : World) :
    Calls Tryz.prog 136 #[npV p] w fun e w' => e = .returned (.tuple #[.string (kissP p).1, .bool (kissP p).2]) ∧ Only [] w w' := by
  have HE : Hid (kissP p = if p.strat = 0 then kissS p.rid.toNat else (⟨#[]⟩, false)) := Lib.hid rfl
  generalize kissP p = res at HE ⊢
  obtain ⟨p1, p2, p3, p4, p5, p6, p7, p8, p9, pa, pb, pc, pd⟩ := p
  dsimp only at hp HE
  unfold npV
  dsimp only
  by_cases hz : p4 = 0
  · subst hz
    obtain ⟨x, rfl⟩ : ∃ x : Nat, p9 = (x : Int) := ⟨p9.toNat, by omega⟩
    have hx : x < 4294967296 := by omega
    have hxw : IntKind.u64.wrap (x : Int) = (x : Int) := by rw [IntKind.wrap_u64]; omega
    have HR : Hid (res = if (be x 4).all upI = true then (strOfNums (be x 4), true) else (⟨#[]⟩, false)) := Lib.hid (by rw [HE.out, if_pos rfl]; rfl)
    have HI := Lib.hid (fun w' => pIsCode (be x 4) (be_length x 4) (be_bd x 4) w')
    have HP := Lib.hid (fun (w' : World) b hb => pPut (w := w') (b := b) x hx hb)
    clear HE hp
    generalize (be x 4).all upI = ok at HR HI
    go_enter Tryz.func136, Tryz.ntmps136
    go_upto_region 1 with (fail)
    refine alloc_abs (G := fun w0 => Code.wp _ _ _ _ w0) ?_
    intro w1 hb1 ho1 hs1
    have B1 := Lib.hid hb1; have OO := Lib.hid ho1
    clear hb1 ho1 hs1
    have k3 := cell_got B1.out 3; have k8 := cell_got B1.out 8; have l1 := got_lt B1.out
    go_wp2_with fail
    refine alloc_abs (G := fun w0 => Calls _ _ _ w0 _) ?_
    intro w2 hb2 ho2 hs2
    have O2 := Lib.hid (OO.out.nil_trans ho2)
    refine (HP.out w2 _ hb2).mono ?_
    rintro e w3 ⟨g, rfl, hr, ho3⟩
    have O3 := Lib.hid (O2.out.nil_trans ho3)
    have CV := Lib.hid (run_convert_bytes_arg (P := Tryz.prog) w3 254 5 Tryz.underlying254 Tryz.underlying5 g 0 4 4 (be x 4) (be_length x 4) (fun i hi => by
      obtain ⟨b', off, hp', _, hc⟩ := (RowAt.vrow (enc := bE) (s := 1) (fun _ => rfl) hr (be_length x 4).symm).cell i (be x 4)[i] (List.getElem?_eq_getElem (by rw [be_length]; exact hi))
      simp only [Option.some.injEq, Addr.mk.injEq, and_true] at hp'
      obtain ⟨rfl, rfl⟩ := hp'
      have := hc 0 _ rfl
      simp only [Nat.mul_one, Nat.add_zero] at this
      rw [this, List.getD_eq_getElem?_getD, List.getElem?_eq_getElem (by rw [be_length]; exact hi)]; rfl) 9 Tryz.underlying9)
    have cv := CV.out
    clear hb2 ho2 hs2 hr ho3 HP O2 k3 k8 l1
    generalize strOfNums (be x 4) = S at HR HI cv
    go_wp2_with fail
    refine (HI.out w3).mono ?_
    rintro e w4 ⟨rfl, ho4⟩
    have O4 := Lib.hid (O3.out.nil_trans ho4)
    clear ho4 HI cv CV
    cases ok
    · obtain rfl : res = (⟨#[]⟩, false) := by have := HR.out; simpa using this
      go_wp2
      go_ret2
      exact ⟨rfl, O4.out⟩
    · obtain rfl : res = (S, true) := by have := HR.out; simpa using this
      go_wp2
      go_ret2
      exact ⟨rfl, O4.out⟩
  · have q1 : (p4 != 0) = true := by simpa using hz
    obtain rfl : res = (⟨#[]⟩, false) := by rw [HE.out, if_neg hz]
    clear HE
    go_enter Tryz.func136, Tryz.ntmps136
    go_upto_region 1 with (fail)
    refine alloc_abs (G := fun w0 => Code.wp _ _ _ _ w0) ?_
    intro w1 hb1 ho1 hs1
    have B1 := Lib.hid hb1; have OO := Lib.hid ho1
    clear hb1 ho1 hs1
    have k3 := cell_got B1.out 3; have l1 := got_lt B1.out
    go_wp2
    go_ret2
    exact ⟨rfl, OO.out⟩
end Go.Proofs.YtikjdmbfjkbndaaGreat
