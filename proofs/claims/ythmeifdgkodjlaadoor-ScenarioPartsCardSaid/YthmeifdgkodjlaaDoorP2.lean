/- Parse of package scenario. Conditions: the library's variables are laid; the lengths. -/
import Derived.Test.YthmeifdgkodjlaaDoorP1
namespace Go.Proofs.YthmeifdgkodjlaaDoor
open Go.RowKit Go.Shelf
attribute [local go_sem] Oper.semAt_some

theorem drew_got {w : World} {k : Nat} {o : Obj} (h : w.heap[k]? = some o) : w.drew.heap[k]? = some o := h
theorem ko_drew {w w' : World} (h : KeepsOthers w w') : KeepsOthers w w'.drew := ⟨h.size, h.same⟩
theorem put_other {w : World} {D k : Nat} {o o' : Obj} (hne : k ≠ D) (h : w.heap[k]? = some o) : (w.putObj D o').heap[k]? = some o := by rw [World.putObj_heap_other hne]; exact h
theorem put_only {w W : World} {D : Nat} {o : Obj} (hw : Only [] w W) (hD : w.heap.size ≤ D) : Only [] w (W.putObj D o) :=
  hw.trans ((Only.refl [D] W).grown (grownBy_putObj' W D o) (fun k hk => .inl (by cases hk; simp))) (fun k hk => .inr (by rw [List.mem_singleton] at hk; omega))
theorem zero_ok (w : World) : ScW.Ok w ⟨[], [], [], 0, 0, none, 0, none, 0, none, 0⟩ := ⟨vrow_nil w, vrow_nil w, vrow_nil w, by simp, by simp, by simp, by simp, by simp⟩
theorem prsR_bad {w : World} {r : Sc × Nat × Int} {m : Nat} {e : Int} (h : r = (sc0, m, e)) : PrsR r (.returned (.tuple #[.agg #[.slice none 0 0, .slice none 0 0, .slice none 0 0, .int .i64 0, .int .u64 0], .int .i64 m, .int .i64 e])) w := by
  subst h
  exact ⟨_, rfl, zero_ok w, rfl⟩
set_option maxRecDepth 100000 in
set_option maxHeartbeats 1000000 in
theorem pParse (X : ByteArray) (L : List UInt8) (hL : X.data.toList = L) (hs : X.size ≤ 1000000) (hlp : ∀ p ∈ pcs 10 L, p.length ≤ 99999) (hN : (lnsO 1 (pcs 10 L)).length ≤ 99999) (w : World) (he : Env w) :
    Calls Tryd.prog 10 #[.string X] w fun e w' => PrsR (prsS L) e w' ∧ Only [] w w' := by
  have HE := Lib.hid he
  have HLP := Lib.hid hlp
  clear he
  refine (callsIn_wide (n := 5)).1 ?_
  refine callsIn_of_wp_marks Tryd.func10 rfl trivial ?_ rfl
  simp only [Tryd.ntmps10, List.size_toArray, List.length_cons, List.length_nil, Nat.reduceAdd, Nat.reduceSub, Array.replicate_succ, Array.replicate_zero, List.push_toArray, List.append_toArray, List.nil_append, List.cons_append]
  gi_wp2_with (refine ⟨trivial, ?_⟩; gi_at_call 29; fail)
  refine ⟨trivial, ?_⟩
  refine (lines_in _ X _).mono ?_
  rintro e w' ⟨rfl, rfl⟩
  gi_wp2
  refine wabs (G := fun W0 => Code.wpIn _ _ _ _ _ _ W0) (R := fun W0 => W0.heap[w.heap.size]? = some (.cells zSc 27 (0, 0)) ∧ W0.heap[w.heap.size + 1]? = some (.cells #[.int .i64 0] 3 (0, 0)) ∧ W0.heap[w.heap.size + 1 + 1]? = some (.cells #[.int .i64 0] 30 (0, 0)) ∧ W0.heap[w.heap.size + 1 + 1 + 1]? = some (.cells #[.slice none 0 0, .slice none 0 0, .slice none 0 0, .int .i64 0, .int .u64 0, .int .i64 0] 81 (0, 0)) ∧ W0.heap[w.heap.size + 1 + 1 + 1 + 1]? = some (.cells #[.int .i64 0] 3 (0, 0)) ∧ W0.heap[w.heap.size + 1 + 1 + 1 + 1 + 1]? = some (.cells #[.string X] 9 (0, 0)) ∧ Only [] w W0 ∧ W0.heap.size = w.heap.size + 1 + 1 + 1 + 1 + 1 + 1) ?_ ?_
  · have k0 := alloc_new w (.cells zSc 27)
    have k1 := alloc_new (w.alloc (.cells zSc 27)) (.cells #[.int .i64 0] 3)
    have k2 := alloc_new ((w.alloc (.cells zSc 27)).alloc (.cells #[.int .i64 0] 3)) (.cells #[.int .i64 0] 30)
    have k3 := alloc_new (((w.alloc (.cells zSc 27)).alloc (.cells #[.int .i64 0] 3)).alloc (.cells #[.int .i64 0] 30)) (.cells #[.slice none 0 0, .slice none 0 0, .slice none 0 0, .int .i64 0, .int .u64 0, .int .i64 0] 81)
    have k4 := alloc_new ((((w.alloc (.cells zSc 27)).alloc (.cells #[.int .i64 0] 3)).alloc (.cells #[.int .i64 0] 30)).alloc (.cells #[.slice none 0 0, .slice none 0 0, .slice none 0 0, .int .i64 0, .int .u64 0, .int .i64 0] 81)) (.cells #[.int .i64 0] 3)
    have k5 := alloc_new (((((w.alloc (.cells zSc 27)).alloc (.cells #[.int .i64 0] 3)).alloc (.cells #[.int .i64 0] 30)).alloc (.cells #[.slice none 0 0, .slice none 0 0, .slice none 0 0, .int .i64 0, .int .u64 0, .int .i64 0] 81)).alloc (.cells #[.int .i64 0] 3)) (.cells #[.string X] 9)
    simp only [World.size_alloc] at k0 k1 k2 k3 k4 k5
    exact ⟨(alloc_old (alloc_old (alloc_old (alloc_old (alloc_old k0))))), (alloc_old (alloc_old (alloc_old (alloc_old k1)))), (alloc_old (alloc_old (alloc_old k2))), (alloc_old (alloc_old k3)), (alloc_old k4), k5, (((((((Only.refl [] w).alloc _).alloc _).alloc _).alloc _).alloc _).alloc _), by simp only [World.size_alloc]⟩
  rintro W0 ⟨k0, k1, k2, k3, k4, k5, ho0, hsz⟩
  obtain ⟨n0, hn0⟩ : ∃ n0, n0 = W0.heap.size := ⟨_, rfl⟩
  have hbox : W0.cell? ⟨w.heap.size + 1 + 1 + 1 + 1 + 1, 0, none⟩ = some (.string X) := by rw [cell_got k5]; rfl
  have h00 : PI w W0.heap.size [] W0 := ⟨ss0, [], [], .slice none 0 0, .slice none 0 0, .slice none 0 0, rfl, ⟨k3, rfl, rfl, own_nil _ _, own_nil _ _, own_nil _ _, by simp, by simp, by simp, by simp, by simp⟩, k0, k1, k2, k4, ho0, Nat.le_refl _⟩
  refine wpIn_rangeFunc_ownG rfl (by omega) (gf := 44) (lb := #[.pointer (some ⟨w.heap.size + 1 + 1 + 1 + 1 + 1, 0, none⟩)]) rfl trivial (enters_of Tryd.func44 (by kernel_rfl) rfl)
    (lines_stops _ (w.heap.size + 1 + 1 + 1 + 1 + 1) X L hL hs hlp W0 (by omega) hbox) (fun _ _ => trivial) (fun _ _ _ _ _ _ _ _ => trivial) (Below.refl _ _) (fun _ => rfl)
    (PI w W0.heap.size) (PX w) (pi_from (by omega)) (px_from (by omega)) h00
    (fun x => { tmps := #[.string X, undef, .pointer (some ⟨w.heap.size, 0, none⟩), .pointer (some ⟨w.heap.size + 1, 0, none⟩), .pointer (some ⟨w.heap.size + 1 + 1, 0, none⟩), .pointer (some ⟨w.heap.size + 1 + 1 + 1, 0, none⟩), .pointer (some ⟨w.heap.size + 1 + 1 + 1 + 1, 0, none⟩), .int .i64 x.1.1, .string (bstr x.1.2), undef, undef, undef, .string X, .func (.func 44) #[] #[.pointer (some ⟨w.heap.size + 1 + 1 + 1 + 1 + 1, 0, none⟩)], .int .i64 x.1.1, .string (bstr x.1.2), undef, undef, undef, undef, undef, undef, undef, undef, undef, undef, undef, undef, undef, undef, undef, undef, undef, undef, undef, undef, undef, undef, undef, undef, undef, undef, undef, undef, undef, undef], defers := [] }) ?assign ?body ?done ?stop
  case assign =>
    intro l x W K hK
    gi_wp2
    exact hK
  case body =>
    have hn6 : n0 = w.heap.size + 1 + 1 + 1 + 1 + 1 + 1 := by omega
    rw [← hn0]
    have HLP2 := HLP
    clear hbox h00 k0 k1 k2 k3 k4 k5 ho0 hsz hn0 hlp hL hs HLP HLP2
    rintro l pre x W ⟨y, ns, ls, vn, vl, vf, h1, h2, h3, h4, h5, h6, h7, hnW⟩ hlt
    obtain ⟨⟨m, ln⟩, hm, hln⟩ := x
    simp only at hm hln
    have hpl : (vals pre).length ≤ 99999 := by unfold vals; rw [List.length_map]; omega
    have hslm := slm_run (vals pre) ss0 y 0 slm0 h1
    have hsl : SLe 100000 y := ⟨Nat.le_trans hslm.nd (by omega), Nat.le_trans hslm.lk (by omega), Nat.le_trans hslm.ft (by omega), fun z hz => ⟨Nat.le_trans (hslm.sg z hz).1 (by omega), Nat.le_trans (hslm.sg z hz).2 (by omega)⟩, fun z hz => Nat.le_trans (hslm.ch z hz) (by omega)⟩
    have hsn := rdI_snoc (vals pre) ss0 y m ln h1
    have HSN : Hid (rdI ss0 (vals (pre ++ [⟨(m, ln), hm, hln⟩])) = if ln.getLast? = some 10 then (match rdW y (pcs 32 ln.dropLast) with
      | none => .error m
      | some z => .ok z) else .error m) := Lib.hid (by rw [show vals (pre ++ [⟨(m, ln), hm, hln⟩]) = vals pre ++ [(m, ln)] by simp [vals]]; exact hsn)
    have HCN : Hid (cnt (vals (pre ++ [⟨(m, ln), hm, hln⟩])) = m) := Lib.hid (by unfold vals; rw [List.map_append]; exact cnt_snoc _ _)
    generalize pre ++ [⟨(m, ln), hm, hln⟩] = pre2 at HSN HCN
    have H2 := Lib.hid h2; have H3 := Lib.hid h3; have H4 := Lib.hid h4; have H5 := Lib.hid h5; have H6 := Lib.hid h6; have H7 := Lib.hid h7; have HSL := Lib.hid hsl; have HL6 := Lib.hid hslm.l6
    have HNW := Lib.hid hnW
    clear h1 h2 h3 h4 h5 h6 h7 hsl hslm hsn hlt hpl hnW
    by_cases hg : ln.getLast? = some 10
    · obtain ⟨a, rfl⟩ := last_split hg
      have hal : a.length ≤ 99999 := by simp at hln; omega
      have HSN2 : Hid (rdI ss0 (vals pre2) = (match rdW y (pcs 32 a) with
        | none => .error m
        | some z => .ok z)) := Lib.hid (by rw [HSN.out, if_pos hg, List.dropLast_concat])
      have hsf := suf_yes a
      have hcs : Calls Tryd.prog 30 #[.string (bstr (a ++ [10])), .string ⟨#[10]⟩] W fun e w' => e = .returned (.tuple #[.string (bstr a), .bool true]) ∧ W = w' :=
        (Tryd.strings_CutSuffix (bstr (a ++ [10])) ⟨#[10]⟩ W (by rw [bstr_size]; simp; omega)).mono fun e w' ⟨h1, h2⟩ => ⟨by rw [h1, bstr_data, show ((⟨#[10]⟩ : ByteArray).data.toList) = [10] from rfl, hsf.1, hsf.2]; rfl, h2.symm⟩
      have HCS := Lib.hid hcs
      have hon : Only [] w W := H7.out
      have HON := Lib.hid hon
      have hpa : (pcs 32 a).length ≤ 100000 := by have := pcs_length_le 32 a; omega
      have HPM : Hid (∀ q ∈ pcs 32 a, q.length ≤ 1000000) := Lib.hid (fun q hq => by have := mem_pcs_len hq; omega)
      have HSP := Lib.hid (split_any 32 (bstr a) W (by rw [bstr_size]; omega) (HE.out.kept hon))
      clear hsf hcs hon HSN hg
      gi_wp2_with (refine ⟨trivial, ?_⟩; gi_at_call 30; fail)
      refine ⟨trivial, ?_⟩
      refine (CallsIn.inRound l (callsIn_wide.2 (HCS.out))).mono ?_
      rintro e w' ⟨rfl, rfl⟩
      gi_wp2_with (refine ⟨trivial, ?_⟩; gi_at_call 32; fail)
      refine ⟨trivial, ?_⟩
      refine (CallsIn.inRound l (callsIn_wide.2 (HSP.out))).mono ?_
      rintro e W2 ⟨rfl, hrow, ho2⟩
      rw [bstr_data] at hrow ⊢
      have hvr := hrow.vrow strC_len rfl
      have HRX : Hid (RdX ⟨cutW W n0, W⟩ (w.heap.size + 1 + 1 + 1) W2 y) := Lib.hid ⟨by show _ < (cutW W n0).heap.size; rw [cutW_size HNW.out]; omega, ⟨((cutW_only HNW.out).nil_trans ho2).mono (by simp), ko_nil ho2⟩, ns, ls, vn, vl, vf, by show RdW (cutW W n0).heap.size _ _ _ _ _ _ _ _; rw [cutW_size HNW.out]; exact H2.out.kept ho2⟩
      have HVR := Lib.hid hvr
      have HE2 := Lib.hid (HE.out.kept (HON.out.nil_trans ho2))
      have HRD : Hid (Calls Tryd.prog 31 #[.pointer (some ⟨w.heap.size + 1 + 1 + 1, 0, none⟩), .slice (some ⟨W.heap.size, 0, none⟩) (pcs 32 a).length (pcs 32 a).length] W2 fun e w' => RdR ⟨cutW W n0, W⟩ (w.heap.size + 1 + 1 + 1) (rdW y (pcs 32 a)) e w') := Lib.hid (by
        obtain ⟨wd, r, hwr⟩ : ∃ wd r, pcs 32 a = wd :: r := by
          cases hq : pcs 32 a with
          | nil => exact absurd hq (pcs_ne 32 a)
          | cons wd r => exact ⟨wd, r, rfl⟩
        have hv := HVR.out; have hm := HPM.out
        rw [hwr] at hv hm hpa ⊢
        exact kRead HRX.out HSL.out HL6.out hv hpa hm HE2.out)
      clear hrow ho2 hvr HRX HVR HPM HSP HCS
      generalize (pcs 32 a).length = np at HRD hpa ⊢
      obtain ⟨res, hres⟩ : ∃ res, res = rdW y (pcs 32 a) := ⟨_, rfl⟩
      rw [← hres] at HRD HSN2
      clear hres
      gi_wp2_with (refine ⟨trivial, ?_⟩; gi_at_call 31; fail)
      refine ⟨trivial, ?_⟩
      refine (CallsIn.inRound l (callsIn_wide.2 (HRD.out))).mono ?_
      rintro e W3 hr
      cases res with
      | none =>
        obtain ⟨rfl, hob⟩ := hr
        have HX : Hid (rdI ss0 (vals pre2) = .error m) := HSN2
        obtain ⟨hk, hko⟩ := hob.back HNW.out
        have ON := Lib.hid (Ob.only_back HON.out (by omega) HNW.out (by omega) hob)
        have KO := Lib.hid hko
        have G0 := Lib.hid (hk _ _ _ (by omega) (by omega) H3.out); have G1 := Lib.hid (hk _ _ _ (by omega) (by omega) H4.out); have G2 := Lib.hid (hk _ _ _ (by omega) (by omega) H5.out)
        clear hk hko hob HRD HSN2
        have c0 := cell_got G0.out 0; have c1 := cell_got G0.out 1; have c2 := cell_got G0.out 2; have c3 := cell_got G0.out 3; have c4 := cell_got G0.out 4; have c5 := cell_got G1.out 0; have c6 := cell_got G2.out 0
        have f0 := frozen_got G0.out 0; have f1 := frozen_got G0.out 1; have f2 := frozen_got G0.out 2; have f3 := frozen_got G0.out 3; have f4 := frozen_got G0.out 4; have f5 := frozen_got G1.out 0; have f6 := frozen_got G2.out 0
        have l0 := got_lt G0.out; have l1 := got_lt G1.out; have l2 := got_lt G2.out
        unfold zSc at c0 c1 c2 c3 c4
        gi_wp2
        exact ⟨(KeepsOthers.trans KO.out (KeepsOthers.trans (KeepsOthers.trans (KeepsOthers.trans (KeepsOthers.trans (KeepsOthers.trans (KeepsOthers.trans (KeepsOthers.setCell _ _ _) (KeepsOthers.setCell _ _ _)) (KeepsOthers.setCell _ _ _)) (KeepsOthers.setCell _ _ _)) (KeepsOthers.setCell _ _ _)) (KeepsOthers.setCell _ _ _)) (KeepsOthers.setCell _ _ _))).from _, m, rfl, HX.out, (set_other (by first | (simp; done) | (simp; omega)) (set_other (by first | (simp; done) | (simp; omega)) (setCell_got _ (setCell_got _ (setCell_got _ (setCell_got _ (setCell_got _ G0.out))))))), (set_other (by first | (simp; done) | (simp; omega)) (setCell_got _ (set_other (by first | (simp; done) | (simp; omega)) (set_other (by first | (simp; done) | (simp; omega)) (set_other (by first | (simp; done) | (simp; omega)) (set_other (by first | (simp; done) | (simp; omega)) (set_other (by first | (simp; done) | (simp; omega)) G1.out))))))), (setCell_got _ (set_other (by first | (simp; done) | (simp; omega)) (set_other (by first | (simp; done) | (simp; omega)) (set_other (by first | (simp; done) | (simp; omega)) (set_other (by first | (simp; done) | (simp; omega)) (set_other (by first | (simp; done) | (simp; omega)) (set_other (by first | (simp; done) | (simp; omega)) G2.out))))))), (((((((ON.out.setCell (.inr (Nat.le_refl _)) _).setCell (.inr (Nat.le_refl _)) _).setCell (.inr (Nat.le_refl _)) _).setCell (.inr (Nat.le_refl _)) _).setCell (.inr (Nat.le_refl _)) _).setCell (.inr (by first | (simp; done) | (simp; omega))) _).setCell (.inr (by first | (simp; done) | (simp; omega))) _)⟩
      | some z =>
        obtain ⟨rfl, hb0, hob, ns2, ls2, vn2, vl2, vf2, hrw⟩ := hr
        have HX : Hid (rdI ss0 (vals pre2) = .ok z) := HSN2
        obtain ⟨hk, hko⟩ := hob.back HNW.out
        have ON := Lib.hid (Ob.only_back HON.out (by omega) HNW.out (by omega) hob)
        have KO := Lib.hid hko
        have G0 := Lib.hid (hk _ _ _ (by omega) (by omega) H3.out); have G1 := Lib.hid (hk _ _ _ (by omega) (by omega) H4.out); have G2 := Lib.hid (hk _ _ _ (by omega) (by omega) H5.out); have G4 := Lib.hid (hk _ _ _ (by omega) (by omega) H6.out)
        have hrw2 : RdW n0 (w.heap.size + 1 + 1 + 1) W3 z ns2 ls2 vn2 vl2 vf2 := by
          have h : RdW (cutW W n0).heap.size _ _ _ _ _ _ _ _ := hrw
          rw [cutW_size HNW.out] at h; exact h
        have HRW := Lib.hid hrw2
        have HSZ : Hid (n0 ≤ W3.heap.size) := Lib.hid (Nat.le_trans HNW.out hko.size)
        clear hk hko hob hb0 hrw hrw2 HRD HSN2
        have c0 := cell_got G4.out 0; have f0 := frozen_got G4.out 0; have l0 := got_lt G4.out
        gi_wp2
        refine ⟨(KeepsOthers.trans KO.out (KeepsOthers.setCell _ _ _)).from _, trivial, z, ns2, ls2, vn2, vl2, vf2, HX.out, HRW.out.keptLow ((Only.refl [w.heap.size + 1 + 1 + 1 + 1] W3).setCell (.inl (by simp)) _) (by simp) (by first | (simp; done) | (simp; omega)), set_other (by first | (simp; done) | (simp; omega)) G0.out, set_other (by first | (simp; done) | (simp; omega)) G1.out, set_other (by first | (simp; done) | (simp; omega)) G2.out, ?_, ON.out.setCell (.inr (by first | (simp; done) | (simp; omega))) _, by rw [size_setCell]; exact HSZ.out⟩
        rw [HCN.out]
        exact setCell_got _ G4.out
    · have HX : Hid (rdI ss0 (vals pre2) = .error m) := Lib.hid (by rw [HSN.out, if_neg hg])
      obtain ⟨tr, hcs⟩ : ∃ tr, Calls Tryd.prog 30 #[.string (bstr ln), .string ⟨#[10]⟩] W fun e w' => e = .returned (.tuple #[.string tr, .bool false]) ∧ W = w' :=
        ⟨_, (Tryd.strings_CutSuffix (bstr ln) ⟨#[10]⟩ W (by rw [bstr_size]; omega)).mono fun e w' ⟨h1, h2⟩ => ⟨by rw [h1, bstr_data, show ((⟨#[10]⟩ : ByteArray).data.toList) = [10] from rfl, suf_no hg], h2.symm⟩⟩
      have HCS := Lib.hid hcs
      have G0 := H3; have G1 := H4; have G2 := H5; have ON := H7
      have KO := Lib.hid (KeepsOthers.refl W)
      clear hcs HSN hg
      gi_wp2_with (refine ⟨trivial, ?_⟩; gi_at_call 30; fail)
      refine ⟨trivial, ?_⟩
      refine (CallsIn.inRound l (callsIn_wide.2 (HCS.out))).mono ?_
      rintro e w' ⟨rfl, rfl⟩
      have c0 := cell_got G0.out 0; have c1 := cell_got G0.out 1; have c2 := cell_got G0.out 2; have c3 := cell_got G0.out 3; have c4 := cell_got G0.out 4; have c5 := cell_got G1.out 0; have c6 := cell_got G2.out 0
      have f0 := frozen_got G0.out 0; have f1 := frozen_got G0.out 1; have f2 := frozen_got G0.out 2; have f3 := frozen_got G0.out 3; have f4 := frozen_got G0.out 4; have f5 := frozen_got G1.out 0; have f6 := frozen_got G2.out 0
      have l0 := got_lt G0.out; have l1 := got_lt G1.out; have l2 := got_lt G2.out
      unfold zSc at c0 c1 c2 c3 c4
      gi_wp2
      refine ⟨trivial, ?_⟩
      gi_wp2
      refine ⟨trivial, ?_⟩
      gi_wp2
      exact ⟨(KeepsOthers.trans KO.out (KeepsOthers.trans (KeepsOthers.trans (KeepsOthers.trans (KeepsOthers.trans (KeepsOthers.trans (KeepsOthers.trans (KeepsOthers.setCell _ _ _) (KeepsOthers.setCell _ _ _)) (KeepsOthers.setCell _ _ _)) (KeepsOthers.setCell _ _ _)) (KeepsOthers.setCell _ _ _)) (KeepsOthers.setCell _ _ _)) (KeepsOthers.setCell _ _ _))).from _, m, rfl, HX.out, (set_other (by first | (simp; done) | (simp; omega)) (set_other (by first | (simp; done) | (simp; omega)) (setCell_got _ (setCell_got _ (setCell_got _ (setCell_got _ (setCell_got _ G0.out))))))), (set_other (by first | (simp; done) | (simp; omega)) (setCell_got _ (set_other (by first | (simp; done) | (simp; omega)) (set_other (by first | (simp; done) | (simp; omega)) (set_other (by first | (simp; done) | (simp; omega)) (set_other (by first | (simp; done) | (simp; omega)) (set_other (by first | (simp; done) | (simp; omega)) G1.out))))))), (setCell_got _ (set_other (by first | (simp; done) | (simp; omega)) (set_other (by first | (simp; done) | (simp; omega)) (set_other (by first | (simp; done) | (simp; omega)) (set_other (by first | (simp; done) | (simp; omega)) (set_other (by first | (simp; done) | (simp; omega)) (set_other (by first | (simp; done) | (simp; omega)) G2.out))))))), (((((((ON.out.setCell (.inr (Nat.le_refl _)) _).setCell (.inr (Nat.le_refl _)) _).setCell (.inr (Nat.le_refl _)) _).setCell (.inr (Nat.le_refl _)) _).setCell (.inr (Nat.le_refl _)) _).setCell (.inr (by first | (simp; done) | (simp; omega))) _).setCell (.inr (by first | (simp; done) | (simp; omega))) _)⟩
  case done =>
    rintro D ys W hD hS ⟨x, ns, ls, vn, vl, vf, h1, h2, h3, h4, h5, h6, h7, h8⟩ hK
    have hS' : vals ys = lnsO 1 (pcs 10 L) := hS
    have hpl : (vals ys).length ≤ 99999 := by rw [hS']; exact hN
    have hslm := slm_run (vals ys) ss0 x 0 slm0 h1
    have hsl : SLe 100000 x := ⟨Nat.le_trans hslm.nd (by omega), Nat.le_trans hslm.lk (by omega), Nat.le_trans hslm.ft (by omega), fun z hz => ⟨Nat.le_trans (hslm.sg z hz).1 (by omega), Nat.le_trans (hslm.sg z hz).2 (by omega)⟩, fun z hz => Nat.le_trans (hslm.ch z hz) (by omega)⟩
    have hcn : cnt (vals ys) = (lnsO 1 (pcs 10 L)).length := by rw [hS']; exact cnt_lns _
    have hcl : cnt (vals ys) ≤ 99999 := by rw [hcn]; exact hN
    have HP : Hid (prsS L = endS (.ok x) (cnt (vals ys))) := Lib.hid (by rw [prsS_lns, hcn, ← hS', h1])
    obtain ⟨sW, hs1, hs2, hs3⟩ := h2.scene hsl
    have HS1 := Lib.hid hs1; have HS2 := Lib.hid hs2; have HS3 := Lib.hid hs3
    generalize cnt (vals ys) = cn at h6 HP hcl
    have hD6 : w.heap.size + 1 + 1 + 1 + 1 + 1 + 1 ≤ D := by omega
    have HW := Lib.hid (kWhole h2.box)
    have H2 := Lib.hid h2; have H3 := Lib.hid h3; have H4 := Lib.hid h4; have H5 := Lib.hid h5; have H6 := Lib.hid h6; have H7 := Lib.hid h7; have HK := Lib.hid hK
    rw [hsz] at h2
    have hn6 : n0 = w.heap.size + 1 + 1 + 1 + 1 + 1 + 1 := by omega
    rw [← hn0] at H2 hD
    clear h1 h2 h3 h4 h5 h6 h7 h8 hS hS' hpl hslm hsl hcn hs1 hs2 hs3 hbox h00 k0 k1 k2 k3 k4 k5 ho0 hK hn0 hsz hN
    gi_wp2_with (refine ⟨trivial, ?_⟩; gi_at_call 33; fail)
    refine ⟨trivial, ?_⟩
    refine (callsIn_wide.2 HW.out).mono ?_
    rintro e W1 ⟨rfl, ho1⟩
    have R1 := Lib.hid (H2.out.kept ho1); have G0 := Lib.hid (ho1.got H3.out (by simp)); have G1 := Lib.hid (ho1.got H4.out (by simp)); have G2 := Lib.hid (ho1.got H5.out (by simp)); have G4 := Lib.hid (ho1.got H6.out (by simp)); have ON := Lib.hid (H7.out.nil_trans ho1); have KD := Lib.hid (ho1.got HK.out (by simp))
    clear ho1 H2 H3 H4 H5 H6 H7 HK HW
    cases hwh : whole x.at_ with
    | false =>
      have HQ : Hid (prsS L = (sc0, cn + 1, 19)) := Lib.hid (by rw [HP.out]; simp [endS, hwh])
      clear hwh
      gi_wp2_with fail
      refine wpIn_wide.2 ?_
      have c8 := cell_got G4.out 0; have l8 := got_lt G4.out
      have hcw : IntKind.i64.wrap ((cn : Int) + 1) = (cn : Int) + 1 := by rw [IntKind.wrap_i64]; omega
      have hne : ¬ (w.heap.size + 1 + 1 + 1 + 1 = w.heap.size) := by omega
      refine wp_region_calm2 [0, 1, 2] [4, 5] (OnlyC [w.heap.size] W1) (by kernel_rfl) (by kernel_rfl) ?_
      simp only [pick, List.map_cons, List.map_nil, List.getD_cons_succ, List.getD_cons_zero]
      iterate 3 (refine wpCalm_step (fun K hK => ?_); go_simp; refine hK _ ?_; clear hK K)
      refine wpCalm_nil ?_
      clear c8 l8
      refine Rest.by (X := Unit) (fun _ a => a) (fun _ w' => w'.heap[w.heap.size]? = some (.cells zSc 27 (0, 0)) ∧ w'.heap[w.heap.size + 1]? = some (.cells #[.int .i64 ((cn : Int) + 1)] 3 (0, 0)) ∧ w'.heap[w.heap.size + 1 + 1]? = some (.cells #[.int .i64 19] 30 (0, 0)) ∧ Only [] w w' ∧ KeepsOthers W1 w') ?_ ?_
      · rintro _ w9 ⟨g0, g1, g2, o9, k9⟩
        gi_wp2
        refine ⟨by simp, .inl ⟨_, _, rfl, run_takeDeferred (k9.same D _ KD.out rfl), ?_⟩⟩
        have p0 := put_other (D := D) (k := w.heap.size) (o' := .deferred none) (by omega) g0; have p1 := put_other (D := D) (k := w.heap.size + 1) (o' := .deferred none) (by omega) g1; have p2 := put_other (D := D) (k := w.heap.size + 1 + 1) (o' := .deferred none) (by omega) g2
        have c0 := cell_got p0 0; have c1 := cell_got p0 1; have c2 := cell_got p0 2; have c3 := cell_got p0 3; have c4 := cell_got p0 4; have c5 := cell_got p1 0; have c6 := cell_got p2 0
        unfold zSc at c0 c1 c2 c3 c4
        refine ⟨.tuple #[.agg #[.slice none 0 0, .slice none 0 0, .slice none 0 0, .int .i64 0, .int .u64 0], .int .i64 ((cn : Int) + 1), .int .i64 19], by simp [results, Tryd.results10, go_sem, c0, c1, c2, c3, c4, c5, c6], ?_, put_only o9 (by omega)⟩
        exact prsR_bad (m := cn + 1) HQ.out
      · refine wpAnyC_next [3] (by kernel_rfl) (by simp) (.inr (onlyC (Only.refl [w.heap.size] W1).drew)) ?_
        simp only [List.mem_cons, List.not_mem_nil, or_false, forall_eq]
        refine wpOp_one rfl ?_
        have c0 := cell_got G0.out 0; have c1 := cell_got G0.out 1; have c2 := cell_got G0.out 2; have c3 := cell_got G0.out 3; have c4 := cell_got G0.out 4; have c5 := cell_got G1.out 0; have c6 := cell_got G2.out 0
        have f0 := frozen_got G0.out 0; have f1 := frozen_got G0.out 1; have f2 := frozen_got G0.out 2; have f3 := frozen_got G0.out 3; have f4 := frozen_got G0.out 4; have f5 := frozen_got G1.out 0; have f6 := frozen_got G2.out 0
        have l0 := got_lt G0.out; have l1 := got_lt G1.out; have l2 := got_lt G2.out
        unfold zSc at c0 c1 c2 c3 c4
        go_wp2
        simp only [nrm]
        refine wpAnyC_next [4] (by kernel_rfl) (by simp) (.inr (onlyC ((((((Only.refl [w.heap.size] W1).setCell (.inl (by simp)) _).setCell (.inl (by simp)) _).setCell (.inl (by simp)) _).setCell (.inl (by simp)) _).setCell (.inl (by simp)) _).drew)) ?_
        simp only [List.mem_cons, List.not_mem_nil, or_false, forall_eq]
        refine wpOp_one rfl ?_
        go_wp2
        simp only [nrm]
        refine wpAnyC_next [5] (by kernel_rfl) (by simp) (.inl (late_of (by kernel_rfl))) ?_
        simp only [List.mem_cons, List.not_mem_nil, or_false, forall_eq]
        refine wpOp_one rfl ?_
        go_wp2
        simp only [nrm]
        refine wpAnyC_done (by kernel_rfl) (.inl (late_of (by kernel_rfl))) ⟨(), rfl, drew_got ?_, drew_got ?_, drew_got ?_, Only.drew ?_, ko_drew ?_⟩
        · exact (set_other (by first | (simp; done) | (simp; omega)) (set_other (by first | (simp; done) | (simp; omega)) (setCell_got _ (setCell_got _ (setCell_got _ (setCell_got _ (setCell_got _ G0.out)))))))
        · exact (set_other (by first | (simp; done) | (simp; omega)) (setCell_got _ (set_other (by first | (simp; done) | (simp; omega)) (set_other (by first | (simp; done) | (simp; omega)) (set_other (by first | (simp; done) | (simp; omega)) (set_other (by first | (simp; done) | (simp; omega)) (set_other (by first | (simp; done) | (simp; omega)) G1.out)))))))
        · exact (setCell_got _ (set_other (by first | (simp; done) | (simp; omega)) (set_other (by first | (simp; done) | (simp; omega)) (set_other (by first | (simp; done) | (simp; omega)) (set_other (by first | (simp; done) | (simp; omega)) (set_other (by first | (simp; done) | (simp; omega)) (set_other (by first | (simp; done) | (simp; omega)) G2.out)))))))
        · exact (((((((ON.out.setCell (.inr (Nat.le_refl _)) _).setCell (.inr (Nat.le_refl _)) _).setCell (.inr (Nat.le_refl _)) _).setCell (.inr (Nat.le_refl _)) _).setCell (.inr (Nat.le_refl _)) _).setCell (.inr (by first | (simp; done) | (simp; omega))) _).setCell (.inr (by first | (simp; done) | (simp; omega))) _)
        · exact (KeepsOthers.trans (KeepsOthers.trans (KeepsOthers.trans (KeepsOthers.trans (KeepsOthers.trans (KeepsOthers.trans (KeepsOthers.setCell _ _ _) (KeepsOthers.setCell _ _ _)) (KeepsOthers.setCell _ _ _)) (KeepsOthers.setCell _ _ _)) (KeepsOthers.setCell _ _ _)) (KeepsOthers.setCell _ _ _)) (KeepsOthers.setCell _ _ _))
    | true =>
      have HQ : Hid (prsS L = if chkS x.sc = 0 then (x.sc, 0, 0) else (sc0, 0, chkS x.sc)) := Lib.hid (by rw [HP.out]; simp [endS, hwh])
      have hck := pCheck sW (HS3.out _ _ _ R1.out)
      rw [HS1.out, HS2.out] at hck
      have HCK := Lib.hid hck
      have b0 := cell_got R1.out.box 0; have b1 := cell_got R1.out.box 1; have b2 := cell_got R1.out.box 2; have b3 := cell_got R1.out.box 3; have b4 := cell_got R1.out.box 4; have lb := got_lt R1.out.box
      clear hck hwh
      gi_wp2_with (refine ⟨trivial, ?_⟩; gi_at_call 9; fail)
      refine ⟨trivial, ?_⟩
      refine (callsIn_wide.2 HCK.out).mono ?_
      rintro e W2 ⟨rfl, ho2⟩
      clear b0 b1 b2 b3 b4 lb
      have R2 := Lib.hid (R1.out.kept ho2); have g0 := ho2.got G0.out (by simp); have g1 := ho2.got G1.out (by simp); have g2 := ho2.got G2.out (by simp); have ON2 := Lib.hid (ON.out.nil_trans ho2); have KD2 := Lib.hid (ho2.got KD.out (by simp))
      clear G0 G1 G2 G4
      have G0 := Lib.hid g0; have G1 := Lib.hid g1; have G2 := Lib.hid g2
      clear g0 g1 g2 ho2 R1 KD HCK ON
      have KD := KD2
      have c0 := cell_got G0.out 0; have c1 := cell_got G0.out 1; have c2 := cell_got G0.out 2; have c3 := cell_got G0.out 3; have c4 := cell_got G0.out 4; have c5 := cell_got G1.out 0; have c6 := cell_got G2.out 0
      have f0 := frozen_got G0.out 0; have f1 := frozen_got G0.out 1; have f2 := frozen_got G0.out 2; have f3 := frozen_got G0.out 3; have f4 := frozen_got G0.out 4; have f5 := frozen_got G1.out 0; have f6 := frozen_got G2.out 0
      have l0 := got_lt G0.out; have l1 := got_lt G1.out; have l2 := got_lt G2.out
      unfold zSc at c0 c1 c2 c3 c4
      by_cases hck : chkS x.sc = 0
      · have HQ2 : Hid (prsS L = (x.sc, 0, 0)) := Lib.hid (by rw [HQ.out, if_pos hck])
        rw [hck]
        obtain ⟨pn, cn2, hv1, _⟩ := R2.out.nd.vrow ndC_len; obtain ⟨pl, cl, hv2, _⟩ := R2.out.lk.vrow lkC_len; obtain ⟨pf, cf, hv3, _⟩ := R2.out.ft.vrow ftC_len
        subst hv1 hv2 hv3
        have b0 := cell_got R2.out.box 0; have b1 := cell_got R2.out.box 1; have b2 := cell_got R2.out.box 2; have b3 := cell_got R2.out.box 3; have b4 := cell_got R2.out.box 4; have lb := got_lt R2.out.box
        clear hck HQ HP
        gi_wp2
        have g0 : (((((((W2.setCell ⟨w.heap.size, 0, none⟩ (.slice pn ns.length cn2)).setCell ⟨w.heap.size, 1, none⟩ (.slice pl ls.length cl)).setCell ⟨w.heap.size, 2, none⟩ (.slice pf x.sc.ft.length cf)).setCell ⟨w.heap.size, 3, none⟩ (.int .i64 x.sc.un)).setCell ⟨w.heap.size, 4, none⟩ (.int .u64 x.sc.sd)).setCell ⟨w.heap.size + 1, 0, none⟩ (.int .i64 0)).setCell ⟨w.heap.size + 1 + 1, 0, none⟩ (.int .i64 0)).heap[w.heap.size]? = some (.cells #[.slice pn ns.length cn2, .slice pl ls.length cl, .slice pf x.sc.ft.length cf, .int .i64 x.sc.un, .int .u64 x.sc.sd] 27 (0, 0)) := (set_other (by first | (simp; done) | (simp; omega)) (set_other (by first | (simp; done) | (simp; omega)) (setCell_got _ (setCell_got _ (setCell_got _ (setCell_got _ (setCell_got _ G0.out)))))))
        have g1 : (((((((W2.setCell ⟨w.heap.size, 0, none⟩ (.slice pn ns.length cn2)).setCell ⟨w.heap.size, 1, none⟩ (.slice pl ls.length cl)).setCell ⟨w.heap.size, 2, none⟩ (.slice pf x.sc.ft.length cf)).setCell ⟨w.heap.size, 3, none⟩ (.int .i64 x.sc.un)).setCell ⟨w.heap.size, 4, none⟩ (.int .u64 x.sc.sd)).setCell ⟨w.heap.size + 1, 0, none⟩ (.int .i64 0)).setCell ⟨w.heap.size + 1 + 1, 0, none⟩ (.int .i64 0)).heap[w.heap.size + 1]? = some (.cells #[.int .i64 0] 3 (0, 0)) := (set_other (by first | (simp; done) | (simp; omega)) (setCell_got _ (set_other (by first | (simp; done) | (simp; omega)) (set_other (by first | (simp; done) | (simp; omega)) (set_other (by first | (simp; done) | (simp; omega)) (set_other (by first | (simp; done) | (simp; omega)) (set_other (by first | (simp; done) | (simp; omega)) G1.out)))))))
        have g2 : (((((((W2.setCell ⟨w.heap.size, 0, none⟩ (.slice pn ns.length cn2)).setCell ⟨w.heap.size, 1, none⟩ (.slice pl ls.length cl)).setCell ⟨w.heap.size, 2, none⟩ (.slice pf x.sc.ft.length cf)).setCell ⟨w.heap.size, 3, none⟩ (.int .i64 x.sc.un)).setCell ⟨w.heap.size, 4, none⟩ (.int .u64 x.sc.sd)).setCell ⟨w.heap.size + 1, 0, none⟩ (.int .i64 0)).setCell ⟨w.heap.size + 1 + 1, 0, none⟩ (.int .i64 0)).heap[w.heap.size + 1 + 1]? = some (.cells #[.int .i64 0] 30 (0, 0)) := (setCell_got _ (set_other (by first | (simp; done) | (simp; omega)) (set_other (by first | (simp; done) | (simp; omega)) (set_other (by first | (simp; done) | (simp; omega)) (set_other (by first | (simp; done) | (simp; omega)) (set_other (by first | (simp; done) | (simp; omega)) (set_other (by first | (simp; done) | (simp; omega)) G2.out)))))))
        have o9 : Only [] w (((((((W2.setCell ⟨w.heap.size, 0, none⟩ (.slice pn ns.length cn2)).setCell ⟨w.heap.size, 1, none⟩ (.slice pl ls.length cl)).setCell ⟨w.heap.size, 2, none⟩ (.slice pf x.sc.ft.length cf)).setCell ⟨w.heap.size, 3, none⟩ (.int .i64 x.sc.un)).setCell ⟨w.heap.size, 4, none⟩ (.int .u64 x.sc.sd)).setCell ⟨w.heap.size + 1, 0, none⟩ (.int .i64 0)).setCell ⟨w.heap.size + 1 + 1, 0, none⟩ (.int .i64 0)) := (((((((ON2.out.setCell (.inr (Nat.le_refl _)) _).setCell (.inr (Nat.le_refl _)) _).setCell (.inr (Nat.le_refl _)) _).setCell (.inr (Nat.le_refl _)) _).setCell (.inr (Nat.le_refl _)) _).setCell (.inr (by first | (simp; done) | (simp; omega))) _).setCell (.inr (by first | (simp; done) | (simp; omega))) _)
        have k9 : KeepsOthers W2 (((((((W2.setCell ⟨w.heap.size, 0, none⟩ (.slice pn ns.length cn2)).setCell ⟨w.heap.size, 1, none⟩ (.slice pl ls.length cl)).setCell ⟨w.heap.size, 2, none⟩ (.slice pf x.sc.ft.length cf)).setCell ⟨w.heap.size, 3, none⟩ (.int .i64 x.sc.un)).setCell ⟨w.heap.size, 4, none⟩ (.int .u64 x.sc.sd)).setCell ⟨w.heap.size + 1, 0, none⟩ (.int .i64 0)).setCell ⟨w.heap.size + 1 + 1, 0, none⟩ (.int .i64 0)) := (KeepsOthers.trans (KeepsOthers.trans (KeepsOthers.trans (KeepsOthers.trans (KeepsOthers.trans (KeepsOthers.trans (KeepsOthers.setCell _ _ _) (KeepsOthers.setCell _ _ _)) (KeepsOthers.setCell _ _ _)) (KeepsOthers.setCell _ _ _)) (KeepsOthers.setCell _ _ _)) (KeepsOthers.setCell _ _ _)) (KeepsOthers.setCell _ _ _))
        have HR9 := Lib.hid (R2.out.keptLow (w' := (((((((W2.setCell ⟨w.heap.size, 0, none⟩ (.slice pn ns.length cn2)).setCell ⟨w.heap.size, 1, none⟩ (.slice pl ls.length cl)).setCell ⟨w.heap.size, 2, none⟩ (.slice pf x.sc.ft.length cf)).setCell ⟨w.heap.size, 3, none⟩ (.int .i64 x.sc.un)).setCell ⟨w.heap.size, 4, none⟩ (.int .u64 x.sc.sd)).setCell ⟨w.heap.size + 1, 0, none⟩ (.int .i64 0)).setCell ⟨w.heap.size + 1 + 1, 0, none⟩ (.int .i64 0))) ((((((((Only.refl [w.heap.size, w.heap.size + 1, w.heap.size + 1 + 1] W2).setCell (.inl (by simp)) _).setCell (.inl (by simp)) _).setCell (.inl (by simp)) _).setCell (.inl (by simp)) _).setCell (.inl (by simp)) _).setCell (.inl (by simp)) _).setCell (.inl (by simp)) _) (by first | (simp; done) | (simp; omega)) (by simp only [List.mem_cons, List.not_mem_nil, or_false, forall_eq_or_imp, forall_eq]; omega))
        clear c0 c1 c2 c3 c4 c5 c6 f0 f1 f2 f3 f4 f5 f6
        refine ⟨by simp, .inl ⟨_, _, rfl, run_takeDeferred (k9.same D _ KD.out rfl), ?_⟩⟩
        have p0 := put_other (D := D) (k := w.heap.size) (o' := .deferred none) (by omega) g0; have p1 := put_other (D := D) (k := w.heap.size + 1) (o' := .deferred none) (by omega) g1; have p2 := put_other (D := D) (k := w.heap.size + 1 + 1) (o' := .deferred none) (by omega) g2
        have c0 := cell_got p0 0; have c1 := cell_got p0 1; have c2 := cell_got p0 2; have c3 := cell_got p0 3; have c4 := cell_got p0 4; have c5 := cell_got p1 0; have c6 := cell_got p2 0
        refine ⟨.tuple #[.agg #[.slice pn ns.length cn2, .slice pl ls.length cl, .slice pf x.sc.ft.length cf, .int .i64 x.sc.un, .int .u64 x.sc.sd], .int .i64 0, .int .i64 0], by simp [results, Tryd.results10, go_sem, c0, c1, c2, c3, c4, c5, c6], ?_, put_only o9 (by omega)⟩
        refine ⟨sW, ?_, HS3.out _ _ _ (HR9.out.keptN ((Only.refl [D] _).grown (grownBy_putObj' _ D _) (fun k hk => .inl (by cases hk; simp))) (by simp only [List.mem_singleton, forall_eq]; exact ⟨_, k9.same D _ KD.out rfl, rfl⟩)), ?_⟩
        · rw [HS1.out, HQ2.out]
        · rw [HS2.out, HQ2.out]; rfl
      · obtain ⟨E, hE⟩ : ∃ E, E = chkS x.sc := ⟨_, rfl⟩
        rw [← hE] at hck HQ ⊢
        have HQ2 : Hid (prsS L = (sc0, 0, E)) := Lib.hid (by rw [HQ.out, if_neg hck])
        have z0 : (E == 0) = false := by simp [hck]
        have z0n : (E != 0) = true := by simp [hck]
        clear hck HQ HP hE
        gi_wp2
        have g0 : (((((((W2.setCell ⟨w.heap.size, 0, none⟩ (.slice none 0 0)).setCell ⟨w.heap.size, 1, none⟩ (.slice none 0 0)).setCell ⟨w.heap.size, 2, none⟩ (.slice none 0 0)).setCell ⟨w.heap.size, 3, none⟩ (.int .i64 0)).setCell ⟨w.heap.size, 4, none⟩ (.int .u64 0)).setCell ⟨w.heap.size + 1, 0, none⟩ (.int .i64 0)).setCell ⟨w.heap.size + 1 + 1, 0, none⟩ (.int .i64 E)).heap[w.heap.size]? = some (.cells zSc 27 (0, 0)) := (set_other (by first | (simp; done) | (simp; omega)) (set_other (by first | (simp; done) | (simp; omega)) (setCell_got _ (setCell_got _ (setCell_got _ (setCell_got _ (setCell_got _ G0.out)))))))
        have g1 : (((((((W2.setCell ⟨w.heap.size, 0, none⟩ (.slice none 0 0)).setCell ⟨w.heap.size, 1, none⟩ (.slice none 0 0)).setCell ⟨w.heap.size, 2, none⟩ (.slice none 0 0)).setCell ⟨w.heap.size, 3, none⟩ (.int .i64 0)).setCell ⟨w.heap.size, 4, none⟩ (.int .u64 0)).setCell ⟨w.heap.size + 1, 0, none⟩ (.int .i64 0)).setCell ⟨w.heap.size + 1 + 1, 0, none⟩ (.int .i64 E)).heap[w.heap.size + 1]? = some (.cells #[.int .i64 0] 3 (0, 0)) := (set_other (by first | (simp; done) | (simp; omega)) (setCell_got _ (set_other (by first | (simp; done) | (simp; omega)) (set_other (by first | (simp; done) | (simp; omega)) (set_other (by first | (simp; done) | (simp; omega)) (set_other (by first | (simp; done) | (simp; omega)) (set_other (by first | (simp; done) | (simp; omega)) G1.out)))))))
        have g2 : (((((((W2.setCell ⟨w.heap.size, 0, none⟩ (.slice none 0 0)).setCell ⟨w.heap.size, 1, none⟩ (.slice none 0 0)).setCell ⟨w.heap.size, 2, none⟩ (.slice none 0 0)).setCell ⟨w.heap.size, 3, none⟩ (.int .i64 0)).setCell ⟨w.heap.size, 4, none⟩ (.int .u64 0)).setCell ⟨w.heap.size + 1, 0, none⟩ (.int .i64 0)).setCell ⟨w.heap.size + 1 + 1, 0, none⟩ (.int .i64 E)).heap[w.heap.size + 1 + 1]? = some (.cells #[.int .i64 E] 30 (0, 0)) := (setCell_got _ (set_other (by first | (simp; done) | (simp; omega)) (set_other (by first | (simp; done) | (simp; omega)) (set_other (by first | (simp; done) | (simp; omega)) (set_other (by first | (simp; done) | (simp; omega)) (set_other (by first | (simp; done) | (simp; omega)) (set_other (by first | (simp; done) | (simp; omega)) G2.out)))))))
        have o9 : Only [] w (((((((W2.setCell ⟨w.heap.size, 0, none⟩ (.slice none 0 0)).setCell ⟨w.heap.size, 1, none⟩ (.slice none 0 0)).setCell ⟨w.heap.size, 2, none⟩ (.slice none 0 0)).setCell ⟨w.heap.size, 3, none⟩ (.int .i64 0)).setCell ⟨w.heap.size, 4, none⟩ (.int .u64 0)).setCell ⟨w.heap.size + 1, 0, none⟩ (.int .i64 0)).setCell ⟨w.heap.size + 1 + 1, 0, none⟩ (.int .i64 E)) := (((((((ON2.out.setCell (.inr (Nat.le_refl _)) _).setCell (.inr (Nat.le_refl _)) _).setCell (.inr (Nat.le_refl _)) _).setCell (.inr (Nat.le_refl _)) _).setCell (.inr (Nat.le_refl _)) _).setCell (.inr (by first | (simp; done) | (simp; omega))) _).setCell (.inr (by first | (simp; done) | (simp; omega))) _)
        have k9 : KeepsOthers W2 (((((((W2.setCell ⟨w.heap.size, 0, none⟩ (.slice none 0 0)).setCell ⟨w.heap.size, 1, none⟩ (.slice none 0 0)).setCell ⟨w.heap.size, 2, none⟩ (.slice none 0 0)).setCell ⟨w.heap.size, 3, none⟩ (.int .i64 0)).setCell ⟨w.heap.size, 4, none⟩ (.int .u64 0)).setCell ⟨w.heap.size + 1, 0, none⟩ (.int .i64 0)).setCell ⟨w.heap.size + 1 + 1, 0, none⟩ (.int .i64 E)) := (KeepsOthers.trans (KeepsOthers.trans (KeepsOthers.trans (KeepsOthers.trans (KeepsOthers.trans (KeepsOthers.trans (KeepsOthers.setCell _ _ _) (KeepsOthers.setCell _ _ _)) (KeepsOthers.setCell _ _ _)) (KeepsOthers.setCell _ _ _)) (KeepsOthers.setCell _ _ _)) (KeepsOthers.setCell _ _ _)) (KeepsOthers.setCell _ _ _))
        clear c0 c1 c2 c3 c4 c5 c6 f0 f1 f2 f3 f4 f5 f6
        refine ⟨by simp, .inl ⟨_, _, rfl, run_takeDeferred (k9.same D _ KD.out rfl), ?_⟩⟩
        have p0 := put_other (D := D) (k := w.heap.size) (o' := .deferred none) (by omega) g0; have p1 := put_other (D := D) (k := w.heap.size + 1) (o' := .deferred none) (by omega) g1; have p2 := put_other (D := D) (k := w.heap.size + 1 + 1) (o' := .deferred none) (by omega) g2
        have c0 := cell_got p0 0; have c1 := cell_got p0 1; have c2 := cell_got p0 2; have c3 := cell_got p0 3; have c4 := cell_got p0 4; have c5 := cell_got p1 0; have c6 := cell_got p2 0
        unfold zSc at c0 c1 c2 c3 c4
        refine ⟨.tuple #[.agg #[.slice none 0 0, .slice none 0 0, .slice none 0 0, .int .i64 0, .int .u64 0], .int .i64 0, .int .i64 E], by simp [results, Tryd.results10, go_sem, c0, c1, c2, c3, c4, c5, c6], ?_, put_only o9 (by omega)⟩
        exact prsR_bad (m := 0) HQ2.out
  case stop =>
    rintro D c pre W hD hS ⟨m, rfl, h1, h2, h3, h4, h5⟩ hK
    obtain ⟨tl, htl⟩ := hS
    have htl : vals pre ++ tl = lnsO 1 (pcs 10 L) := htl
    have hall : prsS L = (sc0, m, 19) := by
      rw [prsS_lns, ← htl, rdI_err _ tl ss0 m h1]; rfl
    have HAL := Lib.hid hall
    have g0 := put_other (D := D) (o' := .deferred none) (by omega) h2; have g1 := put_other (D := D) (o' := .deferred none) (by omega) h3; have g2 := put_other (D := D) (o' := .deferred none) (by omega) h4
    have c0 := cell_got g0 0; have c1 := cell_got g0 1; have c2 := cell_got g0 2; have c3 := cell_got g0 3; have c4 := cell_got g0 4; have c5 := cell_got g1 0; have c6 := cell_got g2 0
    unfold zSc at c0 c1 c2 c3 c4
    have ON := Lib.hid (put_only (D := D) (o := .deferred none) h5 (by omega))
    clear g0 g1 g2 h1 h2 h3 h4 h5 htl hall hbox h00 k0 k1 k2 k3 k4 k5 ho0
    gi_wp2
    refine ⟨by simp, .inl ⟨_, _, rfl, run_takeDeferred hK, ?_⟩⟩
    refine ⟨.tuple #[.agg #[.slice none 0 0, .slice none 0 0, .slice none 0 0, .int .i64 0, .int .u64 0], .int .i64 m, .int .i64 19], by simp [results, Tryd.results10, go_sem, c0, c1, c2, c3, c4, c5, c6], ?_, ON.out⟩
    exact prsR_bad HAL.out
end Go.Proofs.YthmeifdgkodjlaaDoor

