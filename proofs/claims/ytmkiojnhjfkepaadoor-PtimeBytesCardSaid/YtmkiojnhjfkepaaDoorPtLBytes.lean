/- PtimeBytes: Encode and Decode return what they must: the law returns true for every input. Condition: none but the tied tables of the library. -/
import Derived.Test.YtmkiojnhjfkepaaDoorWl
namespace Go.Proofs.YtmkiojnhjfkepaaDoor
open Go.ChangeShapes Go.WideShapes Go.ChangeAt Go.RowKit Go.Joins

/-- Decode of both at these bytes -/
theorem dec_pair {w : World} {p : Option Addr} {n cap : Nat} {l : List Int} (hv : VRow bE 1 w p n cap l) (hb : Bytes l) :
    ∃ S M E : Int, ∀ w', Only [] w w' →
      (Calls Tryd.prog 24 #[.slice p n cap] w' fun e w'' => e = .returned (.tuple #[.agg #[.int .i64 S, .int .i64 M], .int .i64 E]) ∧ Only [] w' w'') ∧
      (Calls Tryd.prog 25 #[.slice p n cap] w' fun e w'' => e = .returned (.tuple #[.agg #[.int .i64 S, .int .i64 M], .int .i64 E]) ∧ Only [] w' w'') := by
  rcases Nat.lt_trichotomy n 10 with h | h | h
  · exact ⟨0, 0, 5, fun w' _ => ⟨Pdec_short w' h, Rdec_short w' h⟩⟩
  · subst h
    by_cases hok : stOk (decS l) (decM l)
    · refine ⟨decS l, decM l, 0, fun w' ho => ⟨?_, ?_⟩⟩
      · have := Pdec_ten (hv.kept ho) hb
        rwa [decV_yes hok] at this
      · have := Rdec_ten (hv.kept ho) hb
        rwa [decV_yes hok] at this
    · refine ⟨0, 0, 3, fun w' ho => ⟨?_, ?_⟩⟩
      · have := Pdec_ten (hv.kept ho) hb
        rwa [decV_no hok] at this
      · have := Rdec_ten (hv.kept ho) hb
        rwa [decV_no hok] at this
  · exact ⟨0, 0, 6, fun w' _ => ⟨Pdec_long w' h, Rdec_long w' h⟩⟩

/-- a slice of bytes, as a value of Encode -/
def EncV (w : World) (v : Value) (l : List Int) : Prop := ∃ p n c, v = .slice p n c ∧ l.length = n ∧ Lib.BytesIn w p n l ∧ ∀ w', Only [] w w' → Lib.BytesIn w' p n l

theorem encv_nil (w : World) : EncV w (.slice none 0 0) [] := ⟨none, 0, 0, rfl, rfl, Lib.BytesIn.nil _ _ _, fun _ _ => Lib.BytesIn.nil _ _ _⟩
theorem encv_of {w : World} {p : Option Addr} {n c : Nat} {l : List Int} (h : VRow bE 1 w p n c l) : EncV w (.slice p n c) l := ⟨p, n, c, rfl, h.len, h.bytesIn, fun _ ho => (h.kept ho).bytesIn⟩
theorem EncV.kept {w w' : World} {v : Value} {l : List Int} (h : EncV w v l) (ho : Only [] w w') : EncV w' v l := by
  obtain ⟨p, n, c, h1, h2, h3, h4⟩ := h
  exact ⟨p, n, c, h1, h2, h4 w' ho, fun w'' ho' => h4 w'' (ho.nil_trans ho')⟩

theorem enc_pair (s n : Int) : ∃ (l : List Int) (E : Int),
    (∀ w, Calls Tryd.prog 22 #[.agg #[.int .i64 s, .int .i64 n]] w fun e w' => ∃ v, e = .returned (.tuple #[v, .int .i64 E]) ∧ EncV w' v l ∧ Only [] w w') ∧
    (∀ w, Calls Tryd.prog 23 #[.agg #[.int .i64 s, .int .i64 n]] w fun e w' => ∃ v, e = .returned (.tuple #[v, .int .i64 E]) ∧ EncV w' v l ∧ Only [] w w') := by
  by_cases h : stOk s n
  · refine ⟨encB s n, 0, fun w => (Penc_yes s n w h).mono ?_, fun w => (Renc_yes s n w h).mono ?_⟩
    · rintro e w' ⟨g, rfl, hr, ho, _⟩
      exact ⟨_, rfl, encv_of (hr.vrow (encB_length s n)), ho⟩
    · rintro e w' ⟨g, c, rfl, hr, ho, _⟩
      exact ⟨_, rfl, encv_of (hr.vrow_cap (encB_length s n)), ho⟩
  · refine ⟨[], 3, fun w => (Penc_no s n w h).mono ?_, fun w => (Renc_no s n w h).mono ?_⟩
    · rintro e w' ⟨rfl, ho⟩
      exact ⟨_, rfl, encv_nil w', ho⟩
    · rintro e w' ⟨rfl, ho⟩
      exact ⟨_, rfl, encv_nil w', ho⟩

theorem equal_enc {w : World} {v u : Value} {l : List Int} (h1 : EncV w v l) (h2 : EncV w u l) : Calls Tryd.prog 26 #[v, u] w fun e w' => e = .returned (.bool true) ∧ w = w' := by
  obtain ⟨p, n, c, rfl, h3, h4, _⟩ := h1
  obtain ⟨p', n', c', rfl, h3', h4', _⟩ := h2
  refine (Tryd.bytes_Equal_all p p' n c n' c' l l w h3 h3' h4 h4').mono ?_
  rintro e w' ⟨rfl, rfl⟩
  exact ⟨by rw [beq_self_eq_true], rfl⟩

set_option maxRecDepth 100000 in
set_option maxHeartbeats 2000000 in
theorem bytes_walk (s n : Int) (p : Option Addr) (len cap : Nat) (l : List Int) (w : World) (hv : VRow bE 1 w p len cap l) (hg : ∀ z ∈ l, (Lit.int .u8 z).wf = true) (ht : Tab w) :
    Calls Tryd.prog 6 #[.agg #[.int .i64 s, .int .i64 n], .slice p len cap] w fun e w' => e = .returned (.bool true) ∧ Only [] w w' := by
  have hb : Bytes l := fun z hz => by
    have := hg z hz
    simp only [Lit.wf, IntKind.min, IntKind.max, IntKind.signed, IntKind.bits, Bool.and_eq_true] at this
    simp at this; omega
  obtain ⟨l1, E, hP, hR⟩ := enc_pair s n
  obtain ⟨S, M, G, hD⟩ := dec_pair hv hb
  have HP := Lib.hid hP; have HR := Lib.hid hR; have HD := Lib.hid hD; have HT := Lib.hid ht
  clear hP hR hD ht hb hg hv
  go_enter Tryd.func6, Tryd.ntmps6
  go_wp2_with fail
  refine alloc_abs (G := fun w0 => Calls _ _ _ w0 _) ?_
  intro w1 hb1 ho1 hs1
  have B1 := Lib.hid hb1; have O1 := Lib.hid ho1
  clear hb1 hs1 ho1
  refine (HP.out w1).mono ?_
  rintro e w2 ⟨v2, rfl, hv2, ho2⟩
  have B2 := Lib.hid (ho2.got B1.out (by simp)); have O2 := Lib.hid (O1.out.nil_trans ho2); have V2 := Lib.hid hv2
  clear B1 O1 ho2 hv2
  have g0 := cell_got B2.out 0; have g1 := cell_got B2.out 1
  go_wp2_with fail
  refine (HR.out w2).mono ?_
  rintro e w3 ⟨v3, rfl, hv3, ho3⟩
  have O3 := Lib.hid (O2.out.nil_trans ho3); have V3 := Lib.hid hv3; have U3 := Lib.hid (V2.out.kept ho3)
  clear B2 O2 ho3 hv3 V2 g0 g1
  go_wp2_with fail
  refine (HD.out w3 O3.out).1.mono ?_
  rintro e w4 ⟨rfl, ho4⟩
  have O4 := Lib.hid (O3.out.nil_trans ho4); have V4 := Lib.hid (V3.out.kept ho4); have U4 := Lib.hid (U3.out.kept ho4)
  clear O3 ho4 V3 U3
  go_wp2_with fail
  refine alloc_abs (G := fun w0 => Calls _ _ _ w0 _) ?_
  intro w5 hb5 ho5 hs5
  have O5 := Lib.hid (O4.out.nil_trans ho5); have V5 := Lib.hid (V4.out.kept ho5); have U5 := Lib.hid (U4.out.kept ho5); have C5 := Lib.hid hb5
  clear O4 ho5 V4 U4 hb5 hs5
  refine (HD.out w5 O5.out).2.mono ?_
  rintro e w6 ⟨rfl, ho6⟩
  have O6 := Lib.hid (O5.out.nil_trans ho6); have V6 := Lib.hid (V5.out.kept ho6); have U6 := Lib.hid (U5.out.kept ho6); have C6 := Lib.hid (ho6.got C5.out (by simp))
  clear O5 ho6 V5 U5 C5
  go_wp2_with fail
  refine alloc_abs (G := fun w0 => Calls _ _ _ w0 _) ?_
  intro w7 hb7 ho7 hs7
  have O7 := Lib.hid (O6.out.nil_trans ho7); have V7 := Lib.hid (V6.out.kept ho7); have U7 := Lib.hid (U6.out.kept ho7); have C7 := Lib.hid (ho7.got C6.out (by simp)); have D7 := Lib.hid hb7
  clear O6 ho7 V6 U6 C6 hb7 hs7
  refine (equal_enc U7.out V7.out).mono ?_
  rintro e w8 ⟨rfl, rfl⟩
  have i0 := cell_got C7.out 0; have i1 := cell_got C7.out 1
  have j0 := cell_got D7.out 0; have j1 := cell_got D7.out 1
  go_wp2_with fail
  refine (awake_any w7 (HT.out.kept O7.out)).mono ?_
  rintro e w9 ⟨rfl, ho9⟩
  go_wp2_with fail
  go_ret
  exact ⟨rfl, O7.out.nil_trans ho9⟩

set_option maxRecDepth 100000 in
theorem ptimeBytes_lifted (os : Os) (started : os.Started) (H : Type) (enc : TypeId × Value → H) :
    ReturnsInHanded {} Tryd.checked os 6 .any (fun w args => (Rows.ptimeBytesSpec.pre enc Tryd.prog Tryd.f6 Rows.ptimeBytesRow.domain false w args ∧ laidMetH Tryd.prog Rows.ptimeBytesRow.laid w) ∧ sizedMet enc Tryd.prog Tryd.f6 (OpenSpec.ofChange Rows.ptimeBytesSpec) false w args)
      (Rows.ptimeBytesSpec.post enc Tryd.prog Tryd.f6 false true false false) := by
  refine returnsInHanded_of_change_and (C := Tryd.checked) (X := fun w _ => laidMetH Tryd.prog Rows.ptimeBytesRow.laid w) (fun _ _ _ hh h => h.of_heap hh) law_own started (by kernel_rfl) Tryd.func6
    (ChangeSpec.witness_shaped (enc := enc) (C := Tryd.checked) (os := os) (X := fun w _ => laidMetH Tryd.prog Rows.ptimeBytesRow.laid w) false (World.laidAll Tryd.prog os Rows.ptimeBytesRow.laid) #[.agg #[.int .i64 0, .int .i64 0], .slice none 0 0] 8 (World.laidAll_os _ _ _)
      (World.shaped_of_ZipB (by kernel_rfl) (by kernel_rfl)) (by kernel_rfl) (by kernel_rfl) (by kernel_rfl)
      (by rw [MakeChecks.laidMetH_plain _ _ _ (by kernel_rfl)]; exact laidMet_laidAll _ (by kernel_rfl) (by kernel_rfl))) ?_
  intro W base args ds gs before hval0 hW hcnd _ hL _
  have hval : ∀ (j : Nat) t v, Tryd.f6.params[j]? = some t → args[j]? = some v → Value.okWide Tryd.prog W .any base t v := hval0
  have hW' := hW
  obtain ⟨p, q, hA0, hV, rfl, hfz, hnd⟩ := hW
  have hA : DataW.TrodAll enc Tryd.prog W 0 (fun _ => true) true Tryd.f6.params.toList args.toList ds p := hA0
  rw [Tryd.params6] at hA hval
  obtain ⟨v0, vs0, d0, ds0, p0, q0, hargs, rfl, rfl, h0, r0⟩ := trodAll_cons hA
  obtain ⟨v1, vs1, d1, ds1, p1, q1, rfl, rfl, rfl, h1, r1⟩ := trodAll_cons r0
  obtain ⟨rfl, rfl, rfl⟩ := trodAll_nil r1
  obtain rfl : args = #[v0, v1] := by cases args; simp_all
  obtain ⟨rfl, rfl⟩ := trodVars_none hV
  have k0 := h0
  have lt0 : ∀ x ∈ p0, x.block < W.heap.size := by obtain ⟨m, hm⟩ := k0; exact DataW.trod_lt m _ _ _ hm
  obtain ⟨c00, c01, y00, y01, m0, rfl, _, _, hy00, hy01⟩ := open_agg2 Tryd.underlying23 (by kernel_rfl) (by kernel_rfl) (hval 0 23 v0 rfl rfl) h0
  obtain ⟨s0, es0, _, ws0⟩ := DataW.trod_int Tryd.underlying3 hy00
  obtain ⟨n0, en0, _, wn0⟩ := DataW.trod_int Tryd.underlying3 hy01
  simp at es0 en0
  subst es0 en0
  have k1 := h1
  have lt1 : ∀ x ∈ p1, x.block < W.heap.size := by obtain ⟨m, hm⟩ := k1; exact DataW.trod_lt m _ _ _ hm
  obtain ⟨a1, len1, cap1, rfl⟩ := okWide_slice Tryd.underlying37 (hval 1 37 v1 rfl rfl)
  obtain ⟨z1, w1, g1⟩ := vrow_ints Tryd.underlying37 Tryd.underlying5 (by kernel_rfl) h1
  clear hA0 hval0
  refine (bytes_walk s0 n0 a1 len1 cap1 z1 W w1 g1 (tab_of_laid (by kernel_rfl) (by simp [Rows.ptimeBytesRow]) hL)).mono fun e W' ⟨he, ho⟩ => ?_
  subst he
  have bel : Below W.heap.size W W' := ho.nil_below
  exact ⟨_, rfl, _, _, _, [], _, [], hW', trodAll_mk1 (shut_bool Tryd.underlying4 _), (trodAll_cons_mk (Below.trod law_laidOut (by kernel_rfl) (of_decide_eq_true (by kernel_rfl)) k0 bel lt0) (trodAll_cons_mk (Below.trod law_laidOut (by kernel_rfl) (of_decide_eq_true (by kernel_rfl)) k1 bel lt1) trodAll_mk0)), rfl, bel.frame _, fun h => by cases h⟩

theorem ptimeBytes_over : Rows.ptimeBytesRow.holds Tryd.pinned (OpenSpec.ofChange Rows.ptimeBytesSpec) :=
  OpenClaim.holds_of_wide 6 Tryd.f6 rfl rfl rfl rfl rfl rfl rfl ⟨rfl, rfl, rfl, rfl, rfl⟩ rfl rfl rfl rfl rfl (by kernel_rfl) Tryd.func6 (by kernel_rfl)
    (of_decide_eq_true (by kernel_rfl)) (by unfold Func.isWrapper; first | (rw [if_pos (by decide +kernel)]; kernel_rfl) | (rw [if_neg (by decide +kernel)]; exact ⟨rfl, rfl⟩))
    (fun os started H enc _ => ptimeBytes_lifted os started H enc)

theorem ptimeBytes_holds : Rows.PtimeBytesCardSaid :=
  Claim7.holds_tied_plain_at .later [] [.data, .data, .data] true (true, "4b5ff3d97fc2c89bd570ac74b8b16548d0b48ea7ffe4261ef3568e6d8c6ac2c2") true ptimeBytes_over (fun _ h => by cases h) (by kernel_rfl) (fun _ h => by cases h) ptimeBytes_row_tie rfl ⟨rfl, rfl⟩ (by kernel_rfl) rfl
    (fun f fn hf hfn => by
      obtain rfl : f = 6 := Option.some.inj ((show Tryd.prog.funcNamed "timesync/timesynclaw04.PtimeBytes" = some 6 by kernel_rfl).symm.trans hf) |>.symm
      obtain rfl : fn = Tryd.f6 := (Option.some.inj (Tryd.func6.symm.trans hfn)).symm
      exact ⟨by kernel_rfl, fun j t ht => by
        rw [Tryd.params6] at ht
        have hm : t ∈ [23, 37] := by simpa using Array.mem_of_getElem? ht
        have hall : ([23, 37].all fun u => !Tryd.prog.wantsStandIn u) = true := by kernel_rfl
        exact (show Tryd.prog.wantsStandIn t = false by simpa using List.all_eq_true.1 hall t hm)⟩)
    (by kernel_rfl)
end Go.Proofs.YtmkiojnhjfkepaaDoor
